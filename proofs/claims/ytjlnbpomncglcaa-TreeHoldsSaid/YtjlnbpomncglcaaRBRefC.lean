/-
  The document's row of chapter 8: the least value; what is put.
-/
import Derived.Test.YtjlnbpomncglcaaProg
import Derived.Test.YtjlnbpomncglcaaRBRefB
namespace Go.Proofs.Ytjlnbpomncglcaa
set_option linter.unusedVariables false
set_option linter.unusedSimpArgs false
set_option maxRecDepth 100000
open Go.RowKit

theorem upto_next {n : Int} {L : Row} {k : Nat} {p : RK × Int} (h : L[k]? = some p) : uptoU n (L.take (k + 1)) = if p.1.1 ≤ n then some (more minV (uptoU n (L.take k)) p.2) else uptoU n (L.take k) := by
  obtain ⟨hk, e⟩ := List.getElem?_eq_some_iff.1 h
  unfold uptoU
  rw [List.take_succ_eq_append_getElem hk, e, upTo_append, sumFrom_append]
  by_cases hp : p.1.1 ≤ n
  · rw [if_pos hp, show upTo n [p] = [p] from upTo_all (fun a ha => by rw [List.mem_singleton.1 ha]; exact hp)]
    rfl
  · rw [if_neg hp, show upTo n [p] = [] from upTo_none (fun a ha => by rw [List.mem_singleton.1 ha]; omega)]
    rfl
theorem more_none {o : Option Int} (h : o.isSome = false) (v : Int) : more minV o v = v := by
  cases o with
  | none => rfl
  | some s => cases h
theorem more_less {o : Option Int} {s v : Int} (h : o.isSome = true) (hs : o.getD 0 = s) (hv : v < s) : more minV o v = v := by
  cases o with
  | none => cases h
  | some s' => have : s' = s := hs; subst this; exact if_pos hv
theorem more_keep {o : Option Int} {s v : Int} (h : o.isSome = true) (hs : o.getD 0 = s) (hv : ¬ v < s) : more minV o v = s := by
  cases o with
  | none => cases h
  | some s' => have : s' = s := hs; subst this; exact if_neg hv
set_option maxHeartbeats 8000000 in
theorem k_least (r B : Nat) (v : Value) (L : Row) (m : Int) (w : World) (h : KRow w r B v L) (hf : L.length ≤ 65535) :
    Calls Try.prog 22 #[.pointer (some ⟨r, 0, none⟩), .int .u64 m] w fun e w' => e = .returned (.tuple #[.int .u64 ((uptoU m L).getD 0), .bool (uptoU m L).isSome]) ∧ Below w.heap.size w w' := by
  obtain ⟨A, c, rfl, hlc, hcm, hcells⟩ := h.form
  have HC := Lib.hid hcells
  obtain ⟨l, hl⟩ : ∃ l, L.length = l := ⟨_, rfl⟩
  have HLL := Lib.hid hl
  have c0 := h.head.get 0 rfl
  rw [hl] at c0 hf hlc HC
  clear h hcells hl hcm hlc
  go_enter Try.func22, Try.ntmps22
  go_wp2
  go_loopg [6, 7, 8] l (fun gk ov bv ix wr => ∃ (i : Nat) (s0 : Int) (b0 : Bool), i + gk = l ∧ ix = .int .i64 i ∧ ov = .int .u64 s0 ∧ bv = .bool b0 ∧ (uptoU m (L.take i)).getD 0 = s0 ∧ (uptoU m (L.take i)).isSome = b0 ∧ wr = w)
  case atStart => exact ⟨0, 0, false, by omega, rfl, rfl, rfl, rfl, rfl, rfl⟩
  case round =>
    obtain ⟨i, s0, b0, hi, rfl, rfl, rfl, hs0, hb0, rfl⟩ := hrel
    have HSV := Lib.hid (And.intro hs0 hb0)
    clear hs0 hb0
    by_cases hlt : i < l
    · obtain ⟨gm, rfl⟩ : ∃ gm, gk = gm + 1 := ⟨gk - 1, by omega⟩
      obtain ⟨y, x, q1, q2⟩ := k_lookup (L := L) (i := i) (by rw [HLL.out]; exact hlt)
      obtain ⟨g, rfl, hg1, hg2, hg3⟩ := HC.out (by omega)
      have c1 := (hg3 i _ q1).1
      have c3 := (hg3 i _ q1).2.2
      dsimp only at c1 c3
      have HQ := Lib.hid q1
      have p0 : (0 : Int) ≤ (i : Int) := by omega
      have p1 : (i : Int) < (l : Int) := by omega
      have e5 : wrap64 ((i : Int) + 1) = ((i + 1 : Nat) : Int) := by unfold wrap64; omega
      clear hg3 q1 q2 hg1 hg2
      by_cases hc1 : y.1 ≤ m
      · have d1 : decide (y.1 ≤ m) = true := decide_eq_true hc1
        have HC1 := Lib.hid hc1
        clear hc1
        cases b0 with
        | false =>
          go_wp2
          go_roundg gm
          case rel => exact ⟨i + 1, x, true, by omega, by go_num, rfl, rfl, by rw [upto_next HQ.out, if_pos (show y.1 ≤ m by have := HC1.out; omega), more_none HSV.out.2]; rfl, by rw [upto_next HQ.out, if_pos (show y.1 ≤ m by have := HC1.out; omega)]; rfl, rfl⟩
          case measure => omega
        | true =>
          by_cases hc2 : x < s0
          · have d2 : decide (x < s0) = true := decide_eq_true hc2
            have HC2 := Lib.hid hc2
            clear hc2
            go_wp2
            go_roundg gm
            case rel => exact ⟨i + 1, x, true, by omega, by go_num, rfl, rfl, by rw [upto_next HQ.out, if_pos (show y.1 ≤ m by have := HC1.out; omega), more_less HSV.out.2 HSV.out.1 (by have := HC2.out; omega)]; rfl, by rw [upto_next HQ.out, if_pos (show y.1 ≤ m by have := HC1.out; omega)]; rfl, rfl⟩
            case measure => omega
          · have d2 : decide (x < s0) = false := decide_eq_false hc2
            have HC2 := Lib.hid hc2
            clear hc2
            go_wp2
            go_roundg gm
            case rel => exact ⟨i + 1, s0, true, by omega, by go_num, rfl, rfl, by rw [upto_next HQ.out, if_pos (show y.1 ≤ m by have := HC1.out; omega), more_keep HSV.out.2 HSV.out.1 (by have := HC2.out; omega)]; rfl, by rw [upto_next HQ.out, if_pos (show y.1 ≤ m by have := HC1.out; omega)]; rfl, rfl⟩
            case measure => omega
      · have d1 : decide (y.1 ≤ m) = false := decide_eq_false hc1
        have HC1 := Lib.hid hc1
        clear hc1
        go_wp2
        go_roundg gm
        case rel => exact ⟨i + 1, s0, b0, by omega, by go_num, rfl, rfl, by rw [upto_next HQ.out, if_neg (show ¬ y.1 ≤ m by have := HC1.out; omega)]; exact HSV.out.1, by rw [upto_next HQ.out, if_neg (show ¬ y.1 ≤ m by have := HC1.out; omega)]; exact HSV.out.2, rfl⟩
        case measure => omega
    · obtain rfl : gk = 0 := by omega
      obtain rfl : i = l := by omega
      have hfin : (uptoU m L).getD 0 = s0 ∧ (uptoU m L).isSome = b0 := by
        have h := HSV.out
        rw [← HLL.out, List.take_length] at h
        exact h
      have HFI := Lib.hid hfin
      clear hfin
      go_wp2
      go_ret2
      exact ⟨by rw [HFI.out.1, HFI.out.2]; simp, Below.refl _ _⟩

end Go.Proofs.Ytjlnbpomncglcaa
