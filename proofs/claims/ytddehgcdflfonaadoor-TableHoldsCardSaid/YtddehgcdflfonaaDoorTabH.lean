/-
  Acts on a table; the chapter's examples.
-/
import Derived.Test.YtddehgcdflfonaaDoorProg
import Derived.Test.YtddehgcdflfonaaDoorTabG
import Derived.StillTailTactics
namespace Go.Proofs.YtddehgcdflfonaaDoor
set_option linter.unusedVariables false
set_option linter.unusedSimpArgs false
set_option maxRecDepth 100000
open Go.RowKit Go.Shelf

/-- Acts that came in: kinds, ids, values, ids that are asked. -/
structure TActs (w : World) (A : Option Addr) (n : Nat) (K I V Q : Nat → Int) : Prop where
  addr : 0 < n → ∃ b off, A = some ⟨b, off, none⟩ ∧ b < w.heap.size
  cells : ∀ b off, A = some ⟨b, off, none⟩ → ∀ i, i < n → w.cell? ⟨b, off + i * 4, none⟩ = some (.int .u8 (K i)) ∧ w.cell? ⟨b, off + i * 4 + 1, none⟩ = some (.int .i64 (I i)) ∧ w.cell? ⟨b, off + i * 4 + 2, none⟩ = some (.int .u64 (V i)) ∧ w.cell? ⟨b, off + i * 4 + 3, none⟩ = some (.int .i64 (Q i))
theorem TActs.next {w w' : World} {A : Option Addr} {n : Nat} {K I V Q : Nat → Int} {B : Nat} (h : TActs w A n K I V Q) (hb : Below B w w') (hB : ∀ b off, 0 < n → A = some ⟨b, off, none⟩ → b < B) : TActs w' A n K I V Q :=
  ⟨fun hn => by obtain ⟨b, off, e, hlt⟩ := h.addr hn; exact ⟨b, off, e, Nat.lt_of_lt_of_le hlt hb.size⟩,
   fun b off e i hi => by
    obtain ⟨a1, a2, a3, a4⟩ := h.cells b off e i hi
    have hb' := hB b off (by omega) e
    exact ⟨(hb.cell (p := ⟨b, off + i * 4, none⟩) hb').trans a1, (hb.cell (p := ⟨b, off + i * 4 + 1, none⟩) hb').trans a2, (hb.cell (p := ⟨b, off + i * 4 + 2, none⟩) hb').trans a3, (hb.cell (p := ⟨b, off + i * 4 + 3, none⟩) hb').trans a4⟩⟩
/-- What acts may be. -/
structure TMay (K I V Q : Nat → Int) : Prop where
  k : ∀ i, 0 ≤ K i ∧ K i ≤ 255
  i : ∀ j, -9223372036854775808 ≤ I j ∧ I j ≤ 9223372036854775807
  v : ∀ i, Word (V i)
  q : ∀ j, -9223372036854775808 ≤ Q j ∧ Q j ≤ 9223372036854775807
def actStep (k id v : Int) (L : TRow) : TRow := if k % 3 = 0 then tput id v L else if k % 3 = 1 then tset id v L else tdel id L
def actRow (K I V : Nat → Int) : Nat → TRow
  | 0 => []
  | i + 1 => actStep (K i) (I i) (V i) (actRow K I V i)
theorem tput_ok {L : TRow} (h : TOk L) {id v : Int} (hv : Word v) : TOk (tput id v L) := by
  unfold tput
  split
  · rename_i c; exact h.ins c.1 c.2.1 hv c.2.2
  · exact h
theorem actStep_ok {L : TRow} (h : TOk L) {k id v : Int} (hv : Word v) : TOk (actStep k id v L) := by
  unfold actStep
  split
  · exact tput_ok h hv
  · split
    · exact h.set hv
    · exact h.del id

set_option maxHeartbeats 1000000 in
theorem acted_many (A : Option Addr) (n c : Nat) (w : World) (hB : BrAt w) (hn : 200 < n) (hm : c ≤ maxLen) (hl : n ≤ c) :
    Calls Tryd.prog 16 #[.slice A n c] w fun e w' => e = .returned (.pointer none) ∧ Below w.heap.size w w' := by
  have HB := Lib.hid hB
  have d : decide ((200 : Int) < (n : Int)) = true := decide_eq_true (by omega)
  have d2 : decide (200 < n) = true := decide_eq_true hn
  clear hB hn hm hl
  go_enter Tryd.func16, Tryd.ntmps16
  go_wp2_with fail
  with_reducible refine (tb_new _ HB.out).mono ?_
  rintro e w1 ⟨rfl, -, hb⟩
  go_wp2
  go_ret
  exact ⟨rfl, hb⟩

set_option maxHeartbeats 4000000 in
theorem acted_any (A : Option Addr) (n c : Nat) (K I V Q : Nat → Int) (w : World) (hB : BrAt w) (hA : TActs w A n K I V Q) (hM : TMay K I V Q) (hn : n ≤ 200) (hl : n ≤ c) (hm : c ≤ maxLen) :
    Calls Tryd.prog 16 #[.slice A n c] w fun e w' => ∃ T S, e = .returned (.pointer (some ⟨T, 0, none⟩)) ∧ Tb w' T S n (actRow K I V n) ∧ Below w.heap.size w w' ∧ ∀ k, S k → w.heap.size ≤ k := by
  have HB := Lib.hid hB
  have HA := Lib.hid hA
  have HM := Lib.hid hM
  have d : decide ((200 : Int) < (n : Int)) = false := decide_eq_false (by omega)
  have d2 : decide (200 < n) = false := decide_eq_false (by omega)
  clear hB hA hM hm hl
  go_enter Tryd.func16, Tryd.ntmps16
  go_wp2_with fail
  with_reducible refine (tb_new _ HB.out).mono ?_
  rintro e w1 ⟨rfl, hT, hb⟩
  have HT := Lib.hid hT
  have HB1 := Lib.hid hb
  clear hT hb
  have d3 : decide (n ≤ 200) = true := decide_eq_true hn
  go_wp2
  go_loopg [4] n (fun gk ix wr => ∃ i : Nat, i + gk = n ∧ ix = .int .i64 i ∧ (∃ S, Tb wr (w.heap.size + 1) S i (actRow K I V i) ∧ ∀ k, S k → w.heap.size ≤ k) ∧ Below w.heap.size w wr)
  case atStart => exact ⟨0, by omega, rfl, ⟨_, HT.out, fun k hk => by omega⟩, HB1.out⟩
  case round =>
    obtain ⟨i, hi, rfl, ⟨S, hT, hS⟩, hb⟩ := hrel
    have HTR := Lib.hid hT
    have HSR := Lib.hid hS
    have HBR := Lib.hid hb
    clear hT hS hb HT HB1
    obtain ⟨wo, rfl⟩ : ∃ x : World, x = wr := ⟨_, rfl⟩
    by_cases hlt : i < n
    · obtain ⟨gm, rfl⟩ : ∃ gm, gk = gm + 1 := ⟨gk - 1, by omega⟩
      obtain ⟨bA, off, rfl, hbA⟩ := HA.out.addr (by omega)
      obtain ⟨c0, c1, c2, -⟩ := HA.out.cells bA off rfl i hlt
      have c0 := (HBR.out.cell (p := ⟨bA, off + i * 4, none⟩) hbA).trans c0
      have c1 := (HBR.out.cell (p := ⟨bA, off + i * 4 + 1, none⟩) hbA).trans c1
      have c2 := (HBR.out.cell (p := ⟨bA, off + i * 4 + 2, none⟩) hbA).trans c2
      have hkb := HM.out.k i
      have hib := HM.out.i i
      have hvb := HM.out.v i
      have HSTEP := Lib.hid (show actRow K I V (i + 1) = actStep (K i) (I i) (V i) (actRow K I V i) from rfl)
      obtain ⟨k, hk⟩ : ∃ x, K i = x := ⟨_, rfl⟩
      obtain ⟨id, hid⟩ : ∃ x, I i = x := ⟨_, rfl⟩
      obtain ⟨v, hv⟩ : ∃ x, V i = x := ⟨_, rfl⟩
      rw [hk, hid, hv] at HSTEP
      rw [hk] at c0 hkb
      rw [hid] at c1 hib
      rw [hv] at c2 hvb
      clear hk hid hv
      have HV := Lib.hid hvb
      have HI := Lib.hid hib
      have k0 := hkb.1
      have k1 := hkb.2
      clear hvb hib hkb
      have p0 : (0 : Int) ≤ (i : Int) := by omega
      have p1 : (i : Int) < (n : Int) := by omega
      have e5 : wrap64 ((i : Int) + 1) = ((i + 1 : Nat) : Int) := by unfold wrap64; omega
      have hk3 : k % 3 = 0 ∨ k % 3 = 1 ∨ k % 3 = 2 := by omega
      have hD := Lib.hid (HTR.out.next (below_of_drew (Below.refl wo.heap.size wo)))
      have PUT := Lib.hid (tb_put (w.heap.size + 1) i S (actRow K I V i) id v wo.drew hD.out HV.out (by omega))
      have SET := Lib.hid (tb_set (w.heap.size + 1) i S (actRow K I V i) id v wo.drew hD.out HV.out)
      have DROP := Lib.hid (tb_drop (w.heap.size + 1) i S (actRow K I V i) id wo HTR.out)
      have FB : Hid (∀ w', Fr S wo w' → Below w.heap.size w w') := fun w' hf => HBR.out.trans (hf.below HBR.out.size (fun j hj hs => by have := HSR.out j hs; omega))
      rcases hk3 with hk3 | hk3 | hk3
      · have HL := Lib.hid (show actStep k id v (actRow K I V i) = tput id v (actRow K I V i) by unfold actStep; rw [if_pos hk3])
        go_wp2
        go_still_tail 11, (by kernel_rfl)
        go_wp2_with fail
        with_reducible refine (PUT.out).mono ?_
        rintro e w2 ⟨rfl, S', hT', hF, hN⟩
        have HP := Lib.hid (And.intro hT' (And.intro hF hN))
        clear hT' hF hN
        go_wp2
        go_roundg gm
        case rel => exact ⟨i + 1, by omega, by go_num, ⟨S', by rw [HSTEP.out, HL.out]; exact HP.out.1, fun j hj => by
          rcases HP.out.2.2 j hj with h | h
          · exact HSR.out j h
          · exact Nat.le_trans HBR.out.size h⟩, FB.out _ ((Fr.refl S wo).drew.trans HP.out.2.1)⟩
        case measure => omega
      · have HL := Lib.hid (show actStep k id v (actRow K I V i) = tset id v (actRow K I V i) by unfold actStep; rw [if_neg (by omega), if_pos hk3])
        go_wp2
        go_still_tail 11, (by kernel_rfl)
        go_wp2_with fail
        with_reducible refine (SET.out).mono ?_
        rintro e w2 ⟨rfl, hT', hF⟩
        have HP := Lib.hid (And.intro hT' hF)
        clear hT' hF
        go_wp2
        go_roundg gm
        case rel => exact ⟨i + 1, by omega, by go_num, ⟨S, by rw [HSTEP.out, HL.out]; exact HP.out.1.mono (by omega), HSR.out⟩, FB.out _ ((Fr.refl S wo).drew.trans HP.out.2)⟩
        case measure => omega
      · have HL := Lib.hid (show actStep k id v (actRow K I V i) = tdel id (actRow K I V i) by unfold actStep; rw [if_neg (by omega), if_neg (by omega)])
        go_wp2_with fail
        with_reducible refine (DROP.out).mono ?_
        rintro e w2 ⟨rfl, hT', hF⟩
        have HP := Lib.hid (And.intro hT' hF)
        clear hT' hF
        go_wp2
        go_roundg gm
        case rel => exact ⟨i + 1, by omega, by go_num, ⟨S, by rw [HSTEP.out, HL.out]; exact HP.out.1.mono (by omega), HSR.out⟩, FB.out _ HP.out.2⟩
        case measure => omega
    · obtain rfl : gk = 0 := by omega
      obtain rfl : i = n := by omega
      clear hlt hi
      go_wp2
      go_ret
      exact ⟨_, S, rfl, HTR.out, HBR.out, HSR.out⟩

/-! ### A table of the call's own -/
def TbNew (w0 w : World) (T N : Nat) (L : TRow) : Prop := ∃ S, Tb w T S N L ∧ (∀ k, S k → w0.heap.size ≤ k) ∧ Below w0.heap.size w0 w
section
variable {w0 w w' : World} {T N : Nat} {L : TRow}
theorem TbNew.next (h : TbNew w0 w T N L) (hb : Below w.heap.size w w') : TbNew w0 w' T N L := by obtain ⟨S, h1, h2, h3⟩ := h; exact ⟨S, h1.next hb, h2, below_next h3 hb⟩
theorem TbNew.below (h : TbNew w0 w T N L) : Below w0.heap.size w0 w := by obtain ⟨S, h1, h2, h3⟩ := h; exact h3
theorem TbNew.ok (h : TbNew w0 w T N L) : TOk L := by obtain ⟨S, h1, h2, h3⟩ := h; exact h1.ok
theorem TbNew.br (h : TbNew w0 w T N L) : BrAt w := by obtain ⟨S, h1, h2, h3⟩ := h; exact h1.br
end
theorem tn_new (w : World) (hB : BrAt w) : Calls Tryd.prog 10 #[] w fun e w' => ∃ T, e = .returned (.pointer (some ⟨T, 0, none⟩)) ∧ TbNew w w' T 0 [] :=
  (tb_new w hB).mono fun e w' ⟨h1, h2, h3⟩ => ⟨_, h1, _, h2, fun k hk => by omega, h3⟩
theorem tn_get (T N : Nat) (L : TRow) (id : Int) (w0 w : World) (h : TbNew w0 w T N L) :
    Calls Tryd.prog 11 #[.pointer (some ⟨T, 0, none⟩), .int .i64 id] w fun e w' => e = .returned (.tuple #[.int .u64 ((tget id L).getD 0), .bool (tget id L).isSome]) ∧ TbNew w0 w' T N L := by
  obtain ⟨S, h1, h2, h3⟩ := h
  exact (tb_get T N S L id w h1).mono fun e w' ⟨k1, k2⟩ => ⟨k1, S, h1.next k2, h2, below_next h3 k2⟩
theorem tn_len (T N : Nat) (L : TRow) (w0 w : World) (h : TbNew w0 w T N L) : Calls Tryd.prog 12 #[.pointer (some ⟨T, 0, none⟩)] w fun e w' => e = .returned (.int .i64 (L.length : Int)) ∧ w = w' := by
  obtain ⟨S, h1, h2, h3⟩ := h
  exact tb_len T N S L w h1
theorem tn_next (T N : Nat) (L : TRow) (id : Int) (w0 w : World) (h : TbNew w0 w T N L) (h64 : -9223372036854775808 ≤ id) :
    Calls Tryd.prog 18 #[.pointer (some ⟨T, 0, none⟩), .int .i64 id] w fun e w' => e = .returned (.tuple #[.int .i64 ((tnext id L).getD 0), .bool (tnext id L).isSome]) ∧ w = w' := by
  obtain ⟨S, h1, h2, h3⟩ := h
  exact tb_next T N S L id w h1 h64
theorem tn_set (T N : Nat) (L : TRow) (id v : Int) (w0 w : World) (h : TbNew w0 w T N L) (hv : Word v) :
    Calls Tryd.prog 14 #[.pointer (some ⟨T, 0, none⟩), .int .i64 id, .int .u64 v] w fun e w' => e = .returned (.int .i64 (askE L id true)) ∧ TbNew w0 w' T N (tset id v L) := by
  obtain ⟨S, h1, h2, h3⟩ := h
  exact (tb_set T N S L id v w h1 hv).mono fun e w' ⟨k1, k2, k3⟩ => ⟨k1, S, k2, h2, h3.trans (k3.below h3.size (fun j hj hs => by have := h2 j hs; omega))⟩
theorem tn_drop (T N : Nat) (L : TRow) (id : Int) (w0 w : World) (h : TbNew w0 w T N L) :
    Calls Tryd.prog 15 #[.pointer (some ⟨T, 0, none⟩), .int .i64 id] w fun e w' => e = .returned (.int .i64 (askE L id true)) ∧ TbNew w0 w' T N (tdel id L) := by
  obtain ⟨S, h1, h2, h3⟩ := h
  exact (tb_drop T N S L id w h1).mono fun e w' ⟨k1, k2, k3⟩ => ⟨k1, S, k2, h2, h3.trans (k3.below h3.size (fun j hj hs => by have := h2 j hs; omega))⟩
theorem tn_put (T N : Nat) (L : TRow) (id v : Int) (w0 w : World) (h : TbNew w0 w T N L) (hv : Word v) (hN : N < 1000000) :
    Calls Tryd.prog 13 #[.pointer (some ⟨T, 0, none⟩), .int .i64 id, .int .u64 v] w fun e w' => e = .returned (.int .i64 (askE L id false)) ∧ TbNew w0 w' T (N + 1) (tput id v L) := by
  obtain ⟨S, h1, h2, h3⟩ := h
  refine (tb_put T N S L id v w h1 hv hN).mono ?_
  rintro e w' ⟨k1, S', k2, k3, k4⟩
  refine ⟨k1, S', k2, fun j hj => ?_, h3.trans (k3.below h3.size (fun j hj hs => by have := h2 j hs; omega))⟩
  rcases k4 j hj with h | h
  · exact h2 j h
  · exact Nat.le_trans h3.size h
theorem tn_acted (A : Option Addr) (n c : Nat) (K I V Q : Nat → Int) (w : World) (hB : BrAt w) (hA : TActs w A n K I V Q) (hM : TMay K I V Q) (hn : n ≤ 200) (hl : n ≤ c) (hm : c ≤ maxLen) :
    Calls Tryd.prog 16 #[.slice A n c] w fun e w' => ∃ T, e = .returned (.pointer (some ⟨T, 0, none⟩)) ∧ TbNew w w' T n (actRow K I V n) := by
  refine (acted_any A n c K I V Q w hB hA hM hn hl hm).mono ?_
  rintro e w' ⟨T, S, h1, h2, h3, h4⟩
  exact ⟨T, h1, S, h2, h4, h3⟩

theorem tn_put_lit (T N : Nat) (L : TRow) (id v E : Int) (L' : TRow) (w0 w : World) (h : TbNew w0 w T N L) (hv : Word v) (hN : N < 1000000) (e1 : askE L id false = E) (e2 : tput id v L = L') :
    Calls Tryd.prog 13 #[.pointer (some ⟨T, 0, none⟩), .int .i64 id, .int .u64 v] w fun e w' => e = .returned (.int .i64 E) ∧ TbNew w0 w' T (N + 1) L' := by
  rw [← e1, ← e2]; exact tn_put T N L id v w0 w h hv hN
theorem tn_set_lit (T N : Nat) (L : TRow) (id v E : Int) (L' : TRow) (w0 w : World) (h : TbNew w0 w T N L) (hv : Word v) (e1 : askE L id true = E) (e2 : tset id v L = L') :
    Calls Tryd.prog 14 #[.pointer (some ⟨T, 0, none⟩), .int .i64 id, .int .u64 v] w fun e w' => e = .returned (.int .i64 E) ∧ TbNew w0 w' T N L' := by
  rw [← e1, ← e2]; exact tn_set T N L id v w0 w h hv
theorem tn_get_lit (T N : Nat) (L : TRow) (id v : Int) (b : Bool) (w0 w : World) (h : TbNew w0 w T N L) (e1 : (tget id L).getD 0 = v) (e2 : (tget id L).isSome = b) :
    Calls Tryd.prog 11 #[.pointer (some ⟨T, 0, none⟩), .int .i64 id] w fun e w' => e = .returned (.tuple #[.int .u64 v, .bool b]) ∧ TbNew w0 w' T N L := by
  rw [← e1, ← e2]; exact tn_get T N L id w0 w h
theorem tn_next_lit (T N : Nat) (L : TRow) (id v : Int) (b : Bool) (w0 w : World) (h : TbNew w0 w T N L) (h64 : -9223372036854775808 ≤ id) (e1 : (tnext id L).getD 0 = v) (e2 : (tnext id L).isSome = b) :
    Calls Tryd.prog 18 #[.pointer (some ⟨T, 0, none⟩), .int .i64 id] w fun e w' => e = .returned (.tuple #[.int .i64 v, .bool b]) ∧ w = w' := by
  rw [← e1, ← e2]; exact tn_next T N L id w0 w h h64

set_option maxHeartbeats 4000000 in
theorem tab_awake (w : World) (hB : BrAt w) : Calls Tryd.prog 9 #[] w fun e w' => e = .returned (.bool true) ∧ Below w.heap.size w w' := by
  have HB := Lib.hid hB
  clear hB
  go_enter Tryd.func9, Tryd.ntmps9
  go_wp2_with fail
  with_reducible refine (tn_new w HB.out).mono ?_
  rintro e w1 ⟨T, rfl, h⟩
  have H1 := Lib.hid h
  clear h
  go_wp2_with fail
  with_reducible refine (tn_put_lit T 0 [] 7 1 0 [(7, 1)] w w1 H1.out (by decide) (by omega) (by decide) (by decide)).mono ?_
  rintro e w2 ⟨rfl, h⟩
  have H2 := Lib.hid h
  clear h H1
  go_wp2_with fail
  with_reducible refine (tn_put_lit T 1 [(7, 1)] 300 2 0 [(7, 1), (300, 2)] w w2 H2.out (by decide) (by omega) (by decide) (by decide)).mono ?_
  rintro e w3 ⟨rfl, h⟩
  have H3 := Lib.hid h
  clear h H2
  go_wp2_with fail
  with_reducible refine (tn_put_lit T 2 [(7, 1), (300, 2)] 7 3 80 [(7, 1), (300, 2)] w w3 H3.out (by decide) (by omega) (by decide) (by decide)).mono ?_
  rintro e w4 ⟨rfl, h⟩
  have H4 := Lib.hid h
  clear h H3
  go_wp2_with fail
  with_reducible refine (tn_put_lit T 3 [(7, 1), (300, 2)] 0 1 2 [(7, 1), (300, 2)] w w4 H4.out (by decide) (by omega) (by decide) (by decide)).mono ?_
  rintro e w5 ⟨rfl, h⟩
  have H5 := Lib.hid h
  clear h H4
  go_wp2_with fail
  with_reducible refine (tn_put_lit T 4 [(7, 1), (300, 2)] 65536 1 2 [(7, 1), (300, 2)] w w5 H5.out (by decide) (by omega) (by decide) (by decide)).mono ?_
  rintro e w6 ⟨rfl, h⟩
  have H6 := Lib.hid h
  clear h H5
  go_wp2_with fail
  with_reducible refine (tn_set_lit T 5 [(7, 1), (300, 2)] 8 1 81 [(7, 1), (300, 2)] w w6 H6.out (by decide) (by decide) (by decide)).mono ?_
  rintro e w7 ⟨rfl, h⟩
  have H7 := Lib.hid h
  clear h H6
  go_wp2_with fail
  with_reducible refine (tn_next_lit T 5 [(7, 1), (300, 2)] 0 7 true w w7 H7.out (by omega) (by decide) (by decide)).mono ?_
  rintro e wx ⟨rfl, rfl⟩
  go_wp2_with fail
  with_reducible refine (tn_next_lit T 5 [(7, 1), (300, 2)] 7 300 true w w7 H7.out (by omega) (by decide) (by decide)).mono ?_
  rintro e wx ⟨rfl, rfl⟩
  go_wp2_with fail
  with_reducible refine (tn_next_lit T 5 [(7, 1), (300, 2)] 300 0 false w w7 H7.out (by omega) (by decide) (by decide)).mono ?_
  rintro e wx ⟨rfl, rfl⟩
  go_wp2_with fail
  with_reducible refine (tn_get_lit T 5 [(7, 1), (300, 2)] 7 1 true w w7 H7.out (by decide) (by decide)).mono ?_
  rintro e w8 ⟨rfl, h⟩
  have H8 := Lib.hid h
  clear h H7
  go_wp2_with fail
  with_reducible refine (tn_len T 5 [(7, 1), (300, 2)] w w8 H8.out).mono ?_
  rintro e wx ⟨rfl, rfl⟩
  go_wp2
  go_ret
  exact ⟨rfl, H8.out.below⟩

end Go.Proofs.YtddehgcdflfonaaDoor
