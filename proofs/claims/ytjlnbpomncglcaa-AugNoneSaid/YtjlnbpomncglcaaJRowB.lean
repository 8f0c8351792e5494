/-
  The document's row of chapter 9: what is asked.
-/
import Derived.Test.YtjlnbpomncglcaaProg
import Derived.Test.YtjlnbpomncglcaaJRowA
import Derived.Test.YtjlnbpomncglcaaAugH
namespace Go.Proofs.Ytjlnbpomncglcaa
set_option linter.unusedVariables false
set_option linter.unusedSimpArgs false
set_option maxRecDepth 100000
open Go.RowKit
theorem sumH_isSome (L : Row) : (sumFrom ofH minH none L).isSome = !L.isEmpty := by
  cases L with
  | nil => rfl
  | cons p L =>
    obtain ⟨s, h1, -⟩ := sumH_some L (ofH p.1 p.2)
    have h2 : sumFrom ofH minH none (p :: L) = some s := h1
    rw [h2]
    rfl
theorem sumH_next {L : Row} {i : Nat} {p : RK × Int} (h : L[i]? = some p) : sumFrom ofH minH none (L.take (i + 1)) = some (more minH (sumFrom ofH minH none (L.take i)) (ofH p.1 p.2)) := by
  obtain ⟨hk, e⟩ := List.getElem?_eq_some_iff.1 h
  rw [List.take_succ_eq_append_getElem hk, e, sumFrom_append]
  rfl
theorem uptoH_next {n : Int} {L : Row} {k : Nat} {p : RK × Int} (h : L[k]? = some p) : uptoH n (L.take (k + 1)) = if p.1.1 ≤ n then some (more minH (uptoH n (L.take k)) (ofH p.1 p.2)) else uptoH n (L.take k) := by
  obtain ⟨hk, e⟩ := List.getElem?_eq_some_iff.1 h
  unfold uptoH
  rw [List.take_succ_eq_append_getElem hk, e, upTo_append, sumFrom_append]
  by_cases hp : p.1.1 ≤ n
  · rw [if_pos hp]
    have : upTo n [p] = [p] := by simp [upTo, hp]
    rw [this]
    rfl
  · rw [if_neg hp]
    have : upTo n [p] = [] := by simp [upTo, hp]
    rw [this]
    rfl
theorem j_first (r B : Nat) (v : Value) (L : Row) (w : World) (h : JRow w r B v L) (hf : L.length ≤ 65535) :
    Calls Try.prog 89 #[.pointer (some ⟨r, 0, none⟩)] w fun e w' => e = .returned (.tuple #[.int .i64 (firstK L).2, .bool (!L.isEmpty)]) ∧ Below w.heap.size w w' := by
  obtain ⟨A, c, rfl, -, -, -⟩ := h.form
  have c0 := h.head.get 0 rfl
  cases L with
  | nil =>
    clear h hf
    go_enter Try.func89, Try.ntmps89
    go_wp2
    go_returns
    exact ⟨rfl, Below.refl _ _⟩
  | cons p L' =>
    obtain ⟨g, rfl, -, x0, -, -⟩ := h.cells (i := 0) (p := p) rfl
    rw [Nat.zero_mul] at x0
    obtain ⟨l, hl⟩ : ∃ l, (p :: L').length = l + 1 := ⟨L'.length, rfl⟩
    rw [hl] at c0
    have e1 : (firstK (p :: L')).2 = p.1.2 := rfl
    have e2 : (!List.isEmpty (p :: L')) = true := rfl
    rw [e1, e2]
    have q0 : (0 : Int) < ((l + 1 : Nat) : Int) := by omega
    have d1 : (((l + 1 : Nat) : Int) == 0) = false := beq_eq_false_iff_ne.2 (by omega)
    generalize l + 1 = m at c0 q0 d1 ⊢
    have q2 : 0 < m := by omega
    have d2 : (m == 0) = false := beq_eq_false_iff_ne.2 (by omega)
    clear h hf e1 e2 hl
    go_enter Try.func89, Try.ntmps89
    go_wp2
    go_returns
    exact ⟨rfl, Below.refl _ _⟩
set_option maxHeartbeats 4000000 in
theorem j_within (r B : Nat) (v : Value) (L : Row) (m : Int) (w : World) (h : JRow w r B v L) (hf : L.length ≤ 65535) :
    Calls Try.prog 91 #[.pointer (some ⟨r, 0, none⟩), .int .u64 m] w fun e w' => e = .returned (.tuple #[.int .i64 ((findTo m L).getD (0, 0)).2, .bool (findTo m L).isSome]) ∧ Below w.heap.size w w' := by
  obtain ⟨z, hz⟩ : ∃ z, ((findTo m L).getD (0, 0)).2 = z := ⟨_, rfl⟩
  obtain ⟨bz, hbz⟩ : ∃ z, (findTo m L).isSome = z := ⟨_, rfl⟩
  rw [hz, hbz]
  have HZ := Lib.hid (And.intro hz hbz)
  clear hz hbz
  obtain ⟨A, c, rfl, hlc, hcm, hcells⟩ := h.form
  have HH := Lib.hid h
  have HC := Lib.hid hcells
  obtain ⟨l, hl⟩ : ∃ l, L.length = l := ⟨_, rfl⟩
  have HLL := Lib.hid hl
  have c0 := h.head.get 0 rfl
  rw [hl] at c0 hf hlc HC
  clear h hcells hl hcm hlc
  go_enter Try.func91, Try.ntmps91
  go_wp2
  go_loopg [6] l (fun gk ix wr => ∃ i : Nat, i + gk = l ∧ ix = .int .i64 i ∧ wr = w ∧ anyTo m (L.take i) = false)
  case atStart => exact ⟨0, by omega, rfl, rfl, rfl⟩
  case round =>
    obtain ⟨i, hi, rfl, rfl, hn⟩ := hrel
    have HNO := Lib.hid hn
    clear hn
    by_cases hlt : i < l
    · obtain ⟨gm, rfl⟩ : ∃ gm, gk = gm + 1 := ⟨gk - 1, by omega⟩
      obtain ⟨y, x, q1, q2⟩ := k_lookup (L := L) (i := i) (by rw [HLL.out]; exact hlt)
      obtain ⟨g, rfl, hg1, hg2, hg3⟩ := HC.out (by omega)
      have c1 := (hg3 i _ q1).1
      have c3 := (hg3 i _ q1).2.2
      dsimp only at c1 c3
      have HQ := Lib.hid q1
      have p0 : (0 : Int) ≤ (i : Int) := by omega
      have p1 : (i : Int) < (l : Int) := by omega
      have HI := Lib.hid (And.intro hi hlt)
      have e5 : wrap64 ((i : Int) + 1) = ((i + 1 : Nat) : Int) := by unfold wrap64; omega
      have HSP := Lib.hid (rsplit_at q1)
      clear hg3 q1 q2 hg1 hg2 hi hlt
      by_cases hy : x ≤ m
      · have dy : decide (x ≤ m) = true := decide_eq_true hy
        have hfe : findTo m L = some y := by rw [HSP.out, findTo_right HNO.out, findTo_here hy]
        obtain rfl : z = y.2 := by rw [← HZ.out.1, hfe]; rfl
        obtain rfl : bz = true := by rw [← HZ.out.2, hfe]; rfl
        clear hy hfe
        go_wp2
        go_returns
        exact ⟨rfl, Below.refl _ _⟩
      · have dy : decide (x ≤ m) = false := decide_eq_false hy
        have HNY := Lib.hid hy
        clear hy
        go_wp2
        go_roundg gm
        case rel => exact ⟨i + 1, by have := HI.out; omega, by go_num, rfl, by
          have e : L.take (i + 1) = L.take i ++ [(y, x)] := by
            obtain ⟨hk, e⟩ := List.getElem?_eq_some_iff.1 HQ.out
            rw [List.take_succ_eq_append_getElem hk, e]
          rw [e]
          have h2 := HNO.out
          unfold anyTo at h2 ⊢
          rw [List.any_append, h2]
          simp
          have := HNY.out
          omega⟩
        case measure => omega
    · obtain rfl : gk = 0 := by omega
      obtain rfl : i = l := by omega
      have hno : findTo m L = none := by
        have h := HNO.out
        rw [← HLL.out, List.take_length] at h
        have := findTo_right (B := []) h
        rw [List.append_nil] at this
        rw [this]
        rfl
      obtain rfl : z = 0 := by rw [← HZ.out.1, hno]; rfl
      obtain rfl : bz = false := by rw [← HZ.out.2, hno]; rfl
      clear hno hi hlt
      go_wp2
      go_returns
      exact ⟨rfl, Below.refl _ _⟩
set_option maxHeartbeats 4000000 in
theorem j_lowest (r B : Nat) (v : Value) (L : Row) (w : World) (h : JRow w r B v L) (hf : L.length ≤ 65535) :
    Calls Try.prog 92 #[.pointer (some ⟨r, 0, none⟩)] w fun e w' => e = .returned (.tuple #[.int .u64 ((sumFrom ofH minH none L).getD (0, 0)).1, .bool (!L.isEmpty)]) ∧ Below w.heap.size w w' := by
  rw [← sumH_isSome]
  obtain ⟨z, hz⟩ : ∃ z, ((sumFrom ofH minH none L).getD (0, 0)).1 = z := ⟨_, rfl⟩
  obtain ⟨bz, hbz⟩ : ∃ z, (sumFrom ofH minH none L).isSome = z := ⟨_, rfl⟩
  rw [hz, hbz]
  have HZ := Lib.hid (And.intro hz hbz)
  clear hz hbz
  obtain ⟨A, c, rfl, hlc, hcm, hcells⟩ := h.form
  have HH := Lib.hid h
  have HC := Lib.hid hcells
  obtain ⟨l, hl⟩ : ∃ l, L.length = l := ⟨_, rfl⟩
  have HLL := Lib.hid hl
  have c0 := h.head.get 0 rfl
  rw [hl] at c0 hf hlc HC
  clear h hcells hl hcm hlc
  go_enter Try.func92, Try.ntmps92
  go_wp2
  go_loopg [4, 5, 6] l (fun gk ov iv ix wr => ∃ i : Nat, i + gk = l ∧ ix = .int .i64 i ∧ wr = w ∧ ov = .int .u64 ((sumFrom ofH minH none (L.take i)).getD (0, 0)).1 ∧ iv = .bool (sumFrom ofH minH none (L.take i)).isSome)
  case atStart => exact ⟨0, by omega, rfl, rfl, rfl, rfl⟩
  case round =>
    obtain ⟨i, hi, rfl, rfl, rfl, rfl⟩ := hrel
    by_cases hlt : i < l
    · obtain ⟨gm, rfl⟩ : ∃ gm, gk = gm + 1 := ⟨gk - 1, by omega⟩
      obtain ⟨y, x, q1, q2⟩ := k_lookup (L := L) (i := i) (by rw [HLL.out]; exact hlt)
      obtain ⟨g, rfl, hg1, hg2, hg3⟩ := HC.out (by omega)
      have c3 := (hg3 i _ q1).2.2
      dsimp only at c3
      have HQ := Lib.hid q1
      have p0 : (0 : Int) ≤ (i : Int) := by omega
      have p1 : (i : Int) < (l : Int) := by omega
      have HI := Lib.hid (And.intro hi hlt)
      have e5 : wrap64 ((i : Int) + 1) = ((i + 1 : Nat) : Int) := by unfold wrap64; omega
      have hnx := sumH_next q1
      have HN := Lib.hid hnx
      obtain ⟨s, hs⟩ : ∃ s, sumFrom ofH minH none (L.take i) = s := ⟨_, rfl⟩
      rw [hs] at HN ⊢
      clear hg3 q1 q2 hg1 hg2 hi hlt hnx hs
      cases s with
      | none =>
        go_wp2
        go_roundg gm
        case rel => exact ⟨i + 1, by have := HI.out; omega, by go_num, rfl, by rw [HN.out]; rfl, by rw [HN.out]; rfl⟩
        case measure => omega
      | some s =>
        obtain ⟨s1, s2⟩ := s
        by_cases hx : x < s1
        · have d1 : decide (x < s1) = true := decide_eq_true hx
          have HX : Hid (minH (s1, s2) (x, y.2) = (x, y.2)) := by unfold minH; exact if_pos (ltH_iff.2 (Or.inl hx))
          clear hx
          go_wp2
          go_roundg gm
          case rel => exact ⟨i + 1, by have := HI.out; omega, by go_num, rfl, by rw [HN.out]; show _ = Value.int .u64 (minH (s1, s2) (x, y.2)).1; rw [HX.out], by rw [HN.out]; rfl⟩
          case measure => omega
        · have d1 : decide (x < s1) = false := decide_eq_false hx
          have HX : Hid ((minH (s1, s2) (x, y.2)).1 = s1) := by
            show _ = _
            unfold minH
            split
            · rename_i h
              have h := ltH_iff.1 h
              have e1 : (x, y.2).1 = x := rfl
              have e2 : (s1, s2).1 = s1 := rfl
              rw [e1, e2] at h
              show x = s1
              omega
            · rfl
          clear hx
          go_wp2
          go_roundg gm
          case rel => exact ⟨i + 1, by have := HI.out; omega, by go_num, rfl, by rw [HN.out]; show _ = Value.int .u64 (minH (s1, s2) (x, y.2)).1; rw [HX.out], by rw [HN.out]; rfl⟩
          case measure => omega
    · obtain rfl : gk = 0 := by omega
      obtain rfl : i = l := by omega
      have ht : L.take i = L := by rw [← HLL.out]; exact List.take_length
      rw [ht, HZ.out.1, HZ.out.2]
      clear hi hlt ht
      go_wp2
      go_returns
      exact ⟨rfl, Below.refl _ _⟩
set_option maxHeartbeats 4000000 in
theorem j_least (r B : Nat) (v : Value) (L : Row) (k : Int) (w : World) (h : JRow w r B v L) (hf : L.length ≤ 65535) :
    Calls Try.prog 90 #[.pointer (some ⟨r, 0, none⟩), .int .u64 k] w fun e w' => e = .returned (.tuple #[.int .i64 ((uptoH k L).getD (0, 0)).2, .bool (uptoH k L).isSome]) ∧ Below w.heap.size w w' := by
  obtain ⟨z, hz⟩ : ∃ z, ((uptoH k L).getD (0, 0)).2 = z := ⟨_, rfl⟩
  obtain ⟨bz, hbz⟩ : ∃ z, (uptoH k L).isSome = z := ⟨_, rfl⟩
  rw [hz, hbz]
  have HZ := Lib.hid (And.intro hz hbz)
  clear hz hbz
  obtain ⟨A, c, rfl, hlc, hcm, hcells⟩ := h.form
  have HH := Lib.hid h
  have HC := Lib.hid hcells
  obtain ⟨l, hl⟩ : ∃ l, L.length = l := ⟨_, rfl⟩
  have HLL := Lib.hid hl
  have c0 := h.head.get 0 rfl
  rw [hl] at c0 hf hlc HC
  clear h hcells hl hcm hlc
  go_enter Try.func90, Try.ntmps90
  go_upto_region 2 with (fail)
  obtain ⟨w0, hw0⟩ : ∃ x, w.alloc (.cells #[.int .i64 0, .int .u64 0, .int .u64 0] 130) = x := ⟨_, rfl⟩
  have hb0 : Below w.heap.size w w0 := by rw [← hw0]; go_grown
  have bb : Blk w0 w.heap.size 130 #[.int .i64 0, .int .u64 0, .int .u64 0] := by rw [← hw0]; exact Blk.new w _ _
  rw [hw0]
  have HB0 := Lib.hid hb0
  have HBB := Lib.hid bb
  have HC0 := Lib.hid c0
  have c0 := (hb0.cell (p := ⟨r, 0, none⟩) HH.out.head.lt).trans c0
  clear hb0 bb hw0
  go_wp2
  go_loopg [7, 8] l (fun gk iv ix wr => ∃ (i : Nat) (bk : Int), i + gk = l ∧ ix = .int .i64 i ∧ iv = .bool (uptoH k (L.take i)).isSome ∧ Blk wr w.heap.size 130 #[.int .i64 ((uptoH k (L.take i)).getD (0, 0)).2, .int .u64 bk, .int .u64 ((uptoH k (L.take i)).getD (0, 0)).1] ∧ Below w.heap.size w wr)
  case atStart => exact ⟨0, 0, by omega, rfl, rfl, HBB.out, HB0.out⟩
  case round =>
    obtain ⟨i, bk, hi, rfl, rfl, hbb, hb⟩ := hrel
    obtain ⟨wo, rfl⟩ : ∃ x : World, x = wr := ⟨_, rfl⟩
    have HBW := Lib.hid hb
    have HBK := Lib.hid hbb
    have c0 := (hb.cell (p := ⟨r, 0, none⟩) HH.out.head.lt).trans HC0.out
    clear hb hbb
    by_cases hlt : i < l
    · obtain ⟨gm, rfl⟩ : ∃ gm, gk = gm + 1 := ⟨gk - 1, by omega⟩
      obtain ⟨y, x, q1, q2⟩ := k_lookup (L := L) (i := i) (by rw [HLL.out]; exact hlt)
      obtain ⟨g, rfl, hg1, hg2, hg3⟩ := HC.out (by omega)
      have c1 := (HBW.out.cell (p := ⟨g, i * 3, none⟩) hg2).trans (hg3 i _ q1).1
      have c2 := (HBW.out.cell (p := ⟨g, i * 3 + 1, none⟩) hg2).trans (hg3 i _ q1).2.1
      have c3 := (HBW.out.cell (p := ⟨g, i * 3 + 2, none⟩) hg2).trans (hg3 i _ q1).2.2
      dsimp only at c1 c2 c3
      have HQ := Lib.hid q1
      have p0 : (0 : Int) ≤ (i : Int) := by omega
      have p1 : (i : Int) < (l : Int) := by omega
      have HI := Lib.hid (And.intro hi hlt)
      have e5 : wrap64 ((i : Int) + 1) = ((i + 1 : Nat) : Int) := by unfold wrap64; omega
      have HN := Lib.hid (uptoH_next (n := k) q1)
      obtain ⟨s, hs⟩ : ∃ s, uptoH k (L.take i) = s := ⟨_, rfl⟩
      rw [hs] at HN HBK ⊢
      clear hg3 q1 q2 hg1 hg2 hi hlt hs
      go_upto_region 6 with (fail)
      obtain ⟨w1, hw1⟩ : ∃ z, wo.alloc (.cells #[.int .i64 y.2, .int .u64 y.1, .int .u64 x] 130) = z := ⟨_, rfl⟩
      have hb1 : Below wo.heap.size wo w1 := by rw [← hw1]; go_grown
      have bx : Blk w1 wo.heap.size 130 #[.int .i64 y.2, .int .u64 y.1, .int .u64 x] := by rw [← hw1]; exact Blk.new wo _ _
      have bbk := HBK.out.next hb1
      have hne : w.heap.size ≠ wo.heap.size := by have := HBK.out.lt; omega
      rw [hw1]
      have HW1 : Hid (Below w.heap.size w w1) := below_next HBW.out hb1
      have HBK1 := Lib.hid bbk
      obtain ⟨Bx, hBx⟩ : ∃ z, wo.heap.size = z := ⟨_, rfl⟩
      rw [hBx] at bx hne ⊢
      have x0 := bx.get 0 rfl
      have x1 := bx.get 1 rfl
      have x2 := bx.get 2 rfl
      have b0 := bbk.get 0 rfl
      have b1 := bbk.get 1 rfl
      have b2 := bbk.get 2 rfl
      have f0 := bbk.frozen 0
      have f1 := bbk.frozen 1
      have f2 := bbk.frozen 2
      clear hw1 hb1 bx bbk c0 c1 c2 c3 hBx
      have HNW : Hid (Below w.heap.size w (((w1.setCell ⟨w.heap.size, 0, none⟩ (.int .i64 y.2)).setCell ⟨w.heap.size, 1, none⟩ (.int .u64 y.1)).setCell ⟨w.heap.size, 2, none⟩ (.int .u64 x))) := ((HW1.out.setCell (p := ⟨w.heap.size, 0, none⟩) (Nat.le_refl _) _).setCell (p := ⟨w.heap.size, 1, none⟩) (Nat.le_refl _) _).setCell (p := ⟨w.heap.size, 2, none⟩) (Nat.le_refl _) _
      have HNB := Lib.hid (((HBK1.out.put 0 (.int .i64 y.2)).put 1 (.int .u64 y.1)).put 2 (.int .u64 x))
      by_cases hk : y.1 ≤ k
      · have d0 : decide (y.1 ≤ k) = true := decide_eq_true hk
        have hn1 := HN.out
        rw [if_pos (show ((y, x) : RK × Int).1.1 ≤ k from hk)] at hn1
        have HN1 := Lib.hid hn1
        clear hn1 hk
        cases s with
        | none =>
          go_wp2
          go_roundg gm
          case rel => exact ⟨i + 1, y.1, by have := HI.out; omega, by go_num, by rw [HN1.out]; rfl, by rw [HN1.out]; exact HNB.out, HNW.out⟩
          case measure => omega
        | some s =>
          obtain ⟨s1, s2⟩ := s
          have hcase : (ltH (x, y.2) (s1, s2) = true ∧ (x < s1 ∨ (x = s1 ∧ y.2 < s2))) ∨ (ltH (x, y.2) (s1, s2) = false ∧ ¬ x < s1 ∧ (x = s1 → ¬ y.2 < s2)) := by
            cases hh : ltH (x, y.2) (s1, s2) with
            | true =>
              have := ltH_iff.1 hh
              exact Or.inl ⟨rfl, this⟩
            | false =>
              refine Or.inr ⟨rfl, fun h => ?_, fun h h2 => ?_⟩
              · rw [ltH_iff.2 (Or.inl h)] at hh; cases hh
              · rw [ltH_iff.2 (Or.inr ⟨h, h2⟩)] at hh; cases hh
          rcases hcase with ⟨hh, h2⟩ | ⟨hh, h2, h3⟩
          · have HM : Hid (minH (s1, s2) (x, y.2) = (x, y.2)) := by unfold minH; exact if_pos hh
            rcases h2 with h2 | ⟨h2, h3⟩
            · have d1 : decide (x < s1) = true := decide_eq_true h2
              clear hh h2
              go_wp2
              go_roundg gm
              case rel => exact ⟨i + 1, y.1, by have := HI.out; omega, by go_num, by rw [HN1.out]; rfl, by rw [HN1.out]; show Blk _ _ _ #[.int .i64 (minH (s1, s2) (x, y.2)).2, .int .u64 y.1, .int .u64 (minH (s1, s2) (x, y.2)).1]; rw [HM.out]; exact HNB.out, HNW.out⟩
              case measure => omega
            · subst h2
              have d1 : decide (y.2 < s2) = true := decide_eq_true h3
              clear hh h3
              go_wp2
              go_roundg gm
              case rel => exact ⟨i + 1, y.1, by have := HI.out; omega, by go_num, by rw [HN1.out]; rfl, by rw [HN1.out]; show Blk _ _ _ #[.int .i64 (minH (x, s2) (x, y.2)).2, .int .u64 y.1, .int .u64 (minH (x, s2) (x, y.2)).1]; rw [HM.out]; exact HNB.out, HNW.out⟩
              case measure => omega
          · have HM : Hid (minH (s1, s2) (x, y.2) = (s1, s2)) := by unfold minH; exact if_neg (by rw [hh]; decide)
            have d1 : decide (x < s1) = false := decide_eq_false h2
            by_cases he : x = s1
            · have d2 : decide (y.2 < s2) = false := decide_eq_false (h3 he)
              subst he
              clear hh h2 h3
              go_wp2
              go_roundg gm
              case rel => exact ⟨i + 1, bk, by have := HI.out; omega, by go_num, by rw [HN1.out]; rfl, by rw [HN1.out]; show Blk _ _ _ #[.int .i64 (minH (x, s2) (x, y.2)).2, .int .u64 bk, .int .u64 (minH (x, s2) (x, y.2)).1]; rw [HM.out]; exact HBK1.out, HW1.out⟩
              case measure => omega
            · have d2 : (x == s1) = false := beq_eq_false_iff_ne.2 he
              clear hh h2 h3 he
              go_wp2
              go_roundg gm
              case rel => exact ⟨i + 1, bk, by have := HI.out; omega, by go_num, by rw [HN1.out]; rfl, by rw [HN1.out]; show Blk _ _ _ #[.int .i64 (minH (s1, s2) (x, y.2)).2, .int .u64 bk, .int .u64 (minH (s1, s2) (x, y.2)).1]; rw [HM.out]; exact HBK1.out, HW1.out⟩
              case measure => omega
      · have d0 : decide (y.1 ≤ k) = false := decide_eq_false hk
        have hn1 := HN.out
        rw [if_neg (show ¬ ((y, x) : RK × Int).1.1 ≤ k from hk)] at hn1
        have HN1 := Lib.hid hn1
        clear hn1 hk
        go_wp2
        go_roundg gm
        case rel => exact ⟨i + 1, bk, by have := HI.out; omega, by go_num, by rw [HN1.out], by rw [HN1.out]; exact HBK1.out, HW1.out⟩
        case measure => omega
    · obtain rfl : gk = 0 := by omega
      obtain rfl : i = l := by omega
      have ht : L.take i = L := by rw [← HLL.out]; exact List.take_length
      rw [ht, HZ.out.2]
      rw [ht, HZ.out.1] at HBK
      have b0 := HBK.out.get 0 rfl
      clear hi hlt ht
      go_wp2
      go_returns
      exact ⟨rfl, HBW.out⟩
set_option maxHeartbeats 4000000 in
theorem j_ids (r B : Nat) (v : Value) (L : Row) (w : World) (h : JRow w r B v L) (hf : L.length ≤ 65535) :
    Calls Try.prog 93 #[.pointer (some ⟨r, 0, none⟩)] w fun e w' => ∃ v, e = .returned v ∧ w'.ownsRow w.heap.size 3 1 v L.length (idCells L) ∧ Below w.heap.size w w' := by
  obtain ⟨A, c, rfl, hlc, hcm, hcells⟩ := h.form
  have HH := Lib.hid h
  have HC := Lib.hid hcells
  obtain ⟨l, hl⟩ : ∃ l, L.length = l := ⟨_, rfl⟩
  have HLL := Lib.hid hl
  have c0 := h.head.get 0 rfl
  rw [hl] at c0 hf hlc HC
  clear h hcells hl hcm hlc
  have HF := Lib.hid hf
  have HC0 := Lib.hid c0
  go_enter Try.func93, Try.ntmps93
  go_wp2
  go_loopg [3, 4] l (fun gk sv ix wr => ∃ i : Nat, i + gk = l ∧ ix = .int .i64 i ∧ wr.ownsRow w.heap.size 3 1 sv i (idCells (L.take i)) ∧ Below w.heap.size w wr)
  case atStart => exact ⟨0, by omega, rfl, World.ownsRow_nil _ _ _ _, Below.refl _ _⟩
  case round =>
    obtain ⟨i, hi, rfl, ho, hb⟩ := hrel
    obtain ⟨wo, rfl⟩ : ∃ x : World, x = wr := ⟨_, rfl⟩
    have HBW := Lib.hid hb
    have HO := Lib.hid ho
    have c0 := (hb.cell (p := ⟨r, 0, none⟩) HH.out.head.lt).trans HC0.out
    clear hb ho
    by_cases hlt : i < l
    · obtain ⟨gm, rfl⟩ : ∃ gm, gk = gm + 1 := ⟨gk - 1, by omega⟩
      obtain ⟨y, x, q1, q2⟩ := k_lookup (L := L) (i := i) (by rw [HLL.out]; exact hlt)
      obtain ⟨g, rfl, hg1, hg2, hg3⟩ := HC.out (by omega)
      have c1 := (HBW.out.cell (p := ⟨g, i * 3, none⟩) hg2).trans (hg3 i _ q1).1
      dsimp only at c1
      have HQ := Lib.hid q1
      have p0 : (0 : Int) ≤ (i : Int) := by omega
      have p1 : (i : Int) < (l : Int) := by omega
      have HI := Lib.hid (And.intro hi hlt)
      have e5 : wrap64 ((i : Int) + 1) = ((i + 1 : Nat) : Int) := by unfold wrap64; omega
      have hlf : i < 65535 := by have := HF.out; omega
      clear hg3 q1 q2 hg1 hg2 hi hlt
      obtain ⟨i0, hi0, hz0, hs0, hy0⟩ := info_parts (show (Try.prog.info? 3).map (fun i => (i.zero, i.size, i.bytes)) = some (some (.int .i64 0), 1, 8) by kernel_rfl)
      have HIF := Lib.hid (And.intro hi0 (And.intro hz0 (And.intro hs0 (And.intro hy0 hlf))))
      clear hi0 hz0 hs0 hy0 hlf
      go_wp2_with (at_builtin; refine wpList_append_own _ rfl (.tmp 14) (.tmp 23) 80 rfl w.heap.size 3 i0 (.int .i64 0) 1 8 Try.underlying80 HIF.out.1 HIF.out.2.1 HIF.out.2.2.1 HIF.out.2.2.2.1 rfl (by decide) _ i (idCells (L.take i)) rfl (HO.out.alloc _) ⟨wo.heap.size, 0, none⟩ 1 1 [.int .i64 y.2] rfl rfl (cell_one_new _ _ _) (by simp [Value.oneCell']) (by have := HIF.out.2.2.2.2; unfold maxLen; omega) (by have := HIF.out.2.2.2.2; omega) (by have := HBW.out.size; simp only [World.size_alloc]; omega) ?_; intro v' w1 hown' hgrow _; have HO2 := Lib.hid (And.intro hown' hgrow); clear hown' hgrow)
      have HBZ : Hid (Below w.heap.size w w1) := HBW.out.trans (((Fr.refl (fun j => w.heap.size ≤ j) wo).alloc _ |>.grown HO2.out.2 (fun j e _ => by have := own_ge HO.out e; omega)).below HBW.out.size (fun j hj hn => by omega))
      go_wp2
      go_roundg gm
      case rel => exact ⟨i + 1, by have := HI.out; omega, by go_num, by rw [take_ids HQ.out]; exact HO2.out.1, HBZ.out⟩
      case measure => omega
    · obtain rfl : gk = 0 := by omega
      obtain rfl : i = l := by omega
      have ho := HO.out
      rw [← HLL.out, List.take_length] at ho
      have HOF := Lib.hid ho
      rw [HLL.out] at HOF
      clear hi hlt ho
      go_wp2
      go_ret
      exact ⟨_, rfl, by rw [HLL.out]; exact HOF.out, HBW.out⟩

end Go.Proofs.Ytjlnbpomncglcaa
