/-
  The walk of the law LinkNever: nothing is through ahead of the grains by the rate; sends don't overlap.
-/
import Derived.Test.YtgkkhdnoikfppaaProg
import Derived.Test.YtgkkhdnoikfppaaLinkB
import Derived.Test.YtgkkhdnoikfppaaLinkAwake
import Derived.Test.YtgkkhdnoikfppaaNeverPlain
import Derived.Test.YtgkkhdnoikfppaaRegionZ
namespace Go.Proofs.Ytgkkhdnoikfppaa
set_option linter.unusedVariables false
set_option linter.unusedSimpArgs false
open Go.RowKit

theorem upDiv_shift {a g r : Int} (hr : 0 < r) : upDiv (a * r + g) r = a + upDiv g r := by
  unfold upDiv
  rw [show a * r + g + r - 1 = (g + r - 1) + a * r by omega, Int.add_mul_ediv_right _ _ (by omega)]
  omega
theorem upDiv_less {g r : Int} (hr : 0 < r) (hg : 0 ≤ g) : upDiv g r ≤ g := by
  have m := upDiv_mul (g := g) hr
  rcases Int.lt_or_le g (upDiv g r) with c | c
  · have : r * (g + 1) ≤ r * upDiv g r := Int.mul_le_mul_of_nonneg_left (by omega) (by omega)
    have e : r * (g + 1) = r * g + r := by rw [Int.mul_add, Int.mul_one]
    have : 1 * g ≤ r * g := Int.mul_le_mul_of_nonneg_right (by omega) hg
    omega
  · exact c
theorem upDiv_pos0 {g r : Int} (hr : 0 < r) (hg : 0 ≤ g) : 0 ≤ upDiv g r := by
  unfold upDiv; exact Int.ediv_nonneg (by omega) (by omega)
theorem from_cases (T r now : Int) (I : Bool) : sendFrom T r now I = now * r ∨ (sendFrom T r now I = T ∧ now = upDiv T r) := by
  unfold sendFrom
  by_cases h : (!I && now == upDiv T r) = true
  · right
    rw [if_pos h]
    simp only [Bool.and_eq_true, beq_iff_eq] at h
    exact ⟨rfl, h.2⟩
  · left; rw [if_neg h]

theorem row_reads {w : World} {base n : Nat} {v : Value} {X : Nat → Int} (h : w.ownsRow base 22 1 v n (rowOf X n)) :
    ∃ A c, v = .slice A n c ∧ n ≤ c ∧ c ≤ maxLen ∧ (0 < n → ∃ g, A = some ⟨g, 0, none⟩ ∧ g < w.heap.size ∧ ∀ j, j < n → w.cell? ⟨g, j, none⟩ = some (.int .u64 (X j))) := by
  rcases h.2 with ⟨rfl, rfl⟩ | ⟨g, cap, cur, rfl, hb, hg, h1, h2, h3, h4⟩
  · exact ⟨none, 0, rfl, Nat.le_refl _, Nat.zero_le _, fun h => by omega⟩
  · refine ⟨_, cap, rfl, h1, h2, fun _ => ⟨g, rfl, lt_of_block hg, fun j hj => ?_⟩⟩
    have := h.cells (g := g) rfl j _ (rowOf_get hj)
    rw [Addr.add_lit, Nat.zero_add] at this
    exact this

/-- What the law has so far: the link, and three rows that lie apart. -/
def NeverAt (w0 w : World) (b : Nat) (r : Int) (k : Nat) (T : Int) (I : Bool) (F E G : Nat → Int) (vf ve vg : Value) : Prop :=
  IsLink w b r T I ∧ w.ownsRow (b + 1) 22 1 vf k (rowOf F k) ∧ w.ownsRow (b + 1) 22 1 ve k (rowOf E k) ∧ w.ownsRow (b + 1) 22 1 vg k (rowOf G k) ∧ (Apart vf ve ∧ Apart vf vg ∧ Apart ve vg) ∧ NeverOk r T k F E G ∧ 0 ≤ T ∧ Below w0.heap.size w0 w
section
variable {w0 w w' : World} {b k : Nat} {r T : Int} {I : Bool} {F E G : Nat → Int} {vf ve vg : Value}
theorem NeverAt.next (h : NeverAt w0 w b r k T I F E G vf ve vg) (hb : Below w.heap.size w w') : NeverAt w0 w' b r k T I F E G vf ve vg :=
  ⟨Blk.next h.1 hb, own_next h.2.1 hb, own_next h.2.2.1 hb, own_next h.2.2.2.1 hb, h.2.2.2.2.1, h.2.2.2.2.2.1, h.2.2.2.2.2.2.1, below_next h.2.2.2.2.2.2.2 hb⟩
theorem NeverAt.link {J : Bool} (h : NeverAt w0 w b r k T I F E G vf ve vg) (hb0 : w0.heap.size ≤ b) (hl : IsLink w' b r T J) (hf : Fr (fun j => j = b) w w') : NeverAt w0 w' b r k T J F E G vf ve vg := by
  obtain ⟨h1, h2, h3, h4, h5, h6, h7, h8⟩ := h
  refine ⟨hl, ownsRow_fr h2 hf ?_, ownsRow_fr h3 hf ?_, ownsRow_fr h4 hf ?_, h5, h6, h7, h8.trans (hf.below (B := w0.heap.size) h8.size fun j hj e => by omega)⟩
  · intro j hj e; have := (h2.lt j hj).1; omega
  · intro j hj e; have := (h3.lt j hj).1; omega
  · intro j hj e; have := (h4.lt j hj).1; omega
/-- Behind a send: the link alone has turned. -/
def SentAt (w0 w : World) (b : Nat) (r : Int) (k : Nat) (T T' : Int) (F E G : Nat → Int) (kf ke kg : Nat) (F' E' G' : Nat → Int) (vf ve vg : Value) : Prop :=
  IsLink w b r T' false ∧ w.ownsRow (b + 1) 22 1 vf kf (rowOf F' kf) ∧ w.ownsRow (b + 1) 22 1 ve ke (rowOf E' ke) ∧ w.ownsRow (b + 1) 22 1 vg kg (rowOf G' kg) ∧ (Apart vf ve ∧ Apart vf vg ∧ Apart ve vg) ∧ Below w0.heap.size w0 w
theorem NeverAt.sent {T' : Int} (h : NeverAt w0 w b r k T I F E G vf ve vg) (hb0 : w0.heap.size ≤ b) (hl : IsLink w' b r T' false) (hf : Fr (fun j => j = b) w w') : SentAt w0 w' b r k T T' F E G k k k F E G vf ve vg := by
  obtain ⟨h1, h2, h3, h4, h5, h6, h7, h8⟩ := h
  refine ⟨hl, ownsRow_fr h2 hf ?_, ownsRow_fr h3 hf ?_, ownsRow_fr h4 hf ?_, h5, h8.trans (hf.below (B := w0.heap.size) h8.size fun j hj e => by omega)⟩
  · intro j hj e; have := (h2.lt j hj).1; omega
  · intro j hj e; have := (h3.lt j hj).1; omega
  · intro j hj e; have := (h4.lt j hj).1; omega
variable {T' : Int} {kf ke kg : Nat} {F' E' G' : Nat → Int} {v : Value}
theorem SentAt.next (h : SentAt w0 w b r k T T' F E G kf ke kg F' E' G' vf ve vg) (hb : Below w.heap.size w w') : SentAt w0 w' b r k T T' F E G kf ke kg F' E' G' vf ve vg :=
  ⟨Blk.next h.1 hb, own_next h.2.1 hb, own_next h.2.2.1 hb, own_next h.2.2.2.1 hb, h.2.2.2.2.1, below_next h.2.2.2.2.2 hb⟩
theorem SentAt.growF (h : SentAt w0 w b r k T T' F E G kf ke kg F' E' G' vf ve vg) (hb0 : w0.heap.size ≤ b) {x : Int} (hg : w.grownBy w' vf.ownBlock) (ho : w'.ownsRow (b + 1) 22 1 v (kf + 1) (rowOf F' kf ++ [.int .u64 x])) (hat : v.ownBlock = vf.ownBlock ∨ v.ownBlock = some w.heap.size) :
    SentAt w0 w' b r k T T' F E G (kf + 1) ke kg (upd F' kf x) E' G' v ve vg := by
  obtain ⟨h1, h2, h3, h4, ⟨a1, a2, a3⟩, h8⟩ := h
  refine ⟨Blk.grown h1 hg fun e => ?_, by rw [rowOf_upd]; exact ho, a1.kept h3 hg, a2.kept h4 hg, ⟨a1.new h3 hat, a2.new h4 hat, a3⟩, below_grown h8 hg h8.size fun j hj => ?_⟩
  · have := (h2.lt b e.symm).1; omega
  · have := (h2.lt j hj).1; omega
theorem SentAt.growE (h : SentAt w0 w b r k T T' F E G kf ke kg F' E' G' vf ve vg) (hb0 : w0.heap.size ≤ b) {x : Int} (hg : w.grownBy w' ve.ownBlock) (ho : w'.ownsRow (b + 1) 22 1 v (ke + 1) (rowOf E' ke ++ [.int .u64 x])) (hat : v.ownBlock = ve.ownBlock ∨ v.ownBlock = some w.heap.size) :
    SentAt w0 w' b r k T T' F E G kf (ke + 1) kg F' (upd E' ke x) G' vf v vg := by
  obtain ⟨h1, h2, h3, h4, ⟨a1, a2, a3⟩, h8⟩ := h
  refine ⟨Blk.grown h1 hg fun e => ?_, a1.symm.kept h2 hg, by rw [rowOf_upd]; exact ho, a3.kept h4 hg, ⟨(a1.symm.new h2 hat).symm, a2, a3.new h4 hat⟩, below_grown h8 hg h8.size fun j hj => ?_⟩
  · have := (h3.lt b e.symm).1; omega
  · have := (h3.lt j hj).1; omega
theorem SentAt.growG (h : SentAt w0 w b r k T T' F E G kf ke kg F' E' G' vf ve vg) (hb0 : w0.heap.size ≤ b) {x : Int} (hg : w.grownBy w' vg.ownBlock) (ho : w'.ownsRow (b + 1) 22 1 v (kg + 1) (rowOf G' kg ++ [.int .u64 x])) (hat : v.ownBlock = vg.ownBlock ∨ v.ownBlock = some w.heap.size) :
    SentAt w0 w' b r k T T' F E G kf ke (kg + 1) F' E' (upd G' kg x) vf ve v := by
  obtain ⟨h1, h2, h3, h4, ⟨a1, a2, a3⟩, h8⟩ := h
  refine ⟨Blk.grown h1 hg fun e => ?_, a2.symm.kept h2 hg, a3.symm.kept h3 hg, by rw [rowOf_upd]; exact ho, ⟨a1, (a2.symm.new h2 hat).symm, (a3.symm.new h3 hat).symm⟩, below_grown h8 hg h8.size fun j hj => ?_⟩
  · have := (h4.lt b e.symm).1; omega
  · have := (h4.lt j hj).1; omega
end

set_option maxRecDepth 100000 in
set_option maxHeartbeats 16000000 in
theorem linkNever_walk (w : World) (r : Int) (hr : (Lit.int .u64 r).wf = true) (A : Option Addr) (n c : Nat) (K : Nat → Int) (fK : ∀ i, i < n → (Lit.int .u8 (K i)).wf = true) (H : Nat → Int) (fH : ∀ i, i < n → (Lit.int .u64 (H i)).wf = true) (M : Nat → Int) (fM : ∀ i, i < n → (Lit.int .i64 (M i)).wf = true) (hl : n ≤ c) (hm : c ≤ maxLen)
    (hA : 0 < n → ∃ b off, A = some ⟨b, off, none⟩ ∧ b < w.heap.size) (hK : ∀ b off, A = some ⟨b, off, none⟩ → ∀ i, i < n → w.cell? ⟨b, off + (i * 3 + 0), none⟩ = some (.int .u8 (K i))) (hH : ∀ b off, A = some ⟨b, off, none⟩ → ∀ i, i < n → w.cell? ⟨b, off + (i * 3 + 1), none⟩ = some (.int .u64 (H i)))
    (hM : ∀ b off, A = some ⟨b, off, none⟩ → ∀ i, i < n → w.cell? ⟨b, off + (i * 3 + 2), none⟩ = some (.int .i64 (M i))) :
    Calls Try.prog 3 #[.int .u64 r, .slice A n c] w fun e w' => e = .returned (.bool true) ∧ Below w.heap.size w w' := by
  obtain ⟨r0, r1⟩ := word_of_wf hr
  have AW := Lib.hid (fun w => linkAwake w)
  by_cases hn : 60 < n
  · have hn' : (60 : Int) < (n : Int) := by omega
    clear hn hA hK hH hM fK fH fM hl hm hr
    go_enter Try.func3, Try.ntmps3
    go_wp2_with fail
    with_reducible refine (AW.out _).mono ?_
    rintro e w1 ⟨rfl, hb1⟩
    go_wp2_with fail
    go_ret
    exact ⟨rfl, hb1⟩
  have hn' : decide ((60 : Int) < (n : Int)) = false := decide_eq_false (by omega)
  by_cases hbad : r < 1 ∨ 1048576 < r
  · have NN := Lib.hid (fun w => new_none r w r0 hbad)
    clear hn hA hK hH hM fK fH fM hl hm hr hbad
    go_enter Try.func3, Try.ntmps3
    go_wp2_with fail
    with_reducible refine (AW.out _).mono ?_
    rintro e w1 ⟨rfl, hb1⟩
    go_wp2_with fail
    with_reducible refine (NN.out _).mono ?_
    rintro e w2 ⟨rfl, rfl⟩
    go_wp2_with fail
    go_ret
    exact ⟨rfl, hb1⟩
  have hr0 : 0 < r := by omega
  have hr2 : r ≤ 1048576 := by omega
  have hn2 : n ≤ 60 := by omega
  have BK := Lib.hid (fun i hi => byte_of_wf (fK i hi))
  have BH := Lib.hid (fun i hi => word_of_wf (fH i hi))
  have BM := Lib.hid (fun i hi => int_of_wf (fM i hi))
  have HC : Hid (∀ b off, A = some ⟨b, off, none⟩ → ∀ i, i < n → w.cell? ⟨b, off + i * 3, none⟩ = some (.int .u8 (K i)) ∧ w.cell? ⟨b, off + i * 3 + 1, none⟩ = some (.int .u64 (H i)) ∧ w.cell? ⟨b, off + i * 3 + 2, none⟩ = some (.int .i64 (M i))) := fun b off h i hi =>
    ⟨by simpa using hK b off h i hi, by simpa [Nat.add_assoc] using hH b off h i hi, by simpa [Nat.add_assoc] using hM b off h i hi⟩
  have HA := Lib.hid hA
  have NM := Lib.hid (fun w => new_made r w (by omega) hr2)
  obtain ⟨i0, hi0, hz0, hz1, hz2⟩ := info_parts (show (Try.prog.info? 22).map (fun i => (i.zero, i.size, i.bytes)) = some (some (.int .u64 0), 1, 8) by kernel_rfl)
  have HIF := Lib.hid (And.intro hi0 (And.intro hz0 (And.intro hz1 hz2)))
  clear hn hbad hA hK hH hM fK fH fM hl hm hr hi0 hz0 hz1 hz2
  go_enter Try.func3, Try.ntmps3
  go_wp2_with fail
  with_reducible refine (AW.out _).mono ?_
  rintro e w1 ⟨rfl, hb1⟩
  go_wp2_with fail
  with_reducible refine (NM.out _).mono ?_
  rintro e w2 ⟨rfl, hw2⟩
  obtain ⟨b, hb⟩ : ∃ b, w1.heap.size = b := ⟨_, rfl⟩
  have L2 : IsLink w2 b r 0 true := by rw [hw2, ← hb]; exact Blk.new _ _ _
  have B2 : Below w.heap.size w w2 := by rw [hw2]; exact hb1.alloc hb1.size _
  have hle : w.heap.size ≤ b := by have := hb1.size; omega
  have u0 : upDiv 0 r = 0 := by
    have a := upDiv_less hr0 (Int.le_refl 0)
    have c := upDiv_pos0 hr0 (Int.le_refl 0)
    omega
  have N0 : Hid (NeverAt w w2 b r 0 0 true (fun _ => 0) (fun _ => 0) (fun _ => 0) (.slice none 0 0) (.slice none 0 0) (.slice none 0 0)) := ⟨L2, World.ownsRow_nil _ _ _ _, World.ownsRow_nil _ _ _ _, World.ownsRow_nil _ _ _ _, ⟨apart_nil _, apart_nil _, apart_nil _⟩, never_none _ _ _, Int.le_refl _, B2⟩
  have U0 := Lib.hid u0
  rw [hb]
  clear hw2 hb hb1 L2 B2 u0 NM AW
  go_wp2_with fail
  go_loopg [7, 8, 9, 10, 11] n (fun gk nv v1 v2 v3 ix wr => ∃ (i k : Nat) (nw T : Int) (I : Bool) (F E G : Nat → Int), i + gk = n ∧ k ≤ i ∧ ix = .int .i64 i ∧ nv = .int .u64 nw ∧ 0 ≤ nw ∧ nw ≤ 1073741824 + 384001 * i ∧ upDiv T r ≤ 1073741824 + 384001 * i ∧ NeverAt w wr b r k T I F E G v1 v2 v3)
  case atStart => exact ⟨0, 0, 0, 0, true, _, _, _, by omega, by omega, rfl, rfl, by omega, by omega, by rw [U0.out]; omega, N0.out⟩
  case round =>
    obtain ⟨i, k, nw, T, I, F, E, G, hi, hk, rfl, rfl, nw0, nw1, hU, hN⟩ := hrel
    clear N0 U0
    have N1 := Lib.hid hN
    clear hN
    by_cases hlt : i < n
    · obtain ⟨gm, rfl⟩ : ∃ gm, gk = gm + 1 := ⟨gk - 1, by omega⟩
      obtain ⟨bA, off, rfl, hbA⟩ := HA.out (by omega)
      obtain ⟨ck0, ch0, cm0⟩ := HC.out _ _ rfl i hlt
      obtain ⟨k0, k1⟩ := BK.out i hlt
      obtain ⟨h0, h1⟩ := BH.out i hlt
      obtain ⟨m0, m1⟩ := BM.out i hlt
      obtain ⟨kd, ekd⟩ : ∃ z, K i = z := ⟨_, rfl⟩
      obtain ⟨ah, eah⟩ : ∃ z, H i = z := ⟨_, rfl⟩
      obtain ⟨ml, eml⟩ : ∃ z, M i = z := ⟨_, rfl⟩
      rw [ekd] at ck0 k0 k1
      rw [eah] at ch0 h0 h1
      rw [eml] at cm0 m0 m1
      clear ekd eah eml
      have ii0 : (0 : Int) ≤ (i : Int) := by omega
      have ii1 : (i : Int) < (n : Int) := by omega
      have nn : (n : Int) ≤ 60 := by omega
      have HC3 := Lib.hid (And.intro ck0 (And.intro ch0 cm0))
      have ck := (N1.out.2.2.2.2.2.2.2.cell (p := ⟨bA, off + i * 3, none⟩) hbA).trans ck0
      have ch := (N1.out.2.2.2.2.2.2.2.cell (p := ⟨bA, off + i * 3 + 1, none⟩) hbA).trans ch0
      clear ck0 ch0 cm0
      have T0 := N1.out.2.2.2.2.2.2.1
      have um := upDiv_mul (g := T) hr0
      have up0 := upDiv_pos0 hr0 T0
      obtain ⟨U, eU⟩ : ∃ z, upDiv T r = z := ⟨_, rfl⟩
      rw [eU] at hU um up0
      have T1 : T ≤ 4611686018427387904 := by
        have : r * U ≤ 1048576 * U := Int.mul_le_mul_of_nonneg_right hr2 up0
        omega
      have EU := Lib.hid eU
      clear um eU
      obtain ⟨a1, ea1⟩ : ∃ z, min (nw + ah % 1000) 1073741824 = z := ⟨_, rfl⟩
      have a10 : 0 ≤ a1 := by omega
      have a11 : a1 ≤ 1073741824 := by omega
      obtain ⟨q4, eq4⟩ : ∃ z, kd % 4 = z := ⟨_, rfl⟩
      have q40 : 0 ≤ q4 := by omega
      obtain ⟨x1, ex1⟩ : ∃ z, (if q4 = 1 then max a1 U else a1) = z := ⟨_, rfl⟩
      have x10 : 0 ≤ x1 := by split at ex1 <;> omega
      have x11 : x1 ≤ 1073741824 + 384001 * i := by split at ex1 <;> omega
      have EX1 := Lib.hid ex1
      clear ex1
      have UN := Lib.hid (fun w h0 h1 => until_made b r T w h0 h1 hr0 hr2 T0 (by omega))
      rw [EU.out] at UN
      have EA1 := Lib.hid ea1
      clear ea1
      go_upto_region 13 with (fail)
      go_cut [7] (fun nv wc => nv = .int .u64 a1 ∧ wc = wr)
      case first =>
        go_wp2_with fail
        all_goals go_meet
        all_goals exact ⟨by congr 1; have := EA1.out; omega, rfl⟩
      case rest =>
      obtain ⟨rfl, hw0⟩ := hcut
      replace hw0 := hw0.symm
      subst hw0
      go_upto_if 51 with (fail)
      go_cut [7] (fun nv wc => nv = .int .u64 x1 ∧ Below wr.heap.size wr wc)
      case first =>
        have c0 := N1.out.1.c0
        have c1 := N1.out.1.c1
        by_cases e1 : q4 = 1
        · have e2 : (q4 == 1) = true := beq_iff_eq.2 e1
          have e3 : max a1 U = x1 := by rw [← EX1.out, if_pos e1]
          have E3 := Lib.hid e3
          have U1 := Lib.hid (UN.out _ c0 c1)
          clear e1 e3 c0 c1
          go_wp2_with fail
          with_reducible refine (U1.out).mono ?_
          rintro e w3 ⟨rfl, mm, rfl⟩
          go_wp2_with fail
          all_goals go_meet
          all_goals exact ⟨by congr 1; have := E3.out; omega, below_of_drewN _ _ _⟩
        · have e2 : (q4 == 1) = false := beq_eq_false_iff_ne.2 e1
          have E3 : Hid (a1 = x1) := by unfold Hid; rw [← EX1.out, if_neg e1]
          clear e1 c0 c1
          go_wp2_with fail
          go_meet
          exact ⟨by rw [E3.out], Below.refl _ _⟩
      case rest =>
        obtain ⟨rfl, B1⟩ := hcut
        obtain ⟨wp, rfl⟩ : ∃ x : World, x = wc := ⟨_, rfl⟩
        have N2 := Lib.hid (N1.out.next B1)
        have HL2 := Lib.hid N2.out.1
        have ck := (N2.out.2.2.2.2.2.2.2.cell (p := ⟨bA, off + i * 3, none⟩) hbA).trans HC3.out.1
        have cm := (N2.out.2.2.2.2.2.2.2.cell (p := ⟨bA, off + i * 3 + 2, none⟩) hbA).trans HC3.out.2.2
        clear N1 B1 ch a10 a11
        by_cases e1 : q4 = 2
        · have e2 : (q4 == 2) = true := beq_iff_eq.2 e1
          have ID := Lib.hid (fun w h => idle_made b r T x1 I w h hr0 hr2 T0 (by omega))
          clear e1
          go_wp2_with fail
          with_reducible refine (ID.out _ HL2.out).mono ?_
          rintro e w3 ⟨rfl, hL, hF⟩
          have N3 := Lib.hid (N2.out.link hle hL hF)
          clear hL hF N2 ck cm
          go_wp2_with fail
          go_roundg gm
          case rel => exact ⟨i + 1, k, x1, T, _, F, E, G, by omega, by omega, by go_num, rfl, x10, by omega, by rw [EU.out]; omega, N3.out⟩
          case measure => omega
        · have e2 : (q4 == 2) = false := beq_eq_false_iff_ne.2 e1
          obtain ⟨ln, eln⟩ : ∃ z, max 1 (min ml 1500) = z := ⟨_, rfl⟩
          have l0 : 1 ≤ ln := by omega
          have l1 : ln ≤ 1500 := by omega
          have ELN := Lib.hid eln
          clear e1 eln
          go_upto_region 18 with (fail)
          go_cut [12] (fun lv wc => lv = .int .i64 ln ∧ wc = wp)
          case first =>
            go_wp2_with fail
            all_goals go_meet
            all_goals exact ⟨by congr 1; have := ELN.out; omega, rfl⟩
          case rest =>
          obtain ⟨rfl, hw0⟩ := hcut
          replace hw0 := hw0.symm
          subst hw0
          by_cases hf : U ≤ x1
          · have hw : wrongN T r x1 ln = 0 := by
              unfold wrongN freeB
              rw [if_neg (by omega), if_neg (by omega), EU.out, decide_eq_true hf]; rfl
            have fc := from_cases T r x1 I
            have g0 : 0 ≤ x1 * r := Int.mul_nonneg x10 (by omega)
            have gU : U * r ≤ x1 * r := Int.mul_le_mul_of_nonneg_right hf (by omega)
            have um := upDiv_mul (g := T) hr0
            rw [EU.out, Int.mul_comm r U] at um
            obtain ⟨fr, efr⟩ : ∃ z, sendFrom T r x1 I = z := ⟨_, rfl⟩
            rw [efr] at fc
            have fr0 : 0 ≤ fr ∧ fr ≤ x1 * r := by omega
            obtain ⟨T', eT'⟩ : ∃ z, fr + ln * 256 = z := ⟨_, rfl⟩
            have T'0 : 0 ≤ T' := by omega
            have t1 : upDiv T' r ≤ x1 + 384000 := by
              have a := upDiv_mono (g := T') (g' := x1 * r + ln * 256) hr0 (by omega)
              rw [upDiv_shift hr0] at a
              have := upDiv_less hr0 (show 0 ≤ ln * 256 by omega)
              omega
            have t0 := upDiv_pos0 hr0 T'0
            obtain ⟨t, et⟩ : ∃ z, upDiv T' r = z := ⟨_, rfl⟩
            rw [et] at t0 t1
            have OK := Lib.hid (never_next (now := x1) (b := fr) (g := ln * 256) (T' := T') (t := t) N2.out.2.2.2.2.2.1 hr0 T0 (by rw [EU.out]; exact hf) x10 fc (by omega) (by omega) eT'.symm et.symm (by omega) (by omega) t0)
            have SG := Lib.hid (fun w h => send_good b r T x1 ln I w h hr0 hr2 T0 T1 x10 hw)
            rw [efr, eT', et] at SG
            have ET := Lib.hid et
            obtain ⟨hi0, hz0, hz1, hz2⟩ := HIF.out
            have hk1 : k + 1 ≤ maxLen := by unfold maxLen; omega
            have hw2 : IntKind.u64.wrap ln = ln := by rw [IntKind.wrap_u64]; omega
            have hw3 : IntKind.u64.wrap (ln * 256) = ln * 256 := by rw [IntKind.wrap_u64]; omega
            clear hf hw fc g0 gU um efr eT' et fr0
            go_wp2_with fail
            with_reducible refine (SG.out _ HL2.out).mono ?_
            rintro e w3 ⟨rfl, hL, hF⟩
            have S3 := Lib.hid (N2.out.sent hle hL hF)
            clear hL hF N2 ck cm
            have bn : b < w3.heap.size := Blk.lt S3.out.1
            have S4 := Lib.hid (S3.out.next ((Below.refl w3.heap.size w3).alloc (Nat.le_refl _) (.cells #[.int .u64 x1] 22)))
            have cn : (w3.alloc (.cells #[.int .u64 x1] 22)).cell? ⟨w3.heap.size, 0, none⟩ = some (.int .u64 x1) := (Blk.new w3 22 #[.int .u64 x1]).get 0 rfl
            have CN := Lib.hid cn
            clear cn
            go_wp2_with (at_builtin; refine wpList_append_own_at _ rfl (.tmp 90) (.tmp 92) 29 rfl (b + 1) 22 i0 (.int .u64 0) 1 8 Try.underlying29 hi0 hz0 hz1 hz2 rfl (by decide) _ k (rowOf F k) rfl S4.out.2.1 ⟨w3.heap.size, 0, none⟩ 1 1 [.int .u64 x1] rfl rfl ?c1 ?c2 hk1 (by omega) (by simp only [World.size_alloc]; omega) ?_)
            case c1 =>
              intro j u hj
              match j, hj with
              | 0, hj => simp at hj; subst hj; exact CN.out
            case c2 => intro u hu; rw [List.mem_singleton] at hu; subst hu; rfl
            intro v1 w4 ho hg _ hat
            have S5 := Lib.hid (S4.out.growF hle hg ho (by rw [World.size_alloc]; exact hat))
            have bn4 : b < w4.heap.size := Blk.lt S5.out.1
            clear ho hg hat S4 CN S3 bn
            have S6 := Lib.hid (S5.out.next ((Below.refl w4.heap.size w4).alloc (Nat.le_refl _) (.cells #[.int .u64 t] 22)))
            have cn : (w4.alloc (.cells #[.int .u64 t] 22)).cell? ⟨w4.heap.size, 0, none⟩ = some (.int .u64 t) := (Blk.new w4 22 #[.int .u64 t]).get 0 rfl
            have CN := Lib.hid cn
            clear cn
            go_wp2_with (at_builtin; refine wpList_append_own_at _ rfl (.tmp 94) (.tmp 96) 29 rfl (b + 1) 22 i0 (.int .u64 0) 1 8 Try.underlying29 hi0 hz0 hz1 hz2 rfl (by decide) _ k (rowOf E k) rfl S6.out.2.2.1 ⟨w4.heap.size, 0, none⟩ 1 1 [.int .u64 t] rfl rfl ?c3 ?c4 hk1 (by omega) (by simp only [World.size_alloc]; omega) ?_)
            case c3 =>
              intro j u hj
              match j, hj with
              | 0, hj => simp at hj; subst hj; exact CN.out
            case c4 => intro u hu; rw [List.mem_singleton] at hu; subst hu; rfl
            intro v2 w5 ho hg _ hat
            have S7 := Lib.hid (S6.out.growE hle hg ho (by rw [World.size_alloc]; exact hat))
            have bn5 : b < w5.heap.size := Blk.lt S7.out.1
            clear ho hg hat S6 CN S5 bn4
            have S8 := Lib.hid (S7.out.next ((Below.refl w5.heap.size w5).alloc (Nat.le_refl _) (.cells #[.int .u64 (ln * 256)] 22)))
            have cn : (w5.alloc (.cells #[.int .u64 (ln * 256)] 22)).cell? ⟨w5.heap.size, 0, none⟩ = some (.int .u64 (ln * 256)) := (Blk.new w5 22 #[.int .u64 (ln * 256)]).get 0 rfl
            have CN := Lib.hid cn
            clear cn
            go_wp2_with (at_builtin; refine wpList_append_own_at _ rfl (.tmp 98) (.tmp 102) 29 rfl (b + 1) 22 i0 (.int .u64 0) 1 8 Try.underlying29 hi0 hz0 hz1 hz2 rfl (by decide) _ k (rowOf G k) rfl S8.out.2.2.2.1 ⟨w5.heap.size, 0, none⟩ 1 1 [.int .u64 (ln * 256)] rfl rfl ?c5 ?c6 hk1 (by omega) (by simp only [World.size_alloc]; omega) ?_)
            case c5 =>
              intro j u hj
              match j, hj with
              | 0, hj => simp at hj; subst hj; exact CN.out
            case c6 => intro u hu; rw [List.mem_singleton] at hu; subst hu; rfl
            intro v3 w6 ho hg _ hat
            have S9 := Lib.hid (S8.out.growG hle hg ho (by rw [World.size_alloc]; exact hat))
            clear ho hg hat S8 CN S7 bn5
            go_wp2_with fail
            go_roundg gm
            case rel => exact ⟨i + 1, k + 1, x1, T', _, _, _, _, by omega, by omega, by go_num, rfl, x10, by omega, by rw [ET.out]; omega, S9.out.1, S9.out.2.1, S9.out.2.2.1, S9.out.2.2.2.1, S9.out.2.2.2.2.1, OK.out, T'0, S9.out.2.2.2.2.2⟩
            case measure => omega
          · have hw : wrongN T r x1 ln = 230 := by
              unfold wrongN freeB
              rw [if_neg (by omega), if_neg (by omega), EU.out, decide_eq_false hf]; rfl
            have SB := Lib.hid (fun w h => send_bad b r T x1 ln I w h hr0 hr2 T0 (by omega) (by rw [hw]; decide))
            rw [hw] at SB
            have hf2 : decide (U ≤ x1) = false := decide_eq_false hf
            clear hf hw
            go_wp2_with fail
            with_reducible refine (SB.out _ HL2.out).mono ?_
            rintro e w3 ⟨rfl, hb3⟩
            have N3 := Lib.hid (N2.out.next hb3)
            clear hb3 N2 ck cm
            have c0 := N3.out.1.c0
            have c1 := N3.out.1.c1
            go_wp2_with fail
            with_reducible refine (UN.out _ c0 c1).mono ?_
            rintro e w4 ⟨rfl, mm, rfl⟩
            clear c0 c1
            go_wp2_with fail
            go_roundg gm
            case rel => exact ⟨i + 1, k, x1, T, I, F, E, G, by omega, by omega, by go_num, rfl, x10, by omega, by rw [EU.out]; omega, N3.out.next (below_of_drewN _ _ _)⟩
            case measure => omega
    · obtain rfl : gk = 0 := by omega
      obtain rfl : i = n := by omega
      obtain ⟨Af, cf, rfl, f1, f2, hF⟩ := row_reads N1.out.2.1
      obtain ⟨Ae, ce, rfl, g1, g2, hE⟩ := row_reads N1.out.2.2.1
      obtain ⟨Ag, cg, rfl, h1, h2, hG⟩ := row_reads N1.out.2.2.2.1
      have OK := Lib.hid N1.out.2.2.2.2.2.1
      have HB := Lib.hid N1.out.2.2.2.2.2.2.2
      have HF := Lib.hid hF
      have HE := Lib.hid hE
      have HG := Lib.hid hG
      have kk2 : k ≤ 60 := by omega
      obtain ⟨wl, rfl⟩ : ∃ x : World, x = wr := ⟨_, rfl⟩
      clear N1 hF hE hG f1 g1 h1 hU hlt HA HC BK BH BM HIF nw0 nw1 f2 g2 h2
      go_wp2_with fail
      go_loopg [15] k (fun gk ix wr => ∃ j : Nat, j + gk = k ∧ ix = .int .i64 j ∧ Below wl.heap.size wl wr)
      case atStart => exact ⟨0, by omega, rfl, Below.refl _ _⟩
      case round =>
        obtain ⟨j, hj, rfl, B0⟩ := hrel
        obtain ⟨go, rfl⟩ : ∃ x : Nat, x = gk := ⟨_, rfl⟩
        have HBo := Lib.hid B0
        obtain ⟨wj, rfl⟩ : ∃ x : World, x = wr := ⟨_, rfl⟩
        clear B0
        by_cases hjk : j < k
        · obtain ⟨gm, rfl⟩ : ∃ gm, go = gm + 1 := ⟨go - 1, by omega⟩
          obtain ⟨gf, rfl, hgf, hcf⟩ := HF.out (by omega)
          obtain ⟨ge, rfl, hge, hce⟩ := HE.out (by omega)
          obtain ⟨gg, rfl, hgg, hcg⟩ := HG.out (by omega)
          have cF := hcf j hjk
          have HCE := Lib.hid hce
          have HCG := Lib.hid hcg
          clear hcf hce hcg
          have j0 : (0 : Int) ≤ (j : Int) := by omega
          have j1 : (j : Int) < (k : Int) := by omega
          have k60 : (k : Int) ≤ 60 := by omega
          have szj := OK.out.size j hjk
          go_upto_region 28 with (fail)
          go_cut [123] (fun tv wc => tv = .bool false ∧ Below wl.heap.size wl wc)
          case first =>
            rcases Nat.eq_zero_or_pos j with z | z
            · subst z
              have KF : Hid (∀ w', Below (wl.heap.size) wl w' → (w'.cell? ⟨gf, 0, none⟩ = some (.int .u64 (F 0))) ∧ Below (wl.heap.size) wl w') := fun w' hb => ⟨((hb.cell (p := ⟨gf, 0, none⟩) hgf).trans cF), hb⟩
              refine wp_region_noPanic ?_
              refine wp_region_held_drew (S := fun w' => (w'.cell? ⟨gf, 0, none⟩ = some (.int .u64 (F 0))) ∧ Below (wl.heap.size) wl w') (by kernel_rfl) (KF.out _ (below_of_drew (HBo.out))) (fun hH => ?_)
              first | (refine wpAnyH_take (i := 0) (v := undef) rfl ?_ ?_ ?_ (fun _ _ _ h => h) ?_ ?_ ?_; kernel_rfl; kernel_rfl; kernel_rfl; exact Or.inr ⟨by rfl, rfl⟩; exact hH) | (refine wpAnyH_take (i := 0) (v := ?_) rfl ?_ ?_ ?_ (fun _ _ _ h => h) ?_ ?_ ?_; rotate_left; kernel_rfl; kernel_rfl; kernel_rfl; (focus (refine Or.inl ⟨by rfl, ?_⟩; intro w' hSw; (try dsimp only at hSw); go_simp)); exact hH) | (refine wpAnyH_take (i := 0) (v := ?_) rfl ?_ ?_ ?_ (fun _ _ _ h => h) ?_ ?_ ?_; rotate_left; kernel_rfl; kernel_rfl; kernel_rfl; (focus (refine Or.inl ⟨by rfl, ?_⟩; intro w' hSw; (try dsimp only at hSw); go_simp; with_reducible rfl)); exact hH)
              try simp only [Act.put, List.getElem_toArray, List.getElem_cons_succ, List.getElem_cons_zero, List.setIfInBounds_toArray, List.set_cons_zero, List.set_cons_succ]
              first | (refine wpAnyH_take (i := 1) (v := undef) rfl ?_ ?_ ?_ (fun _ _ _ h => h) ?_ ?_ ?_; kernel_rfl; kernel_rfl; kernel_rfl; exact Or.inr ⟨by rfl, rfl⟩; exact hH) | (refine wpAnyH_take (i := 1) (v := ?_) rfl ?_ ?_ ?_ (fun _ _ _ h => h) ?_ ?_ ?_; rotate_left; kernel_rfl; kernel_rfl; kernel_rfl; (focus (refine Or.inl ⟨by rfl, ?_⟩; intro w' hSw; (try dsimp only at hSw); go_simp)); exact hH) | (refine wpAnyH_take (i := 1) (v := ?_) rfl ?_ ?_ ?_ (fun _ _ _ h => h) ?_ ?_ ?_; rotate_left; kernel_rfl; kernel_rfl; kernel_rfl; (focus (refine Or.inl ⟨by rfl, ?_⟩; intro w' hSw; (try dsimp only at hSw); go_simp; with_reducible rfl)); exact hH)
              try simp only [Act.put, List.getElem_toArray, List.getElem_cons_succ, List.getElem_cons_zero, List.setIfInBounds_toArray, List.set_cons_zero, List.set_cons_succ]
              first | (refine wpAnyH_take (i := 2) (v := undef) rfl ?_ ?_ ?_ (fun _ _ _ h => h) ?_ ?_ ?_; kernel_rfl; kernel_rfl; kernel_rfl; exact Or.inr ⟨by rfl, rfl⟩; exact hH) | (refine wpAnyH_take (i := 2) (v := ?_) rfl ?_ ?_ ?_ (fun _ _ _ h => h) ?_ ?_ ?_; rotate_left; kernel_rfl; kernel_rfl; kernel_rfl; (focus (refine Or.inl ⟨by rfl, ?_⟩; intro w' hSw; (try dsimp only at hSw); go_simp)); exact hH) | (refine wpAnyH_take (i := 2) (v := ?_) rfl ?_ ?_ ?_ (fun _ _ _ h => h) ?_ ?_ ?_; rotate_left; kernel_rfl; kernel_rfl; kernel_rfl; (focus (refine Or.inl ⟨by rfl, ?_⟩; intro w' hSw; (try dsimp only at hSw); go_simp; with_reducible rfl)); exact hH)
              try simp only [Act.put, List.getElem_toArray, List.getElem_cons_succ, List.getElem_cons_zero, List.setIfInBounds_toArray, List.set_cons_zero, List.set_cons_succ]
              first | (refine wpAnyH_take (i := 3) (v := undef) rfl ?_ ?_ ?_ (fun _ _ _ h => h) ?_ ?_ ?_; kernel_rfl; kernel_rfl; kernel_rfl; exact Or.inr ⟨by rfl, rfl⟩; exact hH) | (refine wpAnyH_take (i := 3) (v := ?_) rfl ?_ ?_ ?_ (fun _ _ _ h => h) ?_ ?_ ?_; rotate_left; kernel_rfl; kernel_rfl; kernel_rfl; (focus (refine Or.inl ⟨by rfl, ?_⟩; intro w' hSw; (try dsimp only at hSw); go_simp)); exact hH) | (refine wpAnyH_take (i := 3) (v := ?_) rfl ?_ ?_ ?_ (fun _ _ _ h => h) ?_ ?_ ?_; rotate_left; kernel_rfl; kernel_rfl; kernel_rfl; (focus (refine Or.inl ⟨by rfl, ?_⟩; intro w' hSw; (try dsimp only at hSw); go_simp; with_reducible rfl)); exact hH)
              try simp only [Act.put, List.getElem_toArray, List.getElem_cons_succ, List.getElem_cons_zero, List.setIfInBounds_toArray, List.set_cons_zero, List.set_cons_succ]
              first | (refine wpAnyH_take (i := 4) (v := undef) rfl ?_ ?_ ?_ (fun _ _ _ h => h) ?_ ?_ ?_; kernel_rfl; kernel_rfl; kernel_rfl; exact Or.inr ⟨by rfl, rfl⟩; exact hH) | (refine wpAnyH_take (i := 4) (v := ?_) rfl ?_ ?_ ?_ (fun _ _ _ h => h) ?_ ?_ ?_; rotate_left; kernel_rfl; kernel_rfl; kernel_rfl; (focus (refine Or.inl ⟨by rfl, ?_⟩; intro w' hSw; (try dsimp only at hSw); go_simp)); exact hH) | (refine wpAnyH_take (i := 4) (v := ?_) rfl ?_ ?_ ?_ (fun _ _ _ h => h) ?_ ?_ ?_; rotate_left; kernel_rfl; kernel_rfl; kernel_rfl; (focus (refine Or.inl ⟨by rfl, ?_⟩; intro w' hSw; (try dsimp only at hSw); go_simp; with_reducible rfl)); exact hH)
              try simp only [Act.put, List.getElem_toArray, List.getElem_cons_succ, List.getElem_cons_zero, List.setIfInBounds_toArray, List.set_cons_zero, List.set_cons_succ]
              first | (refine wpAnyH_take (i := 5) (v := undef) rfl ?_ ?_ ?_ (fun _ _ _ h => h) ?_ ?_ ?_; kernel_rfl; kernel_rfl; kernel_rfl; exact Or.inr ⟨by rfl, rfl⟩; exact hH) | (refine wpAnyH_take (i := 5) (v := ?_) rfl ?_ ?_ ?_ (fun _ _ _ h => h) ?_ ?_ ?_; rotate_left; kernel_rfl; kernel_rfl; kernel_rfl; (focus (refine Or.inl ⟨by rfl, ?_⟩; intro w' hSw; (try dsimp only at hSw); go_simp)); exact hH) | (refine wpAnyH_take (i := 5) (v := ?_) rfl ?_ ?_ ?_ (fun _ _ _ h => h) ?_ ?_ ?_; rotate_left; kernel_rfl; kernel_rfl; kernel_rfl; (focus (refine Or.inl ⟨by rfl, ?_⟩; intro w' hSw; (try dsimp only at hSw); go_simp; with_reducible rfl)); exact hH)
              try simp only [Act.put, List.getElem_toArray, List.getElem_cons_succ, List.getElem_cons_zero, List.setIfInBounds_toArray, List.set_cons_zero, List.set_cons_succ]
              first | (refine wpAnyH_take (i := 6) (v := undef) rfl ?_ ?_ ?_ (fun _ _ _ h => h) ?_ ?_ ?_; kernel_rfl; kernel_rfl; kernel_rfl; exact Or.inr ⟨by rfl, rfl⟩; exact hH) | (refine wpAnyH_take (i := 6) (v := ?_) rfl ?_ ?_ ?_ (fun _ _ _ h => h) ?_ ?_ ?_; rotate_left; kernel_rfl; kernel_rfl; kernel_rfl; (focus (refine Or.inl ⟨by rfl, ?_⟩; intro w' hSw; (try dsimp only at hSw); go_simp)); exact hH) | (refine wpAnyH_take (i := 6) (v := ?_) rfl ?_ ?_ ?_ (fun _ _ _ h => h) ?_ ?_ ?_; rotate_left; kernel_rfl; kernel_rfl; kernel_rfl; (focus (refine Or.inl ⟨by rfl, ?_⟩; intro w' hSw; (try dsimp only at hSw); go_simp; with_reducible rfl)); exact hH)
              try simp only [Act.put, List.getElem_toArray, List.getElem_cons_succ, List.getElem_cons_zero, List.setIfInBounds_toArray, List.set_cons_zero, List.set_cons_succ]
              first | (refine wpAnyH_take (i := 7) (v := undef) rfl ?_ ?_ ?_ (fun _ _ _ h => h) ?_ ?_ ?_; kernel_rfl; kernel_rfl; kernel_rfl; exact Or.inr ⟨by rfl, rfl⟩; exact hH) | (refine wpAnyH_take (i := 7) (v := ?_) rfl ?_ ?_ ?_ (fun _ _ _ h => h) ?_ ?_ ?_; rotate_left; kernel_rfl; kernel_rfl; kernel_rfl; (focus (refine Or.inl ⟨by rfl, ?_⟩; intro w' hSw; (try dsimp only at hSw); go_simp)); exact hH) | (refine wpAnyH_take (i := 7) (v := ?_) rfl ?_ ?_ ?_ (fun _ _ _ h => h) ?_ ?_ ?_; rotate_left; kernel_rfl; kernel_rfl; kernel_rfl; (focus (refine Or.inl ⟨by rfl, ?_⟩; intro w' hSw; (try dsimp only at hSw); go_simp; with_reducible rfl)); exact hH)
              try simp only [Act.put, List.getElem_toArray, List.getElem_cons_succ, List.getElem_cons_zero, List.setIfInBounds_toArray, List.set_cons_zero, List.set_cons_succ]
              first | (refine wpAnyH_take (i := 8) (v := undef) rfl ?_ ?_ ?_ (fun _ _ _ h => h) ?_ ?_ ?_; kernel_rfl; kernel_rfl; kernel_rfl; exact Or.inr ⟨by rfl, rfl⟩; exact hH) | (refine wpAnyH_take (i := 8) (v := ?_) rfl ?_ ?_ ?_ (fun _ _ _ h => h) ?_ ?_ ?_; rotate_left; kernel_rfl; kernel_rfl; kernel_rfl; (focus (refine Or.inl ⟨by rfl, ?_⟩; intro w' hSw; (try dsimp only at hSw); go_simp)); exact hH) | (refine wpAnyH_take (i := 8) (v := ?_) rfl ?_ ?_ ?_ (fun _ _ _ h => h) ?_ ?_ ?_; rotate_left; kernel_rfl; kernel_rfl; kernel_rfl; (focus (refine Or.inl ⟨by rfl, ?_⟩; intro w' hSw; (try dsimp only at hSw); go_simp; with_reducible rfl)); exact hH)
              try simp only [Act.put, List.getElem_toArray, List.getElem_cons_succ, List.getElem_cons_zero, List.setIfInBounds_toArray, List.set_cons_zero, List.set_cons_succ]
              first | (refine wpAnyH_take (i := 9) (v := undef) rfl ?_ ?_ ?_ (fun _ _ _ h => h) ?_ ?_ ?_; kernel_rfl; kernel_rfl; kernel_rfl; exact Or.inr ⟨by rfl, rfl⟩; exact hH) | (refine wpAnyH_take (i := 9) (v := ?_) rfl ?_ ?_ ?_ (fun _ _ _ h => h) ?_ ?_ ?_; rotate_left; kernel_rfl; kernel_rfl; kernel_rfl; (focus (refine Or.inl ⟨by rfl, ?_⟩; intro w' hSw; (try dsimp only at hSw); go_simp)); exact hH) | (refine wpAnyH_take (i := 9) (v := ?_) rfl ?_ ?_ ?_ (fun _ _ _ h => h) ?_ ?_ ?_; rotate_left; kernel_rfl; kernel_rfl; kernel_rfl; (focus (refine Or.inl ⟨by rfl, ?_⟩; intro w' hSw; (try dsimp only at hSw); go_simp; with_reducible rfl)); exact hH)
              try simp only [Act.put, List.getElem_toArray, List.getElem_cons_succ, List.getElem_cons_zero, List.setIfInBounds_toArray, List.set_cons_zero, List.set_cons_succ]
              first | (refine wpAnyH_take (i := 10) (v := undef) rfl ?_ ?_ ?_ (fun _ _ _ h => h) ?_ ?_ ?_; kernel_rfl; kernel_rfl; kernel_rfl; exact Or.inr ⟨by rfl, rfl⟩; exact hH) | (refine wpAnyH_take (i := 10) (v := ?_) rfl ?_ ?_ ?_ (fun _ _ _ h => h) ?_ ?_ ?_; rotate_left; kernel_rfl; kernel_rfl; kernel_rfl; (focus (refine Or.inl ⟨by rfl, ?_⟩; intro w' hSw; (try dsimp only at hSw); go_simp)); exact hH) | (refine wpAnyH_take (i := 10) (v := ?_) rfl ?_ ?_ ?_ (fun _ _ _ h => h) ?_ ?_ ?_; rotate_left; kernel_rfl; kernel_rfl; kernel_rfl; (focus (refine Or.inl ⟨by rfl, ?_⟩; intro w' hSw; (try dsimp only at hSw); go_simp; with_reducible rfl)); exact hH)
              try simp only [Act.put, List.getElem_toArray, List.getElem_cons_succ, List.getElem_cons_zero, List.setIfInBounds_toArray, List.set_cons_zero, List.set_cons_succ]
              first | (refine wpAnyH_take (i := 11) (v := undef) rfl ?_ ?_ ?_ (fun _ _ _ h => h) ?_ ?_ ?_; kernel_rfl; kernel_rfl; kernel_rfl; exact Or.inr ⟨by rfl, rfl⟩; exact hH) | (refine wpAnyH_take (i := 11) (v := ?_) rfl ?_ ?_ ?_ (fun _ _ _ h => h) ?_ ?_ ?_; rotate_left; kernel_rfl; kernel_rfl; kernel_rfl; (focus (refine Or.inl ⟨by rfl, ?_⟩; intro w' hSw; (try dsimp only at hSw); go_simp)); exact hH) | (refine wpAnyH_take (i := 11) (v := ?_) rfl ?_ ?_ ?_ (fun _ _ _ h => h) ?_ ?_ ?_; rotate_left; kernel_rfl; kernel_rfl; kernel_rfl; (focus (refine Or.inl ⟨by rfl, ?_⟩; intro w' hSw; (try dsimp only at hSw); go_simp; with_reducible rfl)); exact hH)
              try simp only [Act.put, List.getElem_toArray, List.getElem_cons_succ, List.getElem_cons_zero, List.setIfInBounds_toArray, List.set_cons_zero, List.set_cons_succ]
              first | (refine wpAnyH_take (i := 12) (v := undef) rfl ?_ ?_ ?_ (fun _ _ _ h => h) ?_ ?_ ?_; kernel_rfl; kernel_rfl; kernel_rfl; exact Or.inr ⟨by rfl, rfl⟩; exact hH) | (refine wpAnyH_take (i := 12) (v := ?_) rfl ?_ ?_ ?_ (fun _ _ _ h => h) ?_ ?_ ?_; rotate_left; kernel_rfl; kernel_rfl; kernel_rfl; (focus (refine Or.inl ⟨by rfl, ?_⟩; intro w' hSw; (try dsimp only at hSw); go_simp)); exact hH) | (refine wpAnyH_take (i := 12) (v := ?_) rfl ?_ ?_ ?_ (fun _ _ _ h => h) ?_ ?_ ?_; rotate_left; kernel_rfl; kernel_rfl; kernel_rfl; (focus (refine Or.inl ⟨by rfl, ?_⟩; intro w' hSw; (try dsimp only at hSw); go_simp; with_reducible rfl)); exact hH)
              try simp only [Act.put, List.getElem_toArray, List.getElem_cons_succ, List.getElem_cons_zero, List.setIfInBounds_toArray, List.set_cons_zero, List.set_cons_succ]
              first | (refine wpAnyH_take (i := 13) (v := undef) rfl ?_ ?_ ?_ (fun _ _ _ h => h) ?_ ?_ ?_; kernel_rfl; kernel_rfl; kernel_rfl; exact Or.inr ⟨by rfl, rfl⟩; exact hH) | (refine wpAnyH_take (i := 13) (v := ?_) rfl ?_ ?_ ?_ (fun _ _ _ h => h) ?_ ?_ ?_; rotate_left; kernel_rfl; kernel_rfl; kernel_rfl; (focus (refine Or.inl ⟨by rfl, ?_⟩; intro w' hSw; (try dsimp only at hSw); go_simp)); exact hH) | (refine wpAnyH_take (i := 13) (v := ?_) rfl ?_ ?_ ?_ (fun _ _ _ h => h) ?_ ?_ ?_; rotate_left; kernel_rfl; kernel_rfl; kernel_rfl; (focus (refine Or.inl ⟨by rfl, ?_⟩; intro w' hSw; (try dsimp only at hSw); go_simp; with_reducible rfl)); exact hH)
              try simp only [Act.put, List.getElem_toArray, List.getElem_cons_succ, List.getElem_cons_zero, List.setIfInBounds_toArray, List.set_cons_zero, List.set_cons_succ]
              refine wpAnyH_done (by kernel_rfl) ?_ _
              refine NoPanic.normal ?_
              have hbD := hH.2
              clear hH
              go_wp2_with fail
              go_meet
              exact ⟨rfl, hbD⟩
            · obtain ⟨j', rfl⟩ : ∃ x, j = x + 1 := ⟨j - 1, by omega⟩
              have nx := OK.out.next j' hjk
              have cE := HCE.out j' (by omega)
              obtain ⟨x, ex⟩ : ∃ z, F (j' + 1) = z := ⟨_, rfl⟩
              obtain ⟨y, ey⟩ : ∃ z, E j' = z := ⟨_, rfl⟩
              rw [ex] at cF nx
              rw [ey] at cE nx
              have t1 : decide (x < y) = false := decide_eq_false (by omega)
              have t2 : decide ((0 : Int) < (j' : Int) + 1) = true := decide_eq_true (by omega)
              have t3 : (j' : Int) + 1 - 1 = (j' : Int) := by omega
              have t4 : IntKind.i64.wrap ((j' : Int) + 1 - 1) = (j' : Int) := by rw [IntKind.wrap_i64]; omega
              have t5 : (0 : Int) ≤ (j' : Int) := by omega
              have t9 : IntKind.i64.wrap (j' : Int) = (j' : Int) := by rw [IntKind.wrap_i64]; omega
              have t6 : (j' : Int) < (k : Int) := by omega
              have t7 : (j' : Int) + 1 < (k : Int) := by omega
              have t8 : (0 : Int) ≤ (j' : Int) + 1 := by omega
              have KF : Hid (∀ w', Below (wl.heap.size) wl w' → (w'.cell? ⟨gf, j' + 1, none⟩ = some (.int .u64 x) ∧ w'.cell? ⟨ge, j', none⟩ = some (.int .u64 y)) ∧ Below (wl.heap.size) wl w') := fun w' hb => ⟨⟨((hb.cell (p := ⟨gf, j' + 1, none⟩) hgf).trans cF), ((hb.cell (p := ⟨ge, j', none⟩) hge).trans cE)⟩, hb⟩
              clear nx ex ey
              refine wp_region_noPanic ?_
              refine wp_region_held_drew (S := fun w' => (w'.cell? ⟨gf, j' + 1, none⟩ = some (.int .u64 x) ∧ w'.cell? ⟨ge, j', none⟩ = some (.int .u64 y)) ∧ Below (wl.heap.size) wl w') (by kernel_rfl) (KF.out _ (below_of_drew (HBo.out))) (fun hH => ?_)
              first | (refine wpAnyH_take (i := 0) (v := undef) rfl ?_ ?_ ?_ (fun _ _ _ h => h) ?_ ?_ ?_; kernel_rfl; kernel_rfl; kernel_rfl; exact Or.inr ⟨by rfl, rfl⟩; exact hH) | (refine wpAnyH_take (i := 0) (v := ?_) rfl ?_ ?_ ?_ (fun _ _ _ h => h) ?_ ?_ ?_; rotate_left; kernel_rfl; kernel_rfl; kernel_rfl; (focus (refine Or.inl ⟨by rfl, ?_⟩; intro w' hSw; (try dsimp only at hSw); go_simp)); exact hH) | (refine wpAnyH_take (i := 0) (v := ?_) rfl ?_ ?_ ?_ (fun _ _ _ h => h) ?_ ?_ ?_; rotate_left; kernel_rfl; kernel_rfl; kernel_rfl; (focus (refine Or.inl ⟨by rfl, ?_⟩; intro w' hSw; (try dsimp only at hSw); go_simp; with_reducible rfl)); exact hH)
              try simp only [Act.put, List.getElem_toArray, List.getElem_cons_succ, List.getElem_cons_zero, List.setIfInBounds_toArray, List.set_cons_zero, List.set_cons_succ]
              first | (refine wpAnyH_take (i := 1) (v := undef) rfl ?_ ?_ ?_ (fun _ _ _ h => h) ?_ ?_ ?_; kernel_rfl; kernel_rfl; kernel_rfl; exact Or.inr ⟨by rfl, rfl⟩; exact hH) | (refine wpAnyH_take (i := 1) (v := ?_) rfl ?_ ?_ ?_ (fun _ _ _ h => h) ?_ ?_ ?_; rotate_left; kernel_rfl; kernel_rfl; kernel_rfl; (focus (refine Or.inl ⟨by rfl, ?_⟩; intro w' hSw; (try dsimp only at hSw); go_simp)); exact hH) | (refine wpAnyH_take (i := 1) (v := ?_) rfl ?_ ?_ ?_ (fun _ _ _ h => h) ?_ ?_ ?_; rotate_left; kernel_rfl; kernel_rfl; kernel_rfl; (focus (refine Or.inl ⟨by rfl, ?_⟩; intro w' hSw; (try dsimp only at hSw); go_simp; with_reducible rfl)); exact hH)
              try simp only [Act.put, List.getElem_toArray, List.getElem_cons_succ, List.getElem_cons_zero, List.setIfInBounds_toArray, List.set_cons_zero, List.set_cons_succ]
              first | (refine wpAnyH_take (i := 2) (v := undef) rfl ?_ ?_ ?_ (fun _ _ _ h => h) ?_ ?_ ?_; kernel_rfl; kernel_rfl; kernel_rfl; exact Or.inr ⟨by rfl, rfl⟩; exact hH) | (refine wpAnyH_take (i := 2) (v := ?_) rfl ?_ ?_ ?_ (fun _ _ _ h => h) ?_ ?_ ?_; rotate_left; kernel_rfl; kernel_rfl; kernel_rfl; (focus (refine Or.inl ⟨by rfl, ?_⟩; intro w' hSw; (try dsimp only at hSw); go_simp)); exact hH) | (refine wpAnyH_take (i := 2) (v := ?_) rfl ?_ ?_ ?_ (fun _ _ _ h => h) ?_ ?_ ?_; rotate_left; kernel_rfl; kernel_rfl; kernel_rfl; (focus (refine Or.inl ⟨by rfl, ?_⟩; intro w' hSw; (try dsimp only at hSw); go_simp; with_reducible rfl)); exact hH)
              try simp only [Act.put, List.getElem_toArray, List.getElem_cons_succ, List.getElem_cons_zero, List.setIfInBounds_toArray, List.set_cons_zero, List.set_cons_succ]
              first | (refine wpAnyH_take (i := 3) (v := undef) rfl ?_ ?_ ?_ (fun _ _ _ h => h) ?_ ?_ ?_; kernel_rfl; kernel_rfl; kernel_rfl; exact Or.inr ⟨by rfl, rfl⟩; exact hH) | (refine wpAnyH_take (i := 3) (v := ?_) rfl ?_ ?_ ?_ (fun _ _ _ h => h) ?_ ?_ ?_; rotate_left; kernel_rfl; kernel_rfl; kernel_rfl; (focus (refine Or.inl ⟨by rfl, ?_⟩; intro w' hSw; (try dsimp only at hSw); go_simp)); exact hH) | (refine wpAnyH_take (i := 3) (v := ?_) rfl ?_ ?_ ?_ (fun _ _ _ h => h) ?_ ?_ ?_; rotate_left; kernel_rfl; kernel_rfl; kernel_rfl; (focus (refine Or.inl ⟨by rfl, ?_⟩; intro w' hSw; (try dsimp only at hSw); go_simp; with_reducible rfl)); exact hH)
              try simp only [Act.put, List.getElem_toArray, List.getElem_cons_succ, List.getElem_cons_zero, List.setIfInBounds_toArray, List.set_cons_zero, List.set_cons_succ]
              first | (refine wpAnyH_take (i := 4) (v := undef) rfl ?_ ?_ ?_ (fun _ _ _ h => h) ?_ ?_ ?_; kernel_rfl; kernel_rfl; kernel_rfl; exact Or.inr ⟨by rfl, rfl⟩; exact hH) | (refine wpAnyH_take (i := 4) (v := ?_) rfl ?_ ?_ ?_ (fun _ _ _ h => h) ?_ ?_ ?_; rotate_left; kernel_rfl; kernel_rfl; kernel_rfl; (focus (refine Or.inl ⟨by rfl, ?_⟩; intro w' hSw; (try dsimp only at hSw); go_simp)); exact hH) | (refine wpAnyH_take (i := 4) (v := ?_) rfl ?_ ?_ ?_ (fun _ _ _ h => h) ?_ ?_ ?_; rotate_left; kernel_rfl; kernel_rfl; kernel_rfl; (focus (refine Or.inl ⟨by rfl, ?_⟩; intro w' hSw; (try dsimp only at hSw); go_simp; with_reducible rfl)); exact hH)
              try simp only [Act.put, List.getElem_toArray, List.getElem_cons_succ, List.getElem_cons_zero, List.setIfInBounds_toArray, List.set_cons_zero, List.set_cons_succ]
              first | (refine wpAnyH_take (i := 5) (v := undef) rfl ?_ ?_ ?_ (fun _ _ _ h => h) ?_ ?_ ?_; kernel_rfl; kernel_rfl; kernel_rfl; exact Or.inr ⟨by rfl, rfl⟩; exact hH) | (refine wpAnyH_take (i := 5) (v := ?_) rfl ?_ ?_ ?_ (fun _ _ _ h => h) ?_ ?_ ?_; rotate_left; kernel_rfl; kernel_rfl; kernel_rfl; (focus (refine Or.inl ⟨by rfl, ?_⟩; intro w' hSw; (try dsimp only at hSw); go_simp)); exact hH) | (refine wpAnyH_take (i := 5) (v := ?_) rfl ?_ ?_ ?_ (fun _ _ _ h => h) ?_ ?_ ?_; rotate_left; kernel_rfl; kernel_rfl; kernel_rfl; (focus (refine Or.inl ⟨by rfl, ?_⟩; intro w' hSw; (try dsimp only at hSw); go_simp; with_reducible rfl)); exact hH)
              try simp only [Act.put, List.getElem_toArray, List.getElem_cons_succ, List.getElem_cons_zero, List.setIfInBounds_toArray, List.set_cons_zero, List.set_cons_succ]
              first | (refine wpAnyH_take (i := 6) (v := undef) rfl ?_ ?_ ?_ (fun _ _ _ h => h) ?_ ?_ ?_; kernel_rfl; kernel_rfl; kernel_rfl; exact Or.inr ⟨by rfl, rfl⟩; exact hH) | (refine wpAnyH_take (i := 6) (v := ?_) rfl ?_ ?_ ?_ (fun _ _ _ h => h) ?_ ?_ ?_; rotate_left; kernel_rfl; kernel_rfl; kernel_rfl; (focus (refine Or.inl ⟨by rfl, ?_⟩; intro w' hSw; (try dsimp only at hSw); go_simp)); exact hH) | (refine wpAnyH_take (i := 6) (v := ?_) rfl ?_ ?_ ?_ (fun _ _ _ h => h) ?_ ?_ ?_; rotate_left; kernel_rfl; kernel_rfl; kernel_rfl; (focus (refine Or.inl ⟨by rfl, ?_⟩; intro w' hSw; (try dsimp only at hSw); go_simp; with_reducible rfl)); exact hH)
              try simp only [Act.put, List.getElem_toArray, List.getElem_cons_succ, List.getElem_cons_zero, List.setIfInBounds_toArray, List.set_cons_zero, List.set_cons_succ]
              first | (refine wpAnyH_take (i := 7) (v := undef) rfl ?_ ?_ ?_ (fun _ _ _ h => h) ?_ ?_ ?_; kernel_rfl; kernel_rfl; kernel_rfl; exact Or.inr ⟨by rfl, rfl⟩; exact hH) | (refine wpAnyH_take (i := 7) (v := ?_) rfl ?_ ?_ ?_ (fun _ _ _ h => h) ?_ ?_ ?_; rotate_left; kernel_rfl; kernel_rfl; kernel_rfl; (focus (refine Or.inl ⟨by rfl, ?_⟩; intro w' hSw; (try dsimp only at hSw); go_simp)); exact hH) | (refine wpAnyH_take (i := 7) (v := ?_) rfl ?_ ?_ ?_ (fun _ _ _ h => h) ?_ ?_ ?_; rotate_left; kernel_rfl; kernel_rfl; kernel_rfl; (focus (refine Or.inl ⟨by rfl, ?_⟩; intro w' hSw; (try dsimp only at hSw); go_simp; with_reducible rfl)); exact hH)
              try simp only [Act.put, List.getElem_toArray, List.getElem_cons_succ, List.getElem_cons_zero, List.setIfInBounds_toArray, List.set_cons_zero, List.set_cons_succ]
              first | (refine wpAnyH_take (i := 8) (v := undef) rfl ?_ ?_ ?_ (fun _ _ _ h => h) ?_ ?_ ?_; kernel_rfl; kernel_rfl; kernel_rfl; exact Or.inr ⟨by rfl, rfl⟩; exact hH) | (refine wpAnyH_take (i := 8) (v := ?_) rfl ?_ ?_ ?_ (fun _ _ _ h => h) ?_ ?_ ?_; rotate_left; kernel_rfl; kernel_rfl; kernel_rfl; (focus (refine Or.inl ⟨by rfl, ?_⟩; intro w' hSw; (try dsimp only at hSw); go_simp)); exact hH) | (refine wpAnyH_take (i := 8) (v := ?_) rfl ?_ ?_ ?_ (fun _ _ _ h => h) ?_ ?_ ?_; rotate_left; kernel_rfl; kernel_rfl; kernel_rfl; (focus (refine Or.inl ⟨by rfl, ?_⟩; intro w' hSw; (try dsimp only at hSw); go_simp; with_reducible rfl)); exact hH)
              try simp only [Act.put, List.getElem_toArray, List.getElem_cons_succ, List.getElem_cons_zero, List.setIfInBounds_toArray, List.set_cons_zero, List.set_cons_succ]
              first | (refine wpAnyH_take (i := 9) (v := undef) rfl ?_ ?_ ?_ (fun _ _ _ h => h) ?_ ?_ ?_; kernel_rfl; kernel_rfl; kernel_rfl; exact Or.inr ⟨by rfl, rfl⟩; exact hH) | (refine wpAnyH_take (i := 9) (v := ?_) rfl ?_ ?_ ?_ (fun _ _ _ h => h) ?_ ?_ ?_; rotate_left; kernel_rfl; kernel_rfl; kernel_rfl; (focus (refine Or.inl ⟨by rfl, ?_⟩; intro w' hSw; (try dsimp only at hSw); go_simp)); exact hH) | (refine wpAnyH_take (i := 9) (v := ?_) rfl ?_ ?_ ?_ (fun _ _ _ h => h) ?_ ?_ ?_; rotate_left; kernel_rfl; kernel_rfl; kernel_rfl; (focus (refine Or.inl ⟨by rfl, ?_⟩; intro w' hSw; (try dsimp only at hSw); go_simp; with_reducible rfl)); exact hH)
              try simp only [Act.put, List.getElem_toArray, List.getElem_cons_succ, List.getElem_cons_zero, List.setIfInBounds_toArray, List.set_cons_zero, List.set_cons_succ]
              first | (refine wpAnyH_take (i := 10) (v := undef) rfl ?_ ?_ ?_ (fun _ _ _ h => h) ?_ ?_ ?_; kernel_rfl; kernel_rfl; kernel_rfl; exact Or.inr ⟨by rfl, rfl⟩; exact hH) | (refine wpAnyH_take (i := 10) (v := ?_) rfl ?_ ?_ ?_ (fun _ _ _ h => h) ?_ ?_ ?_; rotate_left; kernel_rfl; kernel_rfl; kernel_rfl; (focus (refine Or.inl ⟨by rfl, ?_⟩; intro w' hSw; (try dsimp only at hSw); go_simp)); exact hH) | (refine wpAnyH_take (i := 10) (v := ?_) rfl ?_ ?_ ?_ (fun _ _ _ h => h) ?_ ?_ ?_; rotate_left; kernel_rfl; kernel_rfl; kernel_rfl; (focus (refine Or.inl ⟨by rfl, ?_⟩; intro w' hSw; (try dsimp only at hSw); go_simp; with_reducible rfl)); exact hH)
              try simp only [Act.put, List.getElem_toArray, List.getElem_cons_succ, List.getElem_cons_zero, List.setIfInBounds_toArray, List.set_cons_zero, List.set_cons_succ]
              first | (refine wpAnyH_take (i := 11) (v := undef) rfl ?_ ?_ ?_ (fun _ _ _ h => h) ?_ ?_ ?_; kernel_rfl; kernel_rfl; kernel_rfl; exact Or.inr ⟨by rfl, rfl⟩; exact hH) | (refine wpAnyH_take (i := 11) (v := ?_) rfl ?_ ?_ ?_ (fun _ _ _ h => h) ?_ ?_ ?_; rotate_left; kernel_rfl; kernel_rfl; kernel_rfl; (focus (refine Or.inl ⟨by rfl, ?_⟩; intro w' hSw; (try dsimp only at hSw); go_simp)); exact hH) | (refine wpAnyH_take (i := 11) (v := ?_) rfl ?_ ?_ ?_ (fun _ _ _ h => h) ?_ ?_ ?_; rotate_left; kernel_rfl; kernel_rfl; kernel_rfl; (focus (refine Or.inl ⟨by rfl, ?_⟩; intro w' hSw; (try dsimp only at hSw); go_simp; with_reducible rfl)); exact hH)
              try simp only [Act.put, List.getElem_toArray, List.getElem_cons_succ, List.getElem_cons_zero, List.setIfInBounds_toArray, List.set_cons_zero, List.set_cons_succ]
              first | (refine wpAnyH_take (i := 12) (v := undef) rfl ?_ ?_ ?_ (fun _ _ _ h => h) ?_ ?_ ?_; kernel_rfl; kernel_rfl; kernel_rfl; exact Or.inr ⟨by rfl, rfl⟩; exact hH) | (refine wpAnyH_take (i := 12) (v := ?_) rfl ?_ ?_ ?_ (fun _ _ _ h => h) ?_ ?_ ?_; rotate_left; kernel_rfl; kernel_rfl; kernel_rfl; (focus (refine Or.inl ⟨by rfl, ?_⟩; intro w' hSw; (try dsimp only at hSw); go_simp)); exact hH) | (refine wpAnyH_take (i := 12) (v := ?_) rfl ?_ ?_ ?_ (fun _ _ _ h => h) ?_ ?_ ?_; rotate_left; kernel_rfl; kernel_rfl; kernel_rfl; (focus (refine Or.inl ⟨by rfl, ?_⟩; intro w' hSw; (try dsimp only at hSw); go_simp; with_reducible rfl)); exact hH)
              try simp only [Act.put, List.getElem_toArray, List.getElem_cons_succ, List.getElem_cons_zero, List.setIfInBounds_toArray, List.set_cons_zero, List.set_cons_succ]
              first | (refine wpAnyH_take (i := 13) (v := undef) rfl ?_ ?_ ?_ (fun _ _ _ h => h) ?_ ?_ ?_; kernel_rfl; kernel_rfl; kernel_rfl; exact Or.inr ⟨by rfl, rfl⟩; exact hH) | (refine wpAnyH_take (i := 13) (v := ?_) rfl ?_ ?_ ?_ (fun _ _ _ h => h) ?_ ?_ ?_; rotate_left; kernel_rfl; kernel_rfl; kernel_rfl; (focus (refine Or.inl ⟨by rfl, ?_⟩; intro w' hSw; (try dsimp only at hSw); go_simp)); exact hH) | (refine wpAnyH_take (i := 13) (v := ?_) rfl ?_ ?_ ?_ (fun _ _ _ h => h) ?_ ?_ ?_; rotate_left; kernel_rfl; kernel_rfl; kernel_rfl; (focus (refine Or.inl ⟨by rfl, ?_⟩; intro w' hSw; (try dsimp only at hSw); go_simp; with_reducible rfl)); exact hH)
              try simp only [Act.put, List.getElem_toArray, List.getElem_cons_succ, List.getElem_cons_zero, List.setIfInBounds_toArray, List.set_cons_zero, List.set_cons_succ]
              refine wpAnyH_done (by kernel_rfl) ?_ _
              refine NoPanic.normal ?_
              have hbD := hH.2
              clear hH
              go_wp2_with fail
              go_meet
              exact ⟨rfl, hbD⟩
          case rest =>
            obtain ⟨rfl, B1⟩ := hcut
            have HB1 := Lib.hid B1
            obtain ⟨wq, rfl⟩ : ∃ x : World, x = wc := ⟨_, rfl⟩
            clear B1 HBo
            obtain ⟨x, ex⟩ : ∃ z, F j = z := ⟨_, rfl⟩
            rw [ex] at cF szj
            go_wp2_with fail
            go_loopg [16, 17] (k - j) (fun gk sv kv wr => ∃ q : Nat, j ≤ q ∧ q + gk = k ∧ kv = .int .i64 q ∧ sv = .int .u64 (segN G j (q - j)) ∧ Below wl.heap.size wl wr)
            case atStart => exact ⟨j, Nat.le_refl _, by omega, rfl, by rw [Nat.sub_self]; rfl, HB1.out⟩
            case round =>
              obtain ⟨q, hjq, hq, rfl, rfl, B2⟩ := hrel
              have HB2 := Lib.hid B2
              clear B2 HB1
              by_cases hqk : q < k
              · obtain ⟨gm2, rfl⟩ : ∃ gm, gk = gm + 1 := ⟨gk - 1, by omega⟩
                have pr := never_pair OK.out (i := j) (m := q - j) (by omega)
                have sb := segN_bounds (G := G) (i := j) (m := q - j) (M := 384000) (fun i hi => (OK.out.size i (by omega)).2.2)
                have szq := OK.out.size q hqk
                have ES := Lib.hid (show segN G j (q + 1 - j) = segN G j (q - j) + G q from by
                  rw [show q + 1 - j = (q - j) + 1 by omega]; show segN G j (q - j) + G (j + (q - j)) = _; rw [show j + (q - j) = q by omega])
                have e0 : segN G j (q - j + 1) = segN G j (q - j) + G q := by show segN G j (q - j) + G (j + (q - j)) = _; rw [show j + (q - j) = q by omega]
                rw [show j + (q - j) = q by omega, e0, ex] at pr
                have cE := HCE.out q hqk
                have cG := HCG.out q hqk
                obtain ⟨y, ey⟩ : ∃ z, E q = z := ⟨_, rfl⟩
                obtain ⟨gv, eg⟩ : ∃ z, G q = z := ⟨_, rfl⟩
                obtain ⟨s, es⟩ : ∃ z, segN G j (q - j) = z := ⟨_, rfl⟩
                rw [ey] at pr cE szq
                rw [eg] at pr cG szq ES
                rw [es] at pr sb ES ⊢
                have q60 : ((q - j : Nat) : Int) ≤ 60 := by omega
                obtain ⟨s', es'⟩ : ∃ z, s + gv = z := ⟨_, rfl⟩
                rw [es'] at pr ES
                have w1 : IntKind.u64.wrap (s + gv) = s' := by rw [← es', IntKind.wrap_u64]; omega
                obtain ⟨d, ed⟩ : ∃ z, y - x = z := ⟨_, rfl⟩
                have d0 : 0 ≤ d := by omega
                have d1 : d ≤ 2147483648 := by omega
                have w2 : IntKind.u64.wrap (y - x) = d := by rw [← ed, IntKind.wrap_u64]; omega
                have w3 : IntKind.u64.wrap (d + 1) = d + 1 := by rw [IntKind.wrap_u64]; omega
                rw [ed] at pr
                have p0 : 0 ≤ r * (d + 1) := Int.mul_nonneg (by omega) (by omega)
                have p1 : r * (d + 1) ≤ 1048576 * (d + 1) := Int.mul_le_mul_of_nonneg_right hr2 (by omega)
                have w4 : IntKind.u64.wrap (r * (d + 1)) = r * (d + 1) := by rw [IntKind.wrap_u64]; omega
                obtain ⟨pp, ep⟩ : ∃ z, r * (d + 1) = z := ⟨_, rfl⟩
                rw [ep] at pr w4
                have w4' : IntKind.u64.wrap (r * (d + 1)) = pp := by rw [ep]; exact w4
                have t1 : decide (y < x) = false := decide_eq_false (by omega)
                have t2 : decide (pp < s') = false := decide_eq_false (by omega)
                have q0 : (0 : Int) ≤ (q : Int) := by omega
                have q1 : (q : Int) < (k : Int) := by omega
                have cGw := (HB2.out.cell (p := ⟨gg, q, none⟩) hgg).trans cG
                have KF : Hid (∀ w', Below (wl.heap.size) wl w' → (w'.cell? ⟨gf, j, none⟩ = some (.int .u64 x) ∧ w'.cell? ⟨ge, q, none⟩ = some (.int .u64 y)) ∧ Below (wl.heap.size) wl w') := fun w' hb => ⟨⟨((hb.cell (p := ⟨gf, j, none⟩) hgf).trans cF), ((hb.cell (p := ⟨ge, q, none⟩) hge).trans cE)⟩, hb⟩
                have s0 : 0 ≤ s + gv := by omega
                have s1 : s + gv ≤ 1000000000 := by omega
                clear pr sb szq ey eg es p0 p1 ep w4 d1 d0 ed e0 cE cG q60
                go_upto_region 34 with (fail)
                refine wp_region_noPanic ?_
                refine wp_region_held_drew (S := fun w' => (w'.cell? ⟨gf, j, none⟩ = some (.int .u64 x) ∧ w'.cell? ⟨ge, q, none⟩ = some (.int .u64 y)) ∧ Below (wl.heap.size) wl w') (by kernel_rfl) (KF.out _ (below_of_drew (HB2.out))) (fun hH => ?_)
                first | (refine wpAnyH_take (i := 0) (v := undef) rfl ?_ ?_ ?_ (fun _ _ _ h => h) ?_ ?_ ?_; kernel_rfl; kernel_rfl; kernel_rfl; exact Or.inr ⟨by rfl, rfl⟩; exact hH) | (refine wpAnyH_take (i := 0) (v := ?_) rfl ?_ ?_ ?_ (fun _ _ _ h => h) ?_ ?_ ?_; rotate_left; kernel_rfl; kernel_rfl; kernel_rfl; (focus (refine Or.inl ⟨by rfl, ?_⟩; intro w' hSw; (try dsimp only at hSw); go_simp)); exact hH) | (refine wpAnyH_take (i := 0) (v := ?_) rfl ?_ ?_ ?_ (fun _ _ _ h => h) ?_ ?_ ?_; rotate_left; kernel_rfl; kernel_rfl; kernel_rfl; (focus (refine Or.inl ⟨by rfl, ?_⟩; intro w' hSw; (try dsimp only at hSw); go_simp; with_reducible rfl)); exact hH)
                try simp only [Act.put, List.getElem_toArray, List.getElem_cons_succ, List.getElem_cons_zero, List.setIfInBounds_toArray, List.set_cons_zero, List.set_cons_succ]
                first | (refine wpAnyH_take (i := 1) (v := undef) rfl ?_ ?_ ?_ (fun _ _ _ h => h) ?_ ?_ ?_; kernel_rfl; kernel_rfl; kernel_rfl; exact Or.inr ⟨by rfl, rfl⟩; exact hH) | (refine wpAnyH_take (i := 1) (v := ?_) rfl ?_ ?_ ?_ (fun _ _ _ h => h) ?_ ?_ ?_; rotate_left; kernel_rfl; kernel_rfl; kernel_rfl; (focus (refine Or.inl ⟨by rfl, ?_⟩; intro w' hSw; (try dsimp only at hSw); go_simp)); exact hH) | (refine wpAnyH_take (i := 1) (v := ?_) rfl ?_ ?_ ?_ (fun _ _ _ h => h) ?_ ?_ ?_; rotate_left; kernel_rfl; kernel_rfl; kernel_rfl; (focus (refine Or.inl ⟨by rfl, ?_⟩; intro w' hSw; (try dsimp only at hSw); go_simp; with_reducible rfl)); exact hH)
                try simp only [Act.put, List.getElem_toArray, List.getElem_cons_succ, List.getElem_cons_zero, List.setIfInBounds_toArray, List.set_cons_zero, List.set_cons_succ]
                first | (refine wpAnyH_take (i := 2) (v := undef) rfl ?_ ?_ ?_ (fun _ _ _ h => h) ?_ ?_ ?_; kernel_rfl; kernel_rfl; kernel_rfl; exact Or.inr ⟨by rfl, rfl⟩; exact hH) | (refine wpAnyH_take (i := 2) (v := ?_) rfl ?_ ?_ ?_ (fun _ _ _ h => h) ?_ ?_ ?_; rotate_left; kernel_rfl; kernel_rfl; kernel_rfl; (focus (refine Or.inl ⟨by rfl, ?_⟩; intro w' hSw; (try dsimp only at hSw); go_simp)); exact hH) | (refine wpAnyH_take (i := 2) (v := ?_) rfl ?_ ?_ ?_ (fun _ _ _ h => h) ?_ ?_ ?_; rotate_left; kernel_rfl; kernel_rfl; kernel_rfl; (focus (refine Or.inl ⟨by rfl, ?_⟩; intro w' hSw; (try dsimp only at hSw); go_simp; with_reducible rfl)); exact hH)
                try simp only [Act.put, List.getElem_toArray, List.getElem_cons_succ, List.getElem_cons_zero, List.setIfInBounds_toArray, List.set_cons_zero, List.set_cons_succ]
                first | (refine wpAnyH_take (i := 3) (v := undef) rfl ?_ ?_ ?_ (fun _ _ _ h => h) ?_ ?_ ?_; kernel_rfl; kernel_rfl; kernel_rfl; exact Or.inr ⟨by rfl, rfl⟩; exact hH) | (refine wpAnyH_take (i := 3) (v := ?_) rfl ?_ ?_ ?_ (fun _ _ _ h => h) ?_ ?_ ?_; rotate_left; kernel_rfl; kernel_rfl; kernel_rfl; (focus (refine Or.inl ⟨by rfl, ?_⟩; intro w' hSw; (try dsimp only at hSw); go_simp)); exact hH) | (refine wpAnyH_take (i := 3) (v := ?_) rfl ?_ ?_ ?_ (fun _ _ _ h => h) ?_ ?_ ?_; rotate_left; kernel_rfl; kernel_rfl; kernel_rfl; (focus (refine Or.inl ⟨by rfl, ?_⟩; intro w' hSw; (try dsimp only at hSw); go_simp; with_reducible rfl)); exact hH)
                try simp only [Act.put, List.getElem_toArray, List.getElem_cons_succ, List.getElem_cons_zero, List.setIfInBounds_toArray, List.set_cons_zero, List.set_cons_succ]
                first | (refine wpAnyH_take (i := 4) (v := undef) rfl ?_ ?_ ?_ (fun _ _ _ h => h) ?_ ?_ ?_; kernel_rfl; kernel_rfl; kernel_rfl; exact Or.inr ⟨by rfl, rfl⟩; exact hH) | (refine wpAnyH_take (i := 4) (v := ?_) rfl ?_ ?_ ?_ (fun _ _ _ h => h) ?_ ?_ ?_; rotate_left; kernel_rfl; kernel_rfl; kernel_rfl; (focus (refine Or.inl ⟨by rfl, ?_⟩; intro w' hSw; (try dsimp only at hSw); go_simp)); exact hH) | (refine wpAnyH_take (i := 4) (v := ?_) rfl ?_ ?_ ?_ (fun _ _ _ h => h) ?_ ?_ ?_; rotate_left; kernel_rfl; kernel_rfl; kernel_rfl; (focus (refine Or.inl ⟨by rfl, ?_⟩; intro w' hSw; (try dsimp only at hSw); go_simp; with_reducible rfl)); exact hH)
                try simp only [Act.put, List.getElem_toArray, List.getElem_cons_succ, List.getElem_cons_zero, List.setIfInBounds_toArray, List.set_cons_zero, List.set_cons_succ]
                first | (refine wpAnyH_take (i := 5) (v := undef) rfl ?_ ?_ ?_ (fun _ _ _ h => h) ?_ ?_ ?_; kernel_rfl; kernel_rfl; kernel_rfl; exact Or.inr ⟨by rfl, rfl⟩; exact hH) | (refine wpAnyH_take (i := 5) (v := ?_) rfl ?_ ?_ ?_ (fun _ _ _ h => h) ?_ ?_ ?_; rotate_left; kernel_rfl; kernel_rfl; kernel_rfl; (focus (refine Or.inl ⟨by rfl, ?_⟩; intro w' hSw; (try dsimp only at hSw); go_simp)); exact hH) | (refine wpAnyH_take (i := 5) (v := ?_) rfl ?_ ?_ ?_ (fun _ _ _ h => h) ?_ ?_ ?_; rotate_left; kernel_rfl; kernel_rfl; kernel_rfl; (focus (refine Or.inl ⟨by rfl, ?_⟩; intro w' hSw; (try dsimp only at hSw); go_simp; with_reducible rfl)); exact hH)
                try simp only [Act.put, List.getElem_toArray, List.getElem_cons_succ, List.getElem_cons_zero, List.setIfInBounds_toArray, List.set_cons_zero, List.set_cons_succ]
                first | (refine wpAnyH_take (i := 6) (v := undef) rfl ?_ ?_ ?_ (fun _ _ _ h => h) ?_ ?_ ?_; kernel_rfl; kernel_rfl; kernel_rfl; exact Or.inr ⟨by rfl, rfl⟩; exact hH) | (refine wpAnyH_take (i := 6) (v := ?_) rfl ?_ ?_ ?_ (fun _ _ _ h => h) ?_ ?_ ?_; rotate_left; kernel_rfl; kernel_rfl; kernel_rfl; (focus (refine Or.inl ⟨by rfl, ?_⟩; intro w' hSw; (try dsimp only at hSw); go_simp)); exact hH) | (refine wpAnyH_take (i := 6) (v := ?_) rfl ?_ ?_ ?_ (fun _ _ _ h => h) ?_ ?_ ?_; rotate_left; kernel_rfl; kernel_rfl; kernel_rfl; (focus (refine Or.inl ⟨by rfl, ?_⟩; intro w' hSw; (try dsimp only at hSw); go_simp; with_reducible rfl)); exact hH)
                try simp only [Act.put, List.getElem_toArray, List.getElem_cons_succ, List.getElem_cons_zero, List.setIfInBounds_toArray, List.set_cons_zero, List.set_cons_succ]
                first | (refine wpAnyH_take (i := 7) (v := undef) rfl ?_ ?_ ?_ (fun _ _ _ h => h) ?_ ?_ ?_; kernel_rfl; kernel_rfl; kernel_rfl; exact Or.inr ⟨by rfl, rfl⟩; exact hH) | (refine wpAnyH_take (i := 7) (v := ?_) rfl ?_ ?_ ?_ (fun _ _ _ h => h) ?_ ?_ ?_; rotate_left; kernel_rfl; kernel_rfl; kernel_rfl; (focus (refine Or.inl ⟨by rfl, ?_⟩; intro w' hSw; (try dsimp only at hSw); go_simp)); exact hH) | (refine wpAnyH_take (i := 7) (v := ?_) rfl ?_ ?_ ?_ (fun _ _ _ h => h) ?_ ?_ ?_; rotate_left; kernel_rfl; kernel_rfl; kernel_rfl; (focus (refine Or.inl ⟨by rfl, ?_⟩; intro w' hSw; (try dsimp only at hSw); go_simp; with_reducible rfl)); exact hH)
                try simp only [Act.put, List.getElem_toArray, List.getElem_cons_succ, List.getElem_cons_zero, List.setIfInBounds_toArray, List.set_cons_zero, List.set_cons_succ]
                first | (refine wpAnyH_take (i := 8) (v := undef) rfl ?_ ?_ ?_ (fun _ _ _ h => h) ?_ ?_ ?_; kernel_rfl; kernel_rfl; kernel_rfl; exact Or.inr ⟨by rfl, rfl⟩; exact hH) | (refine wpAnyH_take (i := 8) (v := ?_) rfl ?_ ?_ ?_ (fun _ _ _ h => h) ?_ ?_ ?_; rotate_left; kernel_rfl; kernel_rfl; kernel_rfl; (focus (refine Or.inl ⟨by rfl, ?_⟩; intro w' hSw; (try dsimp only at hSw); go_simp)); exact hH) | (refine wpAnyH_take (i := 8) (v := ?_) rfl ?_ ?_ ?_ (fun _ _ _ h => h) ?_ ?_ ?_; rotate_left; kernel_rfl; kernel_rfl; kernel_rfl; (focus (refine Or.inl ⟨by rfl, ?_⟩; intro w' hSw; (try dsimp only at hSw); go_simp; with_reducible rfl)); exact hH)
                try simp only [Act.put, List.getElem_toArray, List.getElem_cons_succ, List.getElem_cons_zero, List.setIfInBounds_toArray, List.set_cons_zero, List.set_cons_succ]
                first | (refine wpAnyH_take (i := 9) (v := undef) rfl ?_ ?_ ?_ (fun _ _ _ h => h) ?_ ?_ ?_; kernel_rfl; kernel_rfl; kernel_rfl; exact Or.inr ⟨by rfl, rfl⟩; exact hH) | (refine wpAnyH_take (i := 9) (v := ?_) rfl ?_ ?_ ?_ (fun _ _ _ h => h) ?_ ?_ ?_; rotate_left; kernel_rfl; kernel_rfl; kernel_rfl; (focus (refine Or.inl ⟨by rfl, ?_⟩; intro w' hSw; (try dsimp only at hSw); go_simp)); exact hH) | (refine wpAnyH_take (i := 9) (v := ?_) rfl ?_ ?_ ?_ (fun _ _ _ h => h) ?_ ?_ ?_; rotate_left; kernel_rfl; kernel_rfl; kernel_rfl; (focus (refine Or.inl ⟨by rfl, ?_⟩; intro w' hSw; (try dsimp only at hSw); go_simp; with_reducible rfl)); exact hH)
                try simp only [Act.put, List.getElem_toArray, List.getElem_cons_succ, List.getElem_cons_zero, List.setIfInBounds_toArray, List.set_cons_zero, List.set_cons_succ]
                first | (refine wpAnyH_take (i := 10) (v := undef) rfl ?_ ?_ ?_ (fun _ _ _ h => h) ?_ ?_ ?_; kernel_rfl; kernel_rfl; kernel_rfl; exact Or.inr ⟨by rfl, rfl⟩; exact hH) | (refine wpAnyH_take (i := 10) (v := ?_) rfl ?_ ?_ ?_ (fun _ _ _ h => h) ?_ ?_ ?_; rotate_left; kernel_rfl; kernel_rfl; kernel_rfl; (focus (refine Or.inl ⟨by rfl, ?_⟩; intro w' hSw; (try dsimp only at hSw); go_simp)); exact hH) | (refine wpAnyH_take (i := 10) (v := ?_) rfl ?_ ?_ ?_ (fun _ _ _ h => h) ?_ ?_ ?_; rotate_left; kernel_rfl; kernel_rfl; kernel_rfl; (focus (refine Or.inl ⟨by rfl, ?_⟩; intro w' hSw; (try dsimp only at hSw); go_simp; with_reducible rfl)); exact hH)
                try simp only [Act.put, List.getElem_toArray, List.getElem_cons_succ, List.getElem_cons_zero, List.setIfInBounds_toArray, List.set_cons_zero, List.set_cons_succ]
                first | (refine wpAnyH_take (i := 11) (v := undef) rfl ?_ ?_ ?_ (fun _ _ _ h => h) ?_ ?_ ?_; kernel_rfl; kernel_rfl; kernel_rfl; exact Or.inr ⟨by rfl, rfl⟩; exact hH) | (refine wpAnyH_take (i := 11) (v := ?_) rfl ?_ ?_ ?_ (fun _ _ _ h => h) ?_ ?_ ?_; rotate_left; kernel_rfl; kernel_rfl; kernel_rfl; (focus (refine Or.inl ⟨by rfl, ?_⟩; intro w' hSw; (try dsimp only at hSw); go_simp)); exact hH) | (refine wpAnyH_take (i := 11) (v := ?_) rfl ?_ ?_ ?_ (fun _ _ _ h => h) ?_ ?_ ?_; rotate_left; kernel_rfl; kernel_rfl; kernel_rfl; (focus (refine Or.inl ⟨by rfl, ?_⟩; intro w' hSw; (try dsimp only at hSw); go_simp; with_reducible rfl)); exact hH)
                try simp only [Act.put, List.getElem_toArray, List.getElem_cons_succ, List.getElem_cons_zero, List.setIfInBounds_toArray, List.set_cons_zero, List.set_cons_succ]
                first | (refine wpAnyH_take (i := 12) (v := undef) rfl ?_ ?_ ?_ (fun _ _ _ h => h) ?_ ?_ ?_; kernel_rfl; kernel_rfl; kernel_rfl; exact Or.inr ⟨by rfl, rfl⟩; exact hH) | (refine wpAnyH_take (i := 12) (v := ?_) rfl ?_ ?_ ?_ (fun _ _ _ h => h) ?_ ?_ ?_; rotate_left; kernel_rfl; kernel_rfl; kernel_rfl; (focus (refine Or.inl ⟨by rfl, ?_⟩; intro w' hSw; (try dsimp only at hSw); go_simp)); exact hH) | (refine wpAnyH_take (i := 12) (v := ?_) rfl ?_ ?_ ?_ (fun _ _ _ h => h) ?_ ?_ ?_; rotate_left; kernel_rfl; kernel_rfl; kernel_rfl; (focus (refine Or.inl ⟨by rfl, ?_⟩; intro w' hSw; (try dsimp only at hSw); go_simp; with_reducible rfl)); exact hH)
                try simp only [Act.put, List.getElem_toArray, List.getElem_cons_succ, List.getElem_cons_zero, List.setIfInBounds_toArray, List.set_cons_zero, List.set_cons_succ]
                first | (refine wpAnyH_take (i := 13) (v := undef) rfl ?_ ?_ ?_ (fun _ _ _ h => h) ?_ ?_ ?_; kernel_rfl; kernel_rfl; kernel_rfl; exact Or.inr ⟨by rfl, rfl⟩; exact hH) | (refine wpAnyH_take (i := 13) (v := ?_) rfl ?_ ?_ ?_ (fun _ _ _ h => h) ?_ ?_ ?_; rotate_left; kernel_rfl; kernel_rfl; kernel_rfl; (focus (refine Or.inl ⟨by rfl, ?_⟩; intro w' hSw; (try dsimp only at hSw); go_simp)); exact hH) | (refine wpAnyH_take (i := 13) (v := ?_) rfl ?_ ?_ ?_ (fun _ _ _ h => h) ?_ ?_ ?_; rotate_left; kernel_rfl; kernel_rfl; kernel_rfl; (focus (refine Or.inl ⟨by rfl, ?_⟩; intro w' hSw; (try dsimp only at hSw); go_simp; with_reducible rfl)); exact hH)
                try simp only [Act.put, List.getElem_toArray, List.getElem_cons_succ, List.getElem_cons_zero, List.setIfInBounds_toArray, List.set_cons_zero, List.set_cons_succ]
                first | (refine wpAnyH_take (i := 14) (v := undef) rfl ?_ ?_ ?_ (fun _ _ _ h => h) ?_ ?_ ?_; kernel_rfl; kernel_rfl; kernel_rfl; exact Or.inr ⟨by rfl, rfl⟩; exact hH) | (refine wpAnyH_take (i := 14) (v := ?_) rfl ?_ ?_ ?_ (fun _ _ _ h => h) ?_ ?_ ?_; rotate_left; kernel_rfl; kernel_rfl; kernel_rfl; (focus (refine Or.inl ⟨by rfl, ?_⟩; intro w' hSw; (try dsimp only at hSw); go_simp)); exact hH) | (refine wpAnyH_take (i := 14) (v := ?_) rfl ?_ ?_ ?_ (fun _ _ _ h => h) ?_ ?_ ?_; rotate_left; kernel_rfl; kernel_rfl; kernel_rfl; (focus (refine Or.inl ⟨by rfl, ?_⟩; intro w' hSw; (try dsimp only at hSw); go_simp; with_reducible rfl)); exact hH)
                try simp only [Act.put, List.getElem_toArray, List.getElem_cons_succ, List.getElem_cons_zero, List.setIfInBounds_toArray, List.set_cons_zero, List.set_cons_succ]
                first | (refine wpAnyH_take (i := 15) (v := undef) rfl ?_ ?_ ?_ (fun _ _ _ h => h) ?_ ?_ ?_; kernel_rfl; kernel_rfl; kernel_rfl; exact Or.inr ⟨by rfl, rfl⟩; exact hH) | (refine wpAnyH_take (i := 15) (v := ?_) rfl ?_ ?_ ?_ (fun _ _ _ h => h) ?_ ?_ ?_; rotate_left; kernel_rfl; kernel_rfl; kernel_rfl; (focus (refine Or.inl ⟨by rfl, ?_⟩; intro w' hSw; (try dsimp only at hSw); go_simp)); exact hH) | (refine wpAnyH_take (i := 15) (v := ?_) rfl ?_ ?_ ?_ (fun _ _ _ h => h) ?_ ?_ ?_; rotate_left; kernel_rfl; kernel_rfl; kernel_rfl; (focus (refine Or.inl ⟨by rfl, ?_⟩; intro w' hSw; (try dsimp only at hSw); go_simp; with_reducible rfl)); exact hH)
                try simp only [Act.put, List.getElem_toArray, List.getElem_cons_succ, List.getElem_cons_zero, List.setIfInBounds_toArray, List.set_cons_zero, List.set_cons_succ]
                first | (refine wpAnyH_take (i := 16) (v := undef) rfl ?_ ?_ ?_ (fun _ _ _ h => h) ?_ ?_ ?_; kernel_rfl; kernel_rfl; kernel_rfl; exact Or.inr ⟨by rfl, rfl⟩; exact hH) | (refine wpAnyH_take (i := 16) (v := ?_) rfl ?_ ?_ ?_ (fun _ _ _ h => h) ?_ ?_ ?_; rotate_left; kernel_rfl; kernel_rfl; kernel_rfl; (focus (refine Or.inl ⟨by rfl, ?_⟩; intro w' hSw; (try dsimp only at hSw); go_simp)); exact hH) | (refine wpAnyH_take (i := 16) (v := ?_) rfl ?_ ?_ ?_ (fun _ _ _ h => h) ?_ ?_ ?_; rotate_left; kernel_rfl; kernel_rfl; kernel_rfl; (focus (refine Or.inl ⟨by rfl, ?_⟩; intro w' hSw; (try dsimp only at hSw); go_simp; with_reducible rfl)); exact hH)
                try simp only [Act.put, List.getElem_toArray, List.getElem_cons_succ, List.getElem_cons_zero, List.setIfInBounds_toArray, List.set_cons_zero, List.set_cons_succ]
                first | (refine wpAnyH_take (i := 17) (v := undef) rfl ?_ ?_ ?_ (fun _ _ _ h => h) ?_ ?_ ?_; kernel_rfl; kernel_rfl; kernel_rfl; exact Or.inr ⟨by rfl, rfl⟩; exact hH) | (refine wpAnyH_take (i := 17) (v := ?_) rfl ?_ ?_ ?_ (fun _ _ _ h => h) ?_ ?_ ?_; rotate_left; kernel_rfl; kernel_rfl; kernel_rfl; (focus (refine Or.inl ⟨by rfl, ?_⟩; intro w' hSw; (try dsimp only at hSw); go_simp)); exact hH) | (refine wpAnyH_take (i := 17) (v := ?_) rfl ?_ ?_ ?_ (fun _ _ _ h => h) ?_ ?_ ?_; rotate_left; kernel_rfl; kernel_rfl; kernel_rfl; (focus (refine Or.inl ⟨by rfl, ?_⟩; intro w' hSw; (try dsimp only at hSw); go_simp; with_reducible rfl)); exact hH)
                try simp only [Act.put, List.getElem_toArray, List.getElem_cons_succ, List.getElem_cons_zero, List.setIfInBounds_toArray, List.set_cons_zero, List.set_cons_succ]
                first | (refine wpAnyH_take (i := 18) (v := undef) rfl ?_ ?_ ?_ (fun _ _ _ h => h) ?_ ?_ ?_; kernel_rfl; kernel_rfl; kernel_rfl; exact Or.inr ⟨by rfl, rfl⟩; exact hH) | (refine wpAnyH_take (i := 18) (v := ?_) rfl ?_ ?_ ?_ (fun _ _ _ h => h) ?_ ?_ ?_; rotate_left; kernel_rfl; kernel_rfl; kernel_rfl; (focus (refine Or.inl ⟨by rfl, ?_⟩; intro w' hSw; (try dsimp only at hSw); go_simp)); exact hH) | (refine wpAnyH_take (i := 18) (v := ?_) rfl ?_ ?_ ?_ (fun _ _ _ h => h) ?_ ?_ ?_; rotate_left; kernel_rfl; kernel_rfl; kernel_rfl; (focus (refine Or.inl ⟨by rfl, ?_⟩; intro w' hSw; (try dsimp only at hSw); go_simp; with_reducible rfl)); exact hH)
                try simp only [Act.put, List.getElem_toArray, List.getElem_cons_succ, List.getElem_cons_zero, List.setIfInBounds_toArray, List.set_cons_zero, List.set_cons_succ]
                first | (refine wpAnyH_take (i := 19) (v := undef) rfl ?_ ?_ ?_ (fun _ _ _ h => h) ?_ ?_ ?_; kernel_rfl; kernel_rfl; kernel_rfl; exact Or.inr ⟨by rfl, rfl⟩; exact hH) | (refine wpAnyH_take (i := 19) (v := ?_) rfl ?_ ?_ ?_ (fun _ _ _ h => h) ?_ ?_ ?_; rotate_left; kernel_rfl; kernel_rfl; kernel_rfl; (focus (refine Or.inl ⟨by rfl, ?_⟩; intro w' hSw; (try dsimp only at hSw); go_simp)); exact hH) | (refine wpAnyH_take (i := 19) (v := ?_) rfl ?_ ?_ ?_ (fun _ _ _ h => h) ?_ ?_ ?_; rotate_left; kernel_rfl; kernel_rfl; kernel_rfl; (focus (refine Or.inl ⟨by rfl, ?_⟩; intro w' hSw; (try dsimp only at hSw); go_simp; with_reducible rfl)); exact hH)
                try simp only [Act.put, List.getElem_toArray, List.getElem_cons_succ, List.getElem_cons_zero, List.setIfInBounds_toArray, List.set_cons_zero, List.set_cons_succ]
                first | (refine wpAnyH_take (i := 20) (v := undef) rfl ?_ ?_ ?_ (fun _ _ _ h => h) ?_ ?_ ?_; kernel_rfl; kernel_rfl; kernel_rfl; exact Or.inr ⟨by rfl, rfl⟩; exact hH) | (refine wpAnyH_take (i := 20) (v := ?_) rfl ?_ ?_ ?_ (fun _ _ _ h => h) ?_ ?_ ?_; rotate_left; kernel_rfl; kernel_rfl; kernel_rfl; (focus (refine Or.inl ⟨by rfl, ?_⟩; intro w' hSw; (try dsimp only at hSw); go_simp)); exact hH) | (refine wpAnyH_take (i := 20) (v := ?_) rfl ?_ ?_ ?_ (fun _ _ _ h => h) ?_ ?_ ?_; rotate_left; kernel_rfl; kernel_rfl; kernel_rfl; (focus (refine Or.inl ⟨by rfl, ?_⟩; intro w' hSw; (try dsimp only at hSw); go_simp; with_reducible rfl)); exact hH)
                try simp only [Act.put, List.getElem_toArray, List.getElem_cons_succ, List.getElem_cons_zero, List.setIfInBounds_toArray, List.set_cons_zero, List.set_cons_succ]
                first | (refine wpAnyH_take (i := 21) (v := undef) rfl ?_ ?_ ?_ (fun _ _ _ h => h) ?_ ?_ ?_; kernel_rfl; kernel_rfl; kernel_rfl; exact Or.inr ⟨by rfl, rfl⟩; exact hH) | (refine wpAnyH_take (i := 21) (v := ?_) rfl ?_ ?_ ?_ (fun _ _ _ h => h) ?_ ?_ ?_; rotate_left; kernel_rfl; kernel_rfl; kernel_rfl; (focus (refine Or.inl ⟨by rfl, ?_⟩; intro w' hSw; (try dsimp only at hSw); go_simp)); exact hH) | (refine wpAnyH_take (i := 21) (v := ?_) rfl ?_ ?_ ?_ (fun _ _ _ h => h) ?_ ?_ ?_; rotate_left; kernel_rfl; kernel_rfl; kernel_rfl; (focus (refine Or.inl ⟨by rfl, ?_⟩; intro w' hSw; (try dsimp only at hSw); go_simp; with_reducible rfl)); exact hH)
                try simp only [Act.put, List.getElem_toArray, List.getElem_cons_succ, List.getElem_cons_zero, List.setIfInBounds_toArray, List.set_cons_zero, List.set_cons_succ]
                first | (refine wpAnyH_take (i := 22) (v := undef) rfl ?_ ?_ ?_ (fun _ _ _ h => h) ?_ ?_ ?_; kernel_rfl; kernel_rfl; kernel_rfl; exact Or.inr ⟨by rfl, rfl⟩; exact hH) | (refine wpAnyH_take (i := 22) (v := ?_) rfl ?_ ?_ ?_ (fun _ _ _ h => h) ?_ ?_ ?_; rotate_left; kernel_rfl; kernel_rfl; kernel_rfl; (focus (refine Or.inl ⟨by rfl, ?_⟩; intro w' hSw; (try dsimp only at hSw); go_simp)); exact hH) | (refine wpAnyH_take (i := 22) (v := ?_) rfl ?_ ?_ ?_ (fun _ _ _ h => h) ?_ ?_ ?_; rotate_left; kernel_rfl; kernel_rfl; kernel_rfl; (focus (refine Or.inl ⟨by rfl, ?_⟩; intro w' hSw; (try dsimp only at hSw); go_simp; with_reducible rfl)); exact hH)
                try simp only [Act.put, List.getElem_toArray, List.getElem_cons_succ, List.getElem_cons_zero, List.setIfInBounds_toArray, List.set_cons_zero, List.set_cons_succ]
                first | (refine wpAnyH_take (i := 23) (v := undef) rfl ?_ ?_ ?_ (fun _ _ _ h => h) ?_ ?_ ?_; kernel_rfl; kernel_rfl; kernel_rfl; exact Or.inr ⟨by rfl, rfl⟩; exact hH) | (refine wpAnyH_take (i := 23) (v := ?_) rfl ?_ ?_ ?_ (fun _ _ _ h => h) ?_ ?_ ?_; rotate_left; kernel_rfl; kernel_rfl; kernel_rfl; (focus (refine Or.inl ⟨by rfl, ?_⟩; intro w' hSw; (try dsimp only at hSw); go_simp)); exact hH) | (refine wpAnyH_take (i := 23) (v := ?_) rfl ?_ ?_ ?_ (fun _ _ _ h => h) ?_ ?_ ?_; rotate_left; kernel_rfl; kernel_rfl; kernel_rfl; (focus (refine Or.inl ⟨by rfl, ?_⟩; intro w' hSw; (try dsimp only at hSw); go_simp; with_reducible rfl)); exact hH)
                try simp only [Act.put, List.getElem_toArray, List.getElem_cons_succ, List.getElem_cons_zero, List.setIfInBounds_toArray, List.set_cons_zero, List.set_cons_succ]
                first | (refine wpAnyH_take (i := 24) (v := undef) rfl ?_ ?_ ?_ (fun _ _ _ h => h) ?_ ?_ ?_; kernel_rfl; kernel_rfl; kernel_rfl; exact Or.inr ⟨by rfl, rfl⟩; exact hH) | (refine wpAnyH_take (i := 24) (v := ?_) rfl ?_ ?_ ?_ (fun _ _ _ h => h) ?_ ?_ ?_; rotate_left; kernel_rfl; kernel_rfl; kernel_rfl; (focus (refine Or.inl ⟨by rfl, ?_⟩; intro w' hSw; (try dsimp only at hSw); go_simp)); exact hH) | (refine wpAnyH_take (i := 24) (v := ?_) rfl ?_ ?_ ?_ (fun _ _ _ h => h) ?_ ?_ ?_; rotate_left; kernel_rfl; kernel_rfl; kernel_rfl; (focus (refine Or.inl ⟨by rfl, ?_⟩; intro w' hSw; (try dsimp only at hSw); go_simp; with_reducible rfl)); exact hH)
                try simp only [Act.put, List.getElem_toArray, List.getElem_cons_succ, List.getElem_cons_zero, List.setIfInBounds_toArray, List.set_cons_zero, List.set_cons_succ]
                refine wpAnyH_done (by kernel_rfl) ?_ _
                refine NoPanic.normal ?_
                have hbD := hH.2
                clear hH
                go_wp2_with fail
                go_roundg gm2
                case rel => exact ⟨q + 1, by omega, by omega, by go_num, by rw [ES.out], hbD⟩
                case measure => omega
              · obtain rfl : gk = 0 := by omega
                obtain rfl : q = k := by omega
                go_wp2_with fail
                go_roundg gm
                case rel => exact ⟨j + 1, by omega, by go_num, HB2.out⟩
                case measure => omega
        · obtain rfl : go = 0 := by omega
          obtain rfl : j = k := by omega
          go_wp2_with fail
          go_ret
          exact ⟨rfl, below_next HB.out HBo.out⟩

end Go.Proofs.Ytgkkhdnoikfppaa
