/-
  slices.Concat at rows of any.
-/
import Derived.Test.YtjhffbhjiflfeaaDoorProg
import Derived.Test.YtjhffbhjiflfeaaDoorCmdB
namespace Go.Proofs.YtjhffbhjiflfeaaDoor
set_option linter.unusedVariables false
set_option linter.unusedSimpArgs false
set_option maxRecDepth 100000
open Go.RowKit

/-- Rows, one behind the other. -/
def catTo (xs : Nat → List Value) : Nat → List Value
  | 0 => []
  | i + 1 => catTo xs i ++ xs i
theorem catTo_le {xs : Nat → List Value} {k : Nat} (h : ∀ i, i < k → (xs i).length ≤ 20) : ∀ i, i ≤ k → (catTo xs i).length ≤ 20 * i
  | 0, _ => Nat.le_refl _
  | i + 1, hi => by
    have a := catTo_le h i (by omega)
    have b := h i (by omega)
    simp only [catTo, List.length_append]
    omega

set_option maxHeartbeats 8000000 in
theorem cmd_concat (g k cg : Nat) (b cp : Nat → Nat) (xs : Nat → List Value) (w : World) (hk : k ≤ 5) (hg : g < w.heap.size) (hb : ∀ i, i < k → b i < w.heap.size) (hx : ∀ i, i < k → (xs i).length ≤ 20)
    (hc : ∀ i, i < k → w.cell? ⟨g, i, none⟩ = some (.slice (some ⟨b i, 0, none⟩) (xs i).length (cp i)))
    (hu : ∀ i, i < k → ∀ j u, (xs i)[j]? = some u → w.cell? ⟨b i, j, none⟩ = some u) (h1 : ∀ i, i < k → ∀ u ∈ xs i, u.oneCell' = true) :
    Calls Tryd.prog 27 #[.slice (some ⟨g, 0, none⟩) k cg] w fun e w' => ∃ v, e = .returned v ∧ w'.ownsRow w.heap.size 20 1 v (catTo xs k).length (catTo xs k) ∧ Below w.heap.size w w' := by
  have HL := Lib.hid (catTo_le hx)
  have HX := Lib.hid hx
  have HC := Lib.hid hc
  have HU := Lib.hid hu
  have H1 := Lib.hid h1
  have HBL := Lib.hid hb
  clear hx hc hu h1 hb
  go_enter Tryd.func27, Tryd.ntmps27
  go_wp2_with fail
  go_loopg [3, 11] k (fun gk sz ix wr => ∃ i a : Nat, i + gk = k ∧ ix = .int .i64 i ∧ sz = .int .i64 a ∧ (catTo xs i).length = a ∧ wr = w)
  case atStart => exact ⟨0, 0, by omega, rfl, rfl, rfl, rfl⟩
  case round =>
    obtain ⟨i, a, hi, rfl, rfl, ha, hwr⟩ := hrel
    subst hwr
    have HA := Lib.hid ha
    have ha2 := HL.out i (by omega)
    rw [ha] at ha2
    clear ha
    by_cases hlt : i < k
    · obtain ⟨gm, rfl⟩ : ∃ gm, gk = gm + 1 := ⟨gk - 1, by omega⟩
      obtain ⟨m, hm⟩ : ∃ m, (xs i).length = m := ⟨_, rfl⟩
      have hm2 := HX.out i hlt
      have c := HC.out i hlt
      rw [hm] at hm2 c
      have HM := Lib.hid hm
      clear hm
      have p0 : (0 : Int) ≤ (i : Int) := by omega
      have p1 : (i : Int) < (k : Int) := by omega
      have e1 : wrap64 ((a : Int) + (m : Int)) = ((a + m : Nat) : Int) := by unfold wrap64; omega
      have e2 : wrap64 ((i : Int) + 1) = ((i + 1 : Nat) : Int) := by unfold wrap64; omega
      have e3 : decide (((a + m : Nat) : Int) < 0) = false := decide_eq_false (by omega)
      clear hlt
      go_wp2_with fail
      go_roundg gm
      case rel => exact ⟨i + 1, a + m, by omega, rfl, rfl, by simp only [catTo, List.length_append]; rw [HA.out, HM.out], rfl⟩
      case measure => omega
    · obtain rfl : gk = 0 := by omega
      obtain rfl : i = k := by omega
      clear hlt hi
      obtain ⟨w0, rfl⟩ : ∃ x : World, x = wr := ⟨_, rfl⟩
      go_wp2_with fail
      with_reducible refine (cmd_grow a (by omega) w0).mono ?_
      rintro e w1 ⟨v, rfl, ho, hb1⟩
      have HO := Lib.hid ho
      have HB1 := Lib.hid hb1
      clear ho hb1
      obtain ⟨i0, hi0, hz0, hs0, hb0⟩ := info_parts (show (Tryd.prog.info? 20).map (fun i => (i.zero, i.size, i.bytes)) = some (some .nilIface, 1, 16) by kernel_rfl)
      have HIF := Lib.hid (And.intro hi0 (And.intro hz0 (And.intro hs0 hb0)))
      clear hi0 hz0 hs0 hb0
      go_wp2_with fail
      go_loopg [6, 27] i (fun gk v ix wr => ∃ j : Nat, j + gk = i ∧ ix = .int .i64 j ∧ wr.ownsRow w0.heap.size 20 1 v (catTo xs j).length (catTo xs j) ∧ Below w0.heap.size w0 wr)
      case atStart => exact ⟨0, by omega, rfl, HO.out, HB1.out⟩
      case round =>
        obtain ⟨j, hj, rfl, ho, hb⟩ := hrel
        have HW := Lib.hid ho
        have HB := Lib.hid hb
        clear ho hb HO HB1
        by_cases hlt : j < i
        · obtain ⟨gm, rfl⟩ : ∃ gm, gk = gm + 1 := ⟨gk - 1, by omega⟩
          obtain ⟨m, hm⟩ : ∃ m, (xs j).length = m := ⟨_, rfl⟩
          have hm2 := HX.out j hlt
          have c := (HB.out.cell (p := ⟨g, j, none⟩) hg).trans (HC.out j hlt)
          rw [hm] at hm2 c
          have HM := Lib.hid hm
          have HLT := Lib.hid hlt
          have hl2 := HL.out j (by omega)
          have HL2 := Lib.hid hl2
          clear hm hl2
          have p0 : (0 : Int) ≤ (j : Int) := by omega
          have p1 : (j : Int) < (i : Int) := by omega
          have e2 : wrap64 ((j : Int) + 1) = ((j + 1 : Nat) : Int) := by unfold wrap64; omega
          clear hlt
          go_wp2_with (at_builtin; refine wpList_append_own_at _ rfl (.tmp 31) (.tmp 32) 55 rfl w0.heap.size 20 i0 .nilIface 1 16 Tryd.underlying55 HIF.out.1 HIF.out.2.1 HIF.out.2.2.1 HIF.out.2.2.2 rfl (by decide) _ _ (catTo xs j) rfl HW.out ⟨b j, 0, none⟩ m (cp j) (xs j) rfl (by rw [HM.out, Nat.mul_one]) ?c1 (H1.out j HLT.out) (by have := HL2.out; unfold maxLen; omega) (by have := HL2.out; omega) HB.out.size ?_)
          case c1 =>
            intro q u hq
            have h := (HB.out.cell (p := ⟨b j, q, none⟩) (HBL.out j HLT.out)).trans (HU.out j HLT.out q u hq)
            have e : (⟨b j, 0, none⟩ : Addr).add q = ⟨b j, q, none⟩ := by
              unfold Addr.add
              split
              · rename_i h0
                rw [h0]
              · simp only [Nat.zero_add]
            rw [e]
            exact h
          intro v2 w2 hown hgrow hnil hat
          have H2 : Hid (w2.ownsRow w0.heap.size 20 1 v2 (catTo xs (j + 1)).length (catTo xs (j + 1))) := by
            unfold Hid
            rw [show (catTo xs (j + 1)).length = (catTo xs j).length + m by simp only [catTo, List.length_append]; rw [HM.out]]
            exact hown
          have HB2 := Lib.hid (below_grown HB.out hgrow HB.out.size (fun k hk => (HW.out.lt k hk).1))
          clear hown hgrow hnil hat
          go_wp2_with fail
          go_roundg gm
          case rel => exact ⟨j + 1, by omega, rfl, H2.out, HB2.out⟩
          case measure => omega
        · obtain rfl : gk = 0 := by omega
          obtain rfl : j = i := by omega
          clear hlt hj
          go_wp2_with fail
          go_ret
          exact ⟨_, by simp, HW.out, HB.out⟩

/-- A piece that Concat is handed: a row of any in a block, with its cells. -/
def PieceAt (w : World) (b : Nat) (l : List Value) : Prop := b < w.heap.size ∧ (∀ j u, l[j]? = some u → w.cell? ⟨b, j, none⟩ = some u) ∧ ∀ u ∈ l, u.oneCell' = true
theorem own_less {w : World} {B B' : Nat} {e : TypeId} {size n : Nat} {v : Value} {xs : List Value} (h : w.ownsRow B e size v n xs) (hb : B' ≤ B) : w.ownsRow B' e size v n xs := by
  obtain ⟨h1, h2⟩ := h
  refine ⟨h1, ?_⟩
  rcases h2 with h2 | ⟨g, c, cur, a1, a2, a3⟩
  · exact Or.inl h2
  · exact Or.inr ⟨g, c, cur, a1, Nat.le_trans hb a2, a3⟩
theorem PieceAt.next {w w' : World} {b : Nat} {l : List Value} (h : PieceAt w b l) (hb : Below w.heap.size w w') : PieceAt w' b l :=
  ⟨Nat.lt_of_lt_of_le h.1 hb.size, fun j u e => (hb.cell (p := ⟨b, j, none⟩) h.1).trans (h.2.1 j u e), h.2.2⟩
theorem PieceAt.blk {w : World} {b : Nat} {t : TypeId} {cs : Array Value} {l : List Value} (h : Blk w b t cs) (e : cs.toList = l) (h1 : ∀ u ∈ l, u.oneCell' = true) : PieceAt w b l :=
  ⟨h.lt, fun j u hj => h.get j (by rw [← e] at hj; simpa using hj), h1⟩
theorem cmd_concat3 (g cg b0 b1 b2 c0 c1 c2 : Nat) (x0 x1 x2 : List Value) (w : World) (hg : g < w.heap.size) (d0 : w.cell? ⟨g, 0, none⟩ = some (.slice (some ⟨b0, 0, none⟩) x0.length c0)) (d1 : w.cell? ⟨g, 1, none⟩ = some (.slice (some ⟨b1, 0, none⟩) x1.length c1)) (d2 : w.cell? ⟨g, 2, none⟩ = some (.slice (some ⟨b2, 0, none⟩) x2.length c2))
    (p0 : PieceAt w b0 x0) (p1 : PieceAt w b1 x1) (p2 : PieceAt w b2 x2) (l0 : x0.length ≤ 20) (l1 : x1.length ≤ 20) (l2 : x2.length ≤ 20) :
    Calls Tryd.prog 27 #[.slice (some ⟨g, 0, none⟩) 3 cg] w fun e w' => ∃ v, e = .returned v ∧ w'.ownsRow w.heap.size 20 1 v (x0 ++ x1 ++ x2).length (x0 ++ x1 ++ x2) ∧ Below w.heap.size w w' := by
  have h := cmd_concat g 3 cg (fun i => match i with | 0 => b0 | 1 => b1 | _ => b2) (fun i => match i with | 0 => c0 | 1 => c1 | _ => c2) (fun i => match i with | 0 => x0 | 1 => x1 | _ => x2) w (by omega) hg
    (fun i hi => by match i, hi with | 0, _ => exact p0.1 | 1, _ => exact p1.1 | 2, _ => exact p2.1) (fun i hi => by match i, hi with | 0, _ => exact l0 | 1, _ => exact l1 | 2, _ => exact l2)
    (fun i hi => by match i, hi with | 0, _ => exact d0 | 1, _ => exact d1 | 2, _ => exact d2) (fun i hi => by match i, hi with | 0, _ => exact p0.2.1 | 1, _ => exact p1.2.1 | 2, _ => exact p2.2.1)
    (fun i hi => by match i, hi with | 0, _ => exact p0.2.2 | 1, _ => exact p1.2.2 | 2, _ => exact p2.2.2)
  exact h

theorem cmd_concat2 (g cg b0 b1 c0 c1 : Nat) (x0 x1 : List Value) (w : World) (hg : g < w.heap.size) (d0 : w.cell? ⟨g, 0, none⟩ = some (.slice (some ⟨b0, 0, none⟩) x0.length c0)) (d1 : w.cell? ⟨g, 1, none⟩ = some (.slice (some ⟨b1, 0, none⟩) x1.length c1))
    (p0 : PieceAt w b0 x0) (p1 : PieceAt w b1 x1) (l0 : x0.length ≤ 20) (l1 : x1.length ≤ 20) :
    Calls Tryd.prog 27 #[.slice (some ⟨g, 0, none⟩) 2 cg] w fun e w' => ∃ v, e = .returned v ∧ w'.ownsRow w.heap.size 20 1 v (x0 ++ x1).length (x0 ++ x1) ∧ Below w.heap.size w w' := by
  have h := cmd_concat g 2 cg (fun i => match i with | 0 => b0 | _ => b1) (fun i => match i with | 0 => c0 | _ => c1) (fun i => match i with | 0 => x0 | _ => x1) w (by omega) hg
    (fun i hi => by match i, hi with | 0, _ => exact p0.1 | 1, _ => exact p1.1) (fun i hi => by match i, hi with | 0, _ => exact l0 | 1, _ => exact l1)
    (fun i hi => by match i, hi with | 0, _ => exact d0 | 1, _ => exact d1) (fun i hi => by match i, hi with | 0, _ => exact p0.2.1 | 1, _ => exact p1.2.1)
    (fun i hi => by match i, hi with | 0, _ => exact p0.2.2 | 1, _ => exact p1.2.2)
  exact h
/-- A row of the walk's own, as a piece. -/
theorem PieceAt.own {w : World} {B n : Nat} {v : Value} {xs : List Value} (h : w.ownsRow B 20 1 v n xs) (hn : 0 < n) (h1 : ∀ u ∈ xs, u.oneCell' = true) :
    ∃ b c, v = .slice (some ⟨b, 0, none⟩) n c ∧ B ≤ b ∧ PieceAt w b xs := by
  obtain ⟨b, c, rfl, hb⟩ := own_form h hn
  refine ⟨b, c, rfl, hb, (h.lt b rfl).2, fun j u e => ?_, h1⟩
  have := h.cells (g := b) rfl j u e
  have e2 : (⟨b, 0, none⟩ : Addr).add j = ⟨b, j, none⟩ := by
    unfold Addr.add
    split
    · rename_i h0
      rw [h0]
    · simp only [Nat.zero_add]
  rw [e2] at this
  exact this

end Go.Proofs.YtjhffbhjiflfeaaDoor
