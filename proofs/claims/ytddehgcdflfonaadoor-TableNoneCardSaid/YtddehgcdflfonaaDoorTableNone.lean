/-
  The law TableNone, walked.
-/
import Derived.Test.YtddehgcdflfonaaDoorProg
import Derived.Test.YtddehgcdflfonaaDoorTabSame
import Derived.Test.YtddehgcdflfonaaDoorTabCols
namespace Go.Proofs.YtddehgcdflfonaaDoor
set_option linter.unusedVariables false
set_option linter.unusedSimpArgs false
set_option maxRecDepth 100000
open Go.RowKit Go.Shelf

theorem copy_none (w : World) : Calls Tryd.prog 20 #[.pointer none, .nilFunc] w fun e w' => e = .returned (.pointer none) ∧ Below w.heap.size w w' := by
  refine calls_of_wp_marks Tryd.func20 rfl ?_
  simp only [Tryd.ntmps20, List.size_toArray, List.length_cons, List.length_nil, Nat.reduceAdd, Nat.reduceSub, Array.replicate_succ, Array.replicate_zero, List.push_toArray, List.append_toArray, List.nil_append, List.cons_append]
  go_wp2
  refine marks_ret (B := w.heap.size) [] rfl (by intro D hd; cases hd) (by simp) ?_
  intro w' hs
  exact ⟨_, results_tmp rfl _ _ _, rfl, below_stays ((Below.refl w.heap.size w).alloc (Nat.le_refl _) _) hs (Nat.le_refl _)⟩

set_option maxHeartbeats 8000000 in
theorem tableNone_walk (w : World) (hB : BrAt w) (ak : Int) (fak : (Lit.int .u8 ak).wf = true) (id : Int) (fid : (Lit.int .i64 id).wf = true) (v : Int) (fv : (Lit.int .u64 v).wf = true) (ask : Int) (fask : (Lit.int .i64 ask).wf = true) :
    Calls Tryd.prog 7 #[.agg #[.int .u8 ak, .int .i64 id, .int .u64 v, .int .i64 ask]] w fun e w' => e = .returned (.bool true) ∧ Below w.heap.size w w' := by
  have H64 := Lib.hid (int_of_wf fask).1
  clear fak fid fv fask hB
  obtain ⟨w1, hw1⟩ : ∃ x, ((w.alloc (.cells #[.int .u8 ak, .int .i64 id, .int .u64 v, .int .i64 ask] 28)).alloc (.cells #[.map none, .int .i64 0] 58)).alloc (.cells #[.pointer none, .pointer (some ⟨w.heap.size + 1, 0, none⟩)] 24) = x := ⟨_, rfl⟩
  have hz1 : w1.heap.size = w.heap.size + 3 := by rw [← hw1]; simp
  have hB1 : Below w.heap.size w w1 := by rw [← hw1]; go_grown
  have bP : Blk w1 w.heap.size 28 #[.int .u8 ak, .int .i64 id, .int .u64 v, .int .i64 ask] := by rw [← hw1]; exact ((Blk.new w _ _).alloc _).alloc _
  have bU : Blk w1 (w.heap.size + 1) 58 #[.map none, .int .i64 0] := by rw [← hw1]; exact (Blk.new_at (by simp)).alloc _
  have bL : Blk w1 (w.heap.size + 2) 24 #[.pointer none, .pointer (some ⟨w.heap.size + 1, 0, none⟩)] := by rw [← hw1]; exact Blk.new_at (by simp)
  have H1 := Lib.hid (And.intro hB1 (And.intro bP (And.intro bU bL)))
  have HE := Lib.hid hw1
  clear hw1 hB1 bP bU bL
  go_enter Tryd.func7, Tryd.ntmps7
  go_wp2_with fail
  rw [HE.out]
  clear HE
  go_loopg [5] 2 (fun gk ix wr => ∃ i : Nat, i + gk = 2 ∧ ix = .int .i64 i ∧ Below w1.heap.size w1 wr)
  case atStart => exact ⟨0, by omega, rfl, Below.refl _ _⟩
  case round =>
    obtain ⟨i, hi, rfl, hb⟩ := hrel
    obtain ⟨wo, rfl⟩ : ∃ x : World, x = wr := ⟨_, rfl⟩
    by_cases hlt : i < 2
    · obtain ⟨gm, rfl⟩ : ∃ gm, gk = gm + 1 := ⟨gk - 1, by omega⟩
      have hT : ∃ (p : Value) (Inv : World → Prop), wo.cell? ⟨w.heap.size + 2, i, none⟩ = some p ∧ Inv wo ∧ IsTab p w1.heap.size Inv [] ∧ ∀ (id : Int) (b : Bool) (W : World), Inv W → Calls Tryd.prog 26 #[p, .int .i64 id, .bool b] W fun e w' => e = .returned (.int .i64 1) ∧ W = w' := by
        have bL := H1.out.2.2.2.next hb
        have hi2 : i = 0 ∨ i = 1 := by omega
        rcases hi2 with rfl | rfl
        · exact ⟨_, _, bL.get 0 rfl, trivial, isTab_nil _, fun id b W _ => tab_asked_nil id b W⟩
        · exact ⟨_, _, bL.get 1 rfl, H1.out.2.2.1.next hb, isTab_unmade _ _ (by omega) 0, fun id b W h => tab_asked_unmade _ id b W (h.get 0 rfl)⟩
      obtain ⟨p, Inv, cp, hinv, HI, HA⟩ := hT
      have AK : Hid (∀ (id : Int) (b : Bool) (W : World), Inv W → Calls Tryd.prog 26 #[p, .int .i64 id, .bool b] W fun e w' => e = .returned (.int .i64 1) ∧ ∃ k, w' = W.drewN k) := fun id b W h => (HA id b W h).mono fun e w' ⟨a, c⟩ => ⟨a, 0, c ▸ rfl⟩
      have HTT := Lib.hid (And.intro HI (And.intro hinv hb))
      have bP := H1.out.2.1.next hb
      have cI := bP.get 1 rfl
      have cV := bP.get 2 rfl
      have p0 : (0 : Int) ≤ (i : Int) := by omega
      have p1 : (i : Int) < 2 := by omega
      have e5 : wrap64 ((i : Int) + 1) = ((i + 1 : Nat) : Int) := by unfold wrap64; omega
      clear HI hinv HA hb bP
      go_wp2_with fail
      with_reducible refine (tab_put_refused p id v 1 wo (by decide) (AK.out id false wo HTT.out.2.1)).mono ?_
      rintro e w2 ⟨rfl, hk2⟩
      have H2 := Lib.hid (And.intro (HTT.out.1.below HTT.out.2.1 (below_drewN_k hk2)) (below_next HTT.out.2.2 (below_drewN_k hk2)))
      clear hk2 cI cV cp
      have bP := H1.out.2.1.next H2.out.2
      have cI := bP.get 1 rfl
      have cV := bP.get 2 rfl
      clear bP
      go_wp2_with fail
      with_reducible refine (tab_set_refused p id v 1 w2 (by decide) (AK.out id true w2 H2.out.1)).mono ?_
      rintro e w3 ⟨rfl, hk3⟩
      have H3 := Lib.hid (And.intro (HTT.out.1.below H2.out.1 (below_drewN_k hk3)) (below_next H2.out.2 (below_drewN_k hk3)))
      clear hk3 cI cV
      have bP := H1.out.2.1.next H3.out.2
      have cI := bP.get 1 rfl
      clear bP
      go_wp2_with fail
      with_reducible refine (tab_drop_refused p id 1 w3 (by decide) (AK.out id true w3 H3.out.1)).mono ?_
      rintro e w4 ⟨rfl, hk4⟩
      have H4 := Lib.hid (And.intro (HTT.out.1.below H3.out.1 (below_drewN_k hk4)) (below_next H3.out.2 (below_drewN_k hk4)))
      have bP := H1.out.2.1.next H4.out.2
      have cQ := bP.get 3 rfl
      have hlt4 : w.heap.size < w4.heap.size := by have := H4.out.2.size; omega
      clear hk4 cI bP
      go_wp2_with fail
      obtain ⟨w5, hw5⟩ : ∃ x, w4.alloc (.cells #[.slice none 0 0] 50) = x := ⟨_, rfl⟩
      have hb5 : Below w4.heap.size w4 w5 := by rw [← hw5]; exact (Below.refl _ _).alloc (Nat.le_refl _) _
      have bR : Blk w5 w4.heap.size 50 #[.slice none 0 0] := by rw [← hw5]; exact Blk.new w4 _ _
      have hz5 : w4.heap.size ≤ w5.heap.size := hb5.size
      rw [hw5]
      clear hw5
      have H5 := Lib.hid (And.intro (HTT.out.1.below H4.out.1 hb5) (And.intro (below_next H4.out.2 hb5) bR))
      clear hb5 bR
      with_reducible refine (tab_same p w1.heap.size Inv [] w4.heap.size 0 _ ask w5 HTT.out.1 H5.out.1 H5.out.2.1.size ⟨H5.out.2.2, World.ownsRow_nil _ _ _ _⟩ H64.out).mono ?_
      rintro e w6 ⟨rfl, hb6⟩
      have H6 := Lib.hid (below_next H5.out.2.1 hb6)
      clear hb6 cQ
      go_wp2
      go_roundg gm
      case rel => exact ⟨i + 1, by omega, by go_num, H6.out⟩
      case measure => omega
    · obtain rfl : gk = 0 := by omega
      obtain rfl : i = 2 := by omega
      have HBB := Lib.hid (H1.out.1.trans (hb.mono (by omega)))
      clear hb hlt hi
      go_wp2_with fail
      with_reducible refine (copy_none wo).mono ?_
      rintro e w2 ⟨rfl, hb2⟩
      have HB2 := Lib.hid (below_next HBB.out hb2)
      clear hb2
      go_wp2
      go_ret
      exact ⟨by simp, HB2.out⟩

end Go.Proofs.YtddehgcdflfonaaDoor
