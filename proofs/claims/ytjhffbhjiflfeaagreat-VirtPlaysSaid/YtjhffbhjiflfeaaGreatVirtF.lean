/-
  A family: those awake are handed out, in whatever order.
-/
import Derived.Test.YtjhffbhjiflfeaaGreatVirtE
import Derived.Test.YtjhffbhjiflfeaaGreatRangeP
import Derived.Sort.LoopGhostIn
namespace Go.Proofs.YtjhffbhjiflfeaaGreat
set_option linter.unusedVariables false
set_option linter.unusedSimpArgs false
set_option maxRecDepth 100000
open Go.RowKit Go.Shelf

theorem famM_cut {L : List Mem} {A B : IMap} {k : Int} {v : Value} (h : famM L = A ++ (k, v) :: B) : ∃ L1 x L2, L = L1 ++ x :: L2 ∧ A = famM L1 ∧ B = famM L2 ∧ k = x.id ∧ v = mptr x := by
  obtain ⟨L1, L', rfl, k1, k2⟩ := List.map_eq_append_iff.1 h
  obtain ⟨x, L2, rfl, k3, k4⟩ := List.map_eq_cons_iff.1 k2
  exact ⟨L1, x, L2, rfl, k1.symm, k4.symm, (congrArg Prod.fst k3).symm, (congrArg Prod.snd k3).symm⟩
theorem famM_app (A B : List Mem) : famM (A ++ B) = famM A ++ famM B := List.map_append ..
def ups (Ms : List Mem) : List Mem := Ms.filter (·.up)
theorem ups_cut_true {A B : List Mem} {x : Mem} (h : x.up = true) : ups (A ++ x :: B) = ups A ++ x :: ups B := by
  unfold ups
  rw [List.filter_append, List.filter_cons_of_pos h]
theorem ups_cut_false {A B : List Mem} {x : Mem} (h : x.up = false) : ups (A ++ x :: B) = ups (A ++ B) := by
  unfold ups
  rw [List.filter_append, List.filter_append, List.filter_cons_of_neg (by rw [h]; decide)]
theorem ups_app (A B : List Mem) : ups (A ++ B) = ups A ++ ups B := List.filter_append ..
theorem iter_stays {A C : World} {r B : Nat} {o : Obj} (hf : Fr (fun j => j = r) A C) (hB : B ≤ r) (ho : A.heap[r]? = some o) (hb : isBook o = true) : Stays B A C := by
  refine ⟨hf.os, hf.tape, hf.output, hf.size, fun k hk => ?_, fun k u e hu => ?_⟩
  · by_cases hl : k < A.heap.size
    · exact hf.block k hl (by omega)
    · have := (Array.getElem?_eq_some_iff.1 ho).1; omega
  · by_cases hk : k = r
    · subst hk; rw [ho] at e; cases e; rw [hb] at hu; cases hu
    · exact (hf.block k (Array.getElem?_eq_some_iff.1 e).1 hk).trans e
theorem MpR.iter {w : World} {r b : Nat} {M L : IMap} (h : MpR w r b M L) : ∃ o, w.heap[r]? = some o ∧ isBook o = true := by
  obtain ⟨es, cl, since, seen, c0, h1, h2, h3, h4, h5⟩ := h
  exact ⟨_, h4, rfl⟩
def encU (x : Mem) : Array Value := #[.int .i64 x.id, mptr x]
def comeEq (D L Ms : List Mem) : Prop := (D ++ ups L).Perm (ups Ms)
theorem comes_of {D A B Ms : List Mem} {x : Mem} (h : comeEq D (A ++ x :: B) Ms) (hu : x.up = true) : Comes (ups Ms) D x ∧ comeEq (D ++ [x]) (A ++ B) Ms := by
  unfold comeEq at h ⊢
  rw [ups_cut_true hu] at h
  have e1 : (D ++ x :: ups (A ++ B)).Perm (ups Ms) := by
    refine List.Perm.trans ?_ h
    rw [ups_app]
    exact List.Perm.append_left D List.perm_middle.symm
  refine ⟨⟨ups (A ++ B), e1⟩, ?_⟩
  rw [List.append_assoc]
  exact e1
theorem come_skip {D A B Ms : List Mem} {x : Mem} (h : comeEq D (A ++ x :: B) Ms) (hu : x.up = false) : comeEq D (A ++ B) Ms := by
  unfold comeEq at h ⊢
  rwa [ups_cut_false hu] at h

set_option maxHeartbeats 4000000 in
theorem up_yields (f mb : Nat) (mark : Int) (Ms : List Mem) (B0 : Nat) : YieldsP Tryz.prog 64 #[.pointer (some ⟨B0, 0, none⟩)] (ups Ms) encU
    (fun W => FamAt W f mb mark Ms ∧ Blk W B0 24 #[.pointer (some ⟨f, 0, none⟩)]) := by
  intro l J Jx W hJ hJx hS hY h0
  have HJ := Lib.hid hJ
  have HS := Lib.hid hS
  have HY := Lib.hid hY
  clear hJ hJx hS hY
  have H0 := Lib.hid h0
  clear h0
  refine callsIn_of_wp Tryz.func64 rfl trivial ?_ rfl
  simp only [Tryz.ntmps64, List.size_toArray, List.length_cons, List.length_nil, Nat.reduceAdd, Nat.reduceSub, Array.replicate_succ, Array.replicate_zero, List.push_toArray, List.append_toArray, List.nil_append, List.cons_append]
  have cB := (HS.out [] W H0.out).2.get 0 rfl
  have c0 := (HS.out [] W H0.out).1.blk.get 0 rfl
  have hd : 1 ≤ 6 := by omega
  obtain ⟨W1, RG, hR, hB, hsz⟩ := (HS.out [] W H0.out).1.map.range (P := Tryz.prog) fam_desc
  have H1 := Lib.hid (And.intro (HJ.out [] _ _ H0.out (Stays.of_below hB (Nat.le_refl _))) (And.intro hR (Nat.le_of_eq hsz.symm : W.heap.size + 1 ≤ W1.heap.size)))
  clear hR hB hsz
  gi_wp2
  clear cB c0 RG
  gi_loopg [] Ms.length (fun gk wr => ∃ D L, MpR wr W.heap.size mb (famM Ms) (famM L) ∧ J D wr ∧ comeEq D L Ms ∧ L.length ≤ gk ∧ W.heap.size + 1 ≤ wr.heap.size ∧ ∀ y ∈ L, y ∈ Ms)
  case atStart => exact ⟨[], Ms, H1.out.2.1, H1.out.1, List.Perm.refl _, Nat.le_refl _, H1.out.2.2, fun y hy => hy⟩
  case round =>
    obtain ⟨D, L, hR, hj, hc, hl, hz, hin⟩ := hrel
    clear H0 H1
    rcases hR.step (P := Tryz.prog) 0 with ⟨e0, NX⟩ | ⟨A, k, v, B, w2, eL, NX, hR2, hE, hF⟩
    · have eL0 : L = [] := List.map_eq_nil_iff.1 e0
      subst eL0
      have HX := Lib.hid (And.intro hj hc)
      clear hR hj hc hl hz e0 hin
      gi_wp2
      go_end0
      obtain ⟨hj, hc⟩ := HX.out
      refine ⟨⟨_, rfl⟩, Or.inl ⟨D, ?_, hj⟩⟩
      have := hc
      unfold comeEq at this
      rwa [show ups [] = [] from rfl, List.append_nil] at this
    · obtain ⟨L1, x, L2, rfl, rfl, rfl, rfl, rfl⟩ := famM_cut eL
      obtain ⟨ob, hob, hbk⟩ := hR.iter
      have hj2 := HJ.out D _ _ hj (iter_stays (B := W.heap.size) hF (Nat.le_refl _) hob hbk)
      have hz2 := Nat.le_trans hz hF.size
      have EN := hE.entry (P := Tryz.prog)
      have hfam := (HS.out _ _ hj2).1
      have hxin : x ∈ Ms := hin x (List.mem_append_right _ (List.mem_cons_self ..))
      have hin2 : ∀ y ∈ L1 ++ L2, y ∈ Ms := fun y hy => hin y ((List.mem_append.1 hy).elim (List.mem_append_left _) (fun h => List.mem_append_right _ (List.mem_cons_of_mem _ h)))
      have hl2 : (L1 ++ L2).length < gk := by simp only [List.length_append, List.length_cons] at hl ⊢; omega
      unfold mptr at NX EN
      have hxm := hfam.mem x hxin
      have c3 := hxm.1.get 3 rfl
      rw [← famM_app] at hR2
      have HX := Lib.hid (And.intro hj2 (And.intro hR2 (And.intro hc (And.intro hl2 (And.intro hz2 hin2)))))
      clear hR hj hc hl hz hin hin2 hl2 hob hbk hj2 hz2 hfam hxm hxin hR2 hE hF eL
      rcases Bool.eq_false_or_eq_true x.up with hu | hu
      · have HU := Lib.hid hu
        rw [hu] at c3
        clear hu
        obtain ⟨fn, tmps, assign, body, hy, hRR⟩ := HY.out D x w2 (comes_of HX.out.2.2.1 HU.out).1 HX.out.1
        have HRR := Lib.hid hRR
        clear hRR
        unfold encU mptr at hy
        gi_wp2
        refine HRR.out.mono ?_
        clear hy HRR
        rintro e W3 ⟨hkm, (⟨rfl, hj3⟩ | ⟨rfl, hx3⟩)⟩
        · have hR3 := HX.out.2.1.keeps hkm
          have HZ := Lib.hid (And.intro hR3 (And.intro hj3 hR3.lt.1))
          clear hkm hj3 hR3
          gi_wp2
          gi_roundg (L1 ++ L2).length
          case rel => exact ⟨D ++ [x], L1 ++ L2, HZ.out.1, HZ.out.2.1, (comes_of HX.out.2.2.1 HU.out).2, Nat.le_refl _, HZ.out.2.2, HX.out.2.2.2.2.2⟩
          case measure => exact HX.out.2.2.2.1
        · have HZ := Lib.hid hx3
          clear hkm hx3
          gi_wp2
          refine bodyPost_ret (results_none rfl _ _ _) rfl ?_
          exact ⟨⟨_, rfl⟩, .inr ⟨_, HZ.out⟩⟩
      · have HU := Lib.hid hu
        rw [hu] at c3
        clear hu
        gi_wp2_with (refine ⟨(fun _ h => by cases h), ?_⟩; go_at_K)
        gi_roundg (L1 ++ L2).length
        case rel => exact ⟨D, L1 ++ L2, HX.out.2.1, HX.out.1, come_skip HX.out.2.2.1 HU.out, Nat.le_refl _, HX.out.2.2.2.2.1, HX.out.2.2.2.2.2⟩
        case measure => exact HX.out.2.2.2.1

end Go.Proofs.YtjhffbhjiflfeaaGreat
