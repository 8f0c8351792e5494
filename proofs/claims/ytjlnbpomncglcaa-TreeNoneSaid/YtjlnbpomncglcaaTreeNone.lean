/-
  The law TreeNone, walked.
-/
import Derived.Test.YtjlnbpomncglcaaProg
import Derived.Test.YtjlnbpomncglcaaRBUN
import Derived.Test.YtjlnbpomncglcaaRBCols
namespace Go.Proofs.Ytjlnbpomncglcaa
set_option linter.unusedVariables false
set_option linter.unusedSimpArgs false
set_option maxRecDepth 100000
open Go.RowKit Go.Shelf

attribute [local go_sem] Oper.semAt_some

theorem nou_first (p : Value) (w : World) (h : NoU w p) : Calls Try.prog 39 #[p] w fun e w' => e = .returned (.tuple #[.agg #[.int .u64 0, .int .i64 0], .bool false]) ∧ Below w.heap.size w w' := ru_first p [] _ (nou_over p w h) w h
set_option maxHeartbeats 16000000 in
theorem treeNone_walk (w : World) (a1 : Int) (fa1 : (Lit.int .u64 a1).wf = true) (a2 : Int) (fa2 : (Lit.int .i64 a2).wf = true) (a3 : Int) (fa3 : (Lit.int .u64 a3).wf = true) (a4 : Bool) :
    Calls Try.prog 9 #[.agg #[.int .u64 a1, .int .i64 a2, .int .u64 a3, .bool a4]] w fun e w' => e = .returned (.bool true) ∧ Below w.heap.size w w' := by
  clear fa1 fa2 fa3
  obtain ⟨w1, hw1⟩ : ∃ x, ((w.alloc (.cells #[.int .u64 a1, .int .i64 a2, .int .u64 a3, .bool a4] 33)).alloc (.cells #[.nilFunc, .nilFunc, .pointer none, .int .i64 0] 69)).alloc (.cells #[.pointer none, .pointer (some ⟨w.heap.size + 1, 0, none⟩)] 24) = x := ⟨_, rfl⟩
  have hz1 : w1.heap.size = w.heap.size + 3 := by rw [← hw1]; simp
  have hB1 : Below w.heap.size w w1 := by rw [← hw1]; go_grown
  have bP : Blk w1 w.heap.size 33 #[.int .u64 a1, .int .i64 a2, .int .u64 a3, .bool a4] := by rw [← hw1]; exact ((Blk.new w _ _).alloc _).alloc _
  have bU : Blk w1 (w.heap.size + 1) 69 #[.nilFunc, .nilFunc, .pointer none, .int .i64 0] := by rw [← hw1]; exact (Blk.new_at (by simp)).alloc _
  have bL : Blk w1 (w.heap.size + 2) 24 #[.pointer none, .pointer (some ⟨w.heap.size + 1, 0, none⟩)] := by rw [← hw1]; exact Blk.new_at (by simp)
  have H1 := Lib.hid (And.intro hB1 (And.intro bP (And.intro bU bL)))
  have HE := Lib.hid hw1
  have HZ1 := Lib.hid hz1
  clear hw1 hB1 bP bU bL hz1
  refine calls_of_wp_marks Try.func9 rfl ?_
  simp only [Try.ntmps9, List.size_toArray, List.length_cons, List.length_nil, Nat.reduceAdd, Nat.reduceSub, Array.replicate_succ, Array.replicate_zero, List.push_toArray, List.append_toArray, List.nil_append, List.cons_append]
  go_wp2_with fail
  rw [HE.out]
  clear HE
  refine wp_loop_ghost_k (fun k' a' w' => ∃ (u0 u2 u5 u6 u7 u8 u9 u10 u11 u12 u13 u14 u15 u16 u17 u18 u19 u20 u21 u22 u23 u24 u25 u26 u27 u28 u29 u30 u31 u32 u33 u34 u35 u36 u37 u38 u39 u40 u41 u42 u43 u44 u45 u46 u47 u48 u49 u50 u51 u52 u53 u54 u55 u56 u57 u58 u59 u60 u61 u62 u63 u64 u65 u66 u67 u68 u69 u70 u71 u72 u73 u74 u75 u76 u77 u78 u79 u80 u81 u82 u83 u84 u85 u86 u87 u88 u89 u90 u91 u92 u93 u94 u95 u96 u97 u98 u99 u100 u101 u102 u103 u104 u105 u106 u107 u108 u109 u110 u111 u112 u113 u114 u115 u116 u117 u118 u119 u120 u121 u122 u123 u124 u125 u126 u127 u128 u129 u130 u131 u132 u133 u134 u135 u136 u137 u138 u139 u140 u141 u142 u143 u144 u145 u146 u147 u148 u149 u150 u151 u152 u153 : Value) (ds : List Deferred), (∃ (i : Nat) (Ds : List Nat), i + k' = 2 ∧ u5 = .int .i64 (i : Int) ∧ ds = Ds.map markOf ∧ Below w1.heap.size w1 w' ∧ (∀ D ∈ Ds, w1.heap.size ≤ D ∧ w'.heap[D]? = some (.deferred (some []))) ∧ Ds.Nodup) ∧ a' = Act.mk (List.toArray (u0 :: .pointer (some ⟨w.heap.size, 0, none⟩) :: u2 :: .pointer none :: .slice (some ⟨w.heap.size + 2, 0, none⟩) 2 2 :: u5 :: u6 :: u7 :: u8 :: u9 :: u10 :: u11 :: u12 :: u13 :: u14 :: u15 :: u16 :: u17 :: u18 :: u19 :: u20 :: u21 :: u22 :: u23 :: u24 :: u25 :: u26 :: u27 :: u28 :: u29 :: u30 :: u31 :: u32 :: u33 :: u34 :: u35 :: u36 :: u37 :: u38 :: u39 :: u40 :: u41 :: u42 :: u43 :: u44 :: u45 :: u46 :: u47 :: u48 :: u49 :: u50 :: u51 :: u52 :: u53 :: u54 :: u55 :: u56 :: u57 :: u58 :: u59 :: u60 :: u61 :: u62 :: u63 :: u64 :: u65 :: u66 :: u67 :: u68 :: u69 :: u70 :: u71 :: u72 :: u73 :: u74 :: u75 :: u76 :: u77 :: u78 :: u79 :: u80 :: u81 :: u82 :: u83 :: u84 :: u85 :: u86 :: u87 :: u88 :: u89 :: u90 :: u91 :: u92 :: u93 :: u94 :: u95 :: u96 :: u97 :: u98 :: u99 :: u100 :: u101 :: u102 :: u103 :: u104 :: u105 :: u106 :: u107 :: u108 :: u109 :: u110 :: u111 :: u112 :: u113 :: u114 :: u115 :: u116 :: u117 :: u118 :: u119 :: u120 :: u121 :: u122 :: u123 :: u124 :: u125 :: u126 :: u127 :: u128 :: u129 :: u130 :: u131 :: u132 :: u133 :: u134 :: u135 :: u136 :: u137 :: u138 :: u139 :: u140 :: u141 :: u142 :: u143 :: u144 :: u145 :: u146 :: u147 :: u148 :: u149 :: u150 :: u151 :: u152 :: u153 :: [])) ds) (2) ?start ?round
  case start =>
    (repeat apply Exists.intro)
    refine ⟨?_, rfl⟩
    exact ⟨0, [], by omega, rfl, rfl, Below.refl _ _, (fun D hD => by cases hD), List.nodup_nil⟩
  case round =>
    intro gk _ wr hinv
    obtain ⟨u0, hinv⟩ := hinv
    obtain ⟨u2, hinv⟩ := hinv
    obtain ⟨u5, hinv⟩ := hinv
    obtain ⟨u6, hinv⟩ := hinv
    obtain ⟨u7, hinv⟩ := hinv
    obtain ⟨u8, hinv⟩ := hinv
    obtain ⟨u9, hinv⟩ := hinv
    obtain ⟨u10, hinv⟩ := hinv
    obtain ⟨u11, hinv⟩ := hinv
    obtain ⟨u12, hinv⟩ := hinv
    obtain ⟨u13, hinv⟩ := hinv
    obtain ⟨u14, hinv⟩ := hinv
    obtain ⟨u15, hinv⟩ := hinv
    obtain ⟨u16, hinv⟩ := hinv
    obtain ⟨u17, hinv⟩ := hinv
    obtain ⟨u18, hinv⟩ := hinv
    obtain ⟨u19, hinv⟩ := hinv
    obtain ⟨u20, hinv⟩ := hinv
    obtain ⟨u21, hinv⟩ := hinv
    obtain ⟨u22, hinv⟩ := hinv
    obtain ⟨u23, hinv⟩ := hinv
    obtain ⟨u24, hinv⟩ := hinv
    obtain ⟨u25, hinv⟩ := hinv
    obtain ⟨u26, hinv⟩ := hinv
    obtain ⟨u27, hinv⟩ := hinv
    obtain ⟨u28, hinv⟩ := hinv
    obtain ⟨u29, hinv⟩ := hinv
    obtain ⟨u30, hinv⟩ := hinv
    obtain ⟨u31, hinv⟩ := hinv
    obtain ⟨u32, hinv⟩ := hinv
    obtain ⟨u33, hinv⟩ := hinv
    obtain ⟨u34, hinv⟩ := hinv
    obtain ⟨u35, hinv⟩ := hinv
    obtain ⟨u36, hinv⟩ := hinv
    obtain ⟨u37, hinv⟩ := hinv
    obtain ⟨u38, hinv⟩ := hinv
    obtain ⟨u39, hinv⟩ := hinv
    obtain ⟨u40, hinv⟩ := hinv
    obtain ⟨u41, hinv⟩ := hinv
    obtain ⟨u42, hinv⟩ := hinv
    obtain ⟨u43, hinv⟩ := hinv
    obtain ⟨u44, hinv⟩ := hinv
    obtain ⟨u45, hinv⟩ := hinv
    obtain ⟨u46, hinv⟩ := hinv
    obtain ⟨u47, hinv⟩ := hinv
    obtain ⟨u48, hinv⟩ := hinv
    obtain ⟨u49, hinv⟩ := hinv
    obtain ⟨u50, hinv⟩ := hinv
    obtain ⟨u51, hinv⟩ := hinv
    obtain ⟨u52, hinv⟩ := hinv
    obtain ⟨u53, hinv⟩ := hinv
    obtain ⟨u54, hinv⟩ := hinv
    obtain ⟨u55, hinv⟩ := hinv
    obtain ⟨u56, hinv⟩ := hinv
    obtain ⟨u57, hinv⟩ := hinv
    obtain ⟨u58, hinv⟩ := hinv
    obtain ⟨u59, hinv⟩ := hinv
    obtain ⟨u60, hinv⟩ := hinv
    obtain ⟨u61, hinv⟩ := hinv
    obtain ⟨u62, hinv⟩ := hinv
    obtain ⟨u63, hinv⟩ := hinv
    obtain ⟨u64, hinv⟩ := hinv
    obtain ⟨u65, hinv⟩ := hinv
    obtain ⟨u66, hinv⟩ := hinv
    obtain ⟨u67, hinv⟩ := hinv
    obtain ⟨u68, hinv⟩ := hinv
    obtain ⟨u69, hinv⟩ := hinv
    obtain ⟨u70, hinv⟩ := hinv
    obtain ⟨u71, hinv⟩ := hinv
    obtain ⟨u72, hinv⟩ := hinv
    obtain ⟨u73, hinv⟩ := hinv
    obtain ⟨u74, hinv⟩ := hinv
    obtain ⟨u75, hinv⟩ := hinv
    obtain ⟨u76, hinv⟩ := hinv
    obtain ⟨u77, hinv⟩ := hinv
    obtain ⟨u78, hinv⟩ := hinv
    obtain ⟨u79, hinv⟩ := hinv
    obtain ⟨u80, hinv⟩ := hinv
    obtain ⟨u81, hinv⟩ := hinv
    obtain ⟨u82, hinv⟩ := hinv
    obtain ⟨u83, hinv⟩ := hinv
    obtain ⟨u84, hinv⟩ := hinv
    obtain ⟨u85, hinv⟩ := hinv
    obtain ⟨u86, hinv⟩ := hinv
    obtain ⟨u87, hinv⟩ := hinv
    obtain ⟨u88, hinv⟩ := hinv
    obtain ⟨u89, hinv⟩ := hinv
    obtain ⟨u90, hinv⟩ := hinv
    obtain ⟨u91, hinv⟩ := hinv
    obtain ⟨u92, hinv⟩ := hinv
    obtain ⟨u93, hinv⟩ := hinv
    obtain ⟨u94, hinv⟩ := hinv
    obtain ⟨u95, hinv⟩ := hinv
    obtain ⟨u96, hinv⟩ := hinv
    obtain ⟨u97, hinv⟩ := hinv
    obtain ⟨u98, hinv⟩ := hinv
    obtain ⟨u99, hinv⟩ := hinv
    obtain ⟨u100, hinv⟩ := hinv
    obtain ⟨u101, hinv⟩ := hinv
    obtain ⟨u102, hinv⟩ := hinv
    obtain ⟨u103, hinv⟩ := hinv
    obtain ⟨u104, hinv⟩ := hinv
    obtain ⟨u105, hinv⟩ := hinv
    obtain ⟨u106, hinv⟩ := hinv
    obtain ⟨u107, hinv⟩ := hinv
    obtain ⟨u108, hinv⟩ := hinv
    obtain ⟨u109, hinv⟩ := hinv
    obtain ⟨u110, hinv⟩ := hinv
    obtain ⟨u111, hinv⟩ := hinv
    obtain ⟨u112, hinv⟩ := hinv
    obtain ⟨u113, hinv⟩ := hinv
    obtain ⟨u114, hinv⟩ := hinv
    obtain ⟨u115, hinv⟩ := hinv
    obtain ⟨u116, hinv⟩ := hinv
    obtain ⟨u117, hinv⟩ := hinv
    obtain ⟨u118, hinv⟩ := hinv
    obtain ⟨u119, hinv⟩ := hinv
    obtain ⟨u120, hinv⟩ := hinv
    obtain ⟨u121, hinv⟩ := hinv
    obtain ⟨u122, hinv⟩ := hinv
    obtain ⟨u123, hinv⟩ := hinv
    obtain ⟨u124, hinv⟩ := hinv
    obtain ⟨u125, hinv⟩ := hinv
    obtain ⟨u126, hinv⟩ := hinv
    obtain ⟨u127, hinv⟩ := hinv
    obtain ⟨u128, hinv⟩ := hinv
    obtain ⟨u129, hinv⟩ := hinv
    obtain ⟨u130, hinv⟩ := hinv
    obtain ⟨u131, hinv⟩ := hinv
    obtain ⟨u132, hinv⟩ := hinv
    obtain ⟨u133, hinv⟩ := hinv
    obtain ⟨u134, hinv⟩ := hinv
    obtain ⟨u135, hinv⟩ := hinv
    obtain ⟨u136, hinv⟩ := hinv
    obtain ⟨u137, hinv⟩ := hinv
    obtain ⟨u138, hinv⟩ := hinv
    obtain ⟨u139, hinv⟩ := hinv
    obtain ⟨u140, hinv⟩ := hinv
    obtain ⟨u141, hinv⟩ := hinv
    obtain ⟨u142, hinv⟩ := hinv
    obtain ⟨u143, hinv⟩ := hinv
    obtain ⟨u144, hinv⟩ := hinv
    obtain ⟨u145, hinv⟩ := hinv
    obtain ⟨u146, hinv⟩ := hinv
    obtain ⟨u147, hinv⟩ := hinv
    obtain ⟨u148, hinv⟩ := hinv
    obtain ⟨u149, hinv⟩ := hinv
    obtain ⟨u150, hinv⟩ := hinv
    obtain ⟨u151, hinv⟩ := hinv
    obtain ⟨u152, hinv⟩ := hinv
    obtain ⟨u153, hinv⟩ := hinv
    obtain ⟨ds, hrel, ha⟩ := hinv
    subst ha
    try dsimp only
    intro _ _ _ _
    obtain ⟨i, Ds, hi, rfl, hds, hb, hdd, hnd⟩ := hrel
    have HDS := Lib.hid hds
    have HB := Lib.hid hb
    have HDD := Lib.hid (And.intro hdd hnd)
    clear hds hdd hnd hb
    obtain ⟨wo, rfl⟩ : ∃ x : World, x = wr := ⟨_, rfl⟩
    by_cases hlt : i < 2
    · obtain ⟨gm, rfl⟩ : ∃ gm, gk = gm + 1 := ⟨gk - 1, by omega⟩
      have hT : ∃ (p : Value), wo.cell? ⟨w.heap.size + 2, i, none⟩ = some p ∧ NoU wo p := by
        have bL := H1.out.2.2.2.next HB.out
        have hi2 : i = 0 ∨ i = 1 := by omega
        rcases hi2 with rfl | rfl
        · exact ⟨_, bL.get 0 rfl, Or.inl rfl⟩
        · exact ⟨_, bL.get 1 rfl, Or.inr ⟨_, rfl, H1.out.2.2.1.next HB.out⟩⟩
      obtain ⟨p, cp, hno⟩ := hT
      have HP1 := Lib.hid hno.one
      have p1' := hno.one
      have HR := Lib.hid (And.intro hno (And.intro (H1.out.2.1.next HB.out) (Below.refl wo.heap.size wo)))
      have p0 : (0 : Int) ≤ (i : Int) := by omega
      have p1 : (i : Int) < 2 := by omega
      have e5 : wrap64 ((i : Int) + 1) = ((i + 1 : Nat) : Int) := by unfold wrap64; omega
      clear hno
      have xact0 := HR.out.2.1.get 0 rfl
      have xact1 := HR.out.2.1.get 1 rfl
      go_wp2_with fail
      with_reducible refine (nou_get p (a1, a2) wo HR.out.1).mono ?_
      rintro e w1 ⟨rfl, hb⟩
      clear xact0 xact1
      have H1 := Lib.hid (And.intro (HR.out.1.next hb) (And.intro (HR.out.2.1.next hb) (below_next HR.out.2.2 hb)))
      clear hb
      go_wp2_with fail
      with_reducible refine (nou_first p w1 H1.out.1).mono ?_
      rintro e w2 ⟨rfl, hb⟩
      have H2 := Lib.hid (And.intro (H1.out.1.next hb) (And.intro (H1.out.2.1.next hb) (below_next H1.out.2.2 hb)))
      clear hb
      go_upto_region 9 with (fail)
      have hba : Below w2.heap.size w2 (w2.alloc (.cells #[.int .u64 0, .int .i64 0] 31)) := by go_grown
      have ba := Blk.new w2 31 #[.int .u64 0, .int .i64 0]
      have Bkl : Hid (wo.heap.size ≤ w2.heap.size) := H2.out.2.2.size
      obtain ⟨Bk, hBk⟩ : ∃ x, w2.heap.size = x := ⟨_, rfl⟩
      rw [hBk] at ba Bkl ⊢
      have HSZk := Lib.hid hBk
      clear hBk
      obtain ⟨w3, hw⟩ : ∃ x, w2.alloc (.cells #[.int .u64 0, .int .i64 0] 31) = x := ⟨_, rfl⟩
      rw [hw] at hba ba ⊢
      clear hw
      have H3 := Lib.hid (And.intro (H2.out.1.next hba) (And.intro (H2.out.2.1.next hba) (And.intro ba (below_next H2.out.2.2 hba))))
      clear hba ba
      go_wp2_with fail
      with_reducible refine (nou_all p w3 H3.out.1).mono ?_
      rintro e w4 ⟨rfl, hb⟩
      have H4 := Lib.hid (And.intro (H3.out.1.next hb) (And.intro (H3.out.2.1.next hb) (And.intro (H3.out.2.2.1.next hb) (below_next H3.out.2.2.2 hb))))
      clear hb
      have xact2 := H4.out.2.1.get 2 rfl
      go_wp2_with fail
      with_reducible refine (nou_upto p a3 w4 H4.out.1).mono ?_
      rintro e w5 ⟨rfl, hb⟩
      clear xact2
      have H5 := Lib.hid (And.intro (H4.out.1.next hb) (And.intro (H4.out.2.1.next hb) (And.intro (H4.out.2.2.1.next hb) (below_next H4.out.2.2.2 hb))))
      clear hb
      have xact2 := H5.out.2.1.get 2 rfl
      go_wp2_with fail
      with_reducible refine (nou_find p _ w5 H5.out.1).mono ?_
      rintro e w6 ⟨rfl, hb⟩
      clear xact2
      have H6 := Lib.hid (And.intro (H5.out.1.next hb) (And.intro (H5.out.2.1.next hb) (And.intro (H5.out.2.2.1.next hb) (below_next H5.out.2.2.2 hb))))
      clear hb
      go_upto_region 12 with (fail)
      have hba : Below w6.heap.size w6 (w6.alloc (.cells #[.int .u64 0, .int .i64 0] 31)) := by go_grown
      have ba := Blk.new w6 31 #[.int .u64 0, .int .i64 0]
      have Bxl : Hid (wo.heap.size ≤ w6.heap.size) := H6.out.2.2.2.size
      obtain ⟨Bx, hBx⟩ : ∃ x, w6.heap.size = x := ⟨_, rfl⟩
      rw [hBx] at ba Bxl ⊢
      have HSZx := Lib.hid hBx
      clear hBx
      obtain ⟨w7, hw⟩ : ∃ x, w6.alloc (.cells #[.int .u64 0, .int .i64 0] 31) = x := ⟨_, rfl⟩
      rw [hw] at hba ba ⊢
      clear hw
      have H7 := Lib.hid (And.intro (H6.out.1.next hba) (And.intro (H6.out.2.1.next hba) (And.intro (H6.out.2.2.1.next hba) (And.intro ba (below_next H6.out.2.2.2 hba)))))
      clear hba ba
      go_wp2_with fail
      with_reducible refine (ru_Each p HP1.out _).mono ?_
      rintro e wx ⟨rfl, rfl⟩
      have hba : Below w7.heap.size w7 (w7.alloc (.cells #[p] 24)) := by go_grown
      have ba := Blk.new w7 24 #[p]
      have Bel : Hid (wo.heap.size ≤ w7.heap.size) := H7.out.2.2.2.2.size
      obtain ⟨Be, hBe⟩ : ∃ x, w7.heap.size = x := ⟨_, rfl⟩
      rw [hBe] at ba Bel ⊢
      have HSZe := Lib.hid hBe
      clear hBe
      obtain ⟨w8, hw⟩ : ∃ x, w7.alloc (.cells #[p] 24) = x := ⟨_, rfl⟩
      rw [hw] at hba ba ⊢
      clear hw
      have H8 := Lib.hid (And.intro (H7.out.1.next hba) (And.intro (H7.out.2.1.next hba) (And.intro (H7.out.2.2.1.next hba) (And.intro (H7.out.2.2.2.1.next hba) (And.intro ba (below_next H7.out.2.2.2.2 hba))))))
      clear hba ba
      have qn := fun w => eql_fnG (P := Try.prog) (w := w) 60 (.func 70) #[] #[.pointer (some ⟨Be, 0, none⟩)] Try.underlying60
      go_upto_region 16 with (fail)
      have hba : Below w8.heap.size w8 (w8.alloc (.cells #[.int .i64 0] 3)) := by go_grown
      have ba := Blk.new w8 3 #[.int .i64 0]
      have Bnl : Hid (wo.heap.size ≤ w8.heap.size) := H8.out.2.2.2.2.2.size
      obtain ⟨Bn, hBn⟩ : ∃ x, w8.heap.size = x := ⟨_, rfl⟩
      rw [hBn] at ba Bnl ⊢
      have HSZn := Lib.hid hBn
      clear hBn
      obtain ⟨w9, hw⟩ : ∃ x, w8.alloc (.cells #[.int .i64 0] 3) = x := ⟨_, rfl⟩
      rw [hw] at hba ba ⊢
      clear hw
      have H9 := Lib.hid (And.intro (H8.out.1.next hba) (And.intro (H8.out.2.1.next hba) (And.intro (H8.out.2.2.1.next hba) (And.intro (H8.out.2.2.2.1.next hba) (And.intro (H8.out.2.2.2.2.1.next hba) (And.intro ba (below_next H8.out.2.2.2.2.2 hba)))))))
      clear hba ba
      go_wp2_with fail
      obtain ⟨W0, hW0⟩ : ∃ x : World, x = w9 := ⟨_, rfl⟩
      subst hW0
      have HLW : Hid (wo.heap.size ≤ W0.heap.size) := H9.out.2.2.2.2.2.2.size
      have h0 := H9.out
      refine wp_range (gf := 70) (lb := #[.pointer (some ⟨Be, 0, none⟩)]) rfl (enters_of Try.func70 (by kernel_rfl) rfl) ((nou_over p wo HR.out.1).yields Be) (fun _ _ => rfl)
        (fun k W => NoU W p ∧ Blk W w.heap.size 33 #[.int .u64 a1, .int .i64 a2, .int .u64 a3, .bool a4] ∧ Blk W Bk 31 #[.int .u64 0, .int .i64 0] ∧ Blk W Bx 31 #[.int .u64 0, .int .i64 0] ∧ Blk W Be 24 #[p] ∧ Blk W Bn 3 #[.int .i64 0] ∧ Below wo.heap.size wo W)
        (fun _ _ _ => False) ?hI (fun _ _ _ _ h _ => h) (fun k A h => ⟨h.1, h.2.2.2.2.1⟩) ?h0 ?hround ?hdone (fun _ _ _ _ h _ => h.elim)
      case hI =>
        rintro k A C ⟨h1, h2, h3, h4, h5, h6, h7⟩ hs
        exact ⟨h1.stays hs, h2.stays hs, h3.stays hs, h4.stays hs, h5.stays hs, h6.stays hs, below_stays h7 hs HLW.out⟩
      case h0 => exact h0
      case hround =>
        intro k W hk
        exact absurd hk (Nat.not_lt_zero _)
      case hdone =>
        rintro W hI hD
        have HRD := Lib.hid (And.intro hI hD)
        clear hI hD h0
        have HBD := Lib.hid HRD.out.1.2.2.2.2.2.2
        have HQ := Lib.hid HRD.out.1
        have xact0 := HQ.out.2.1.get 0 rfl
        have xact1 := HQ.out.2.1.get 1 rfl
        have xact2 := HQ.out.2.1.get 2 rfl
        go_wp2_with fail
        with_reducible refine (nou_put p (a1, a2) a3 W HQ.out.1).mono ?_
        rintro e w101 ⟨rfl, hb⟩
        have HWB := Lib.hid hb
        clear xact0 xact1 xact2
        have H10 := Lib.hid (And.intro (HQ.out.1.next hb) (And.intro (HQ.out.2.1.next hb) (And.intro (HQ.out.2.2.1.next hb) (And.intro (HQ.out.2.2.2.1.next hb) (And.intro (HQ.out.2.2.2.2.1.next hb) (And.intro (HQ.out.2.2.2.2.2.1.next hb) (below_next HQ.out.2.2.2.2.2.2 hb)))))))
        clear hb
        have xact0 := H10.out.2.1.get 0 rfl
        have xact1 := H10.out.2.1.get 1 rfl
        go_wp2_with fail
        with_reducible refine (nou_drop p (a1, a2) w101 H10.out.1).mono ?_
        rintro e w102 ⟨rfl, hb⟩
        replace HWB := Lib.hid (below_next HWB.out hb)
        clear xact0 xact1
        have H11 := Lib.hid (And.intro (H10.out.1.next hb) (And.intro (H10.out.2.1.next hb) (And.intro (H10.out.2.2.1.next hb) (And.intro (H10.out.2.2.2.1.next hb) (And.intro (H10.out.2.2.2.2.1.next hb) (And.intro (H10.out.2.2.2.2.2.1.next hb) (below_next H10.out.2.2.2.2.2.2 hb)))))))
        clear hb
        have xk0 := H11.out.2.2.1.get 0 rfl
        have xk1 := H11.out.2.2.1.get 1 rfl
        have xx0 := H11.out.2.2.2.1.get 0 rfl
        have xx1 := H11.out.2.2.2.1.get 1 rfl
        have xn0 := H11.out.2.2.2.2.2.1.get 0 rfl
        go_wp2_with fail
        with_reducible refine (nou_len p w102 H11.out.1).mono ?_
        rintro e w103 ⟨rfl, hb⟩
        replace HWB := Lib.hid (below_next HWB.out hb)
        clear xk0 xk1 xx0 xx1 xn0
        have H12 := Lib.hid (And.intro (H11.out.1.next hb) (And.intro (H11.out.2.1.next hb) (And.intro (H11.out.2.2.1.next hb) (And.intro (H11.out.2.2.2.1.next hb) (And.intro (H11.out.2.2.2.2.1.next hb) (And.intro (H11.out.2.2.2.2.2.1.next hb) (below_next H11.out.2.2.2.2.2.2 hb)))))))
        clear hb
        go_wp2_with fail
        with_reducible refine (nou_height p w103 H12.out.1).mono ?_
        rintro e w104 ⟨rfl, hb⟩
        replace HWB := Lib.hid (below_next HWB.out hb)
        have H13 := Lib.hid (And.intro (H12.out.1.next hb) (And.intro (H12.out.2.1.next hb) (And.intro (H12.out.2.2.1.next hb) (And.intro (H12.out.2.2.2.1.next hb) (And.intro (H12.out.2.2.2.2.1.next hb) (And.intro (H12.out.2.2.2.2.2.1.next hb) (below_next H12.out.2.2.2.2.2.2 hb)))))))
        clear hb
        go_wp2_with fail
        with_reducible refine (nou_well p _ w104 H13.out.1).mono ?_
        rintro e w105 ⟨rfl, hb⟩
        replace HWB := Lib.hid (below_next HWB.out hb)
        have H14 := Lib.hid (And.intro (H13.out.1.next hb) (And.intro (H13.out.2.1.next hb) (And.intro (H13.out.2.2.1.next hb) (And.intro (H13.out.2.2.2.1.next hb) (And.intro (H13.out.2.2.2.2.1.next hb) (And.intro (H13.out.2.2.2.2.2.1.next hb) (below_next H13.out.2.2.2.2.2.2 hb)))))))
        clear hb
        go_wp2
        go_roundg gm
        case rel =>
          have HBF := Lib.hid H14.out.2.2.2.2.2.2
          have hWB : Below W.heap.size W w105 := HWB.out
          refine ⟨i + 1, W0.heap.size :: Ds, by omega, by go_num, by rw [HDS.out]; rfl, below_next HB.out HBF.out, ?_, ?_⟩
          · intro D hD
            rcases List.mem_cons.1 hD with rfl | hD
            · exact ⟨Nat.le_trans HB.out.size HLW.out, (hWB.block _ (Array.getElem?_eq_some_iff.1 HRD.out.2).1).trans HRD.out.2⟩
            · have := HDD.out.1 D hD
              exact ⟨this.1, (HBF.out.block D (Array.getElem?_eq_some_iff.1 this.2).1).trans this.2⟩
          · refine List.nodup_cons.2 ⟨fun hD => ?_, HDD.out.2⟩
            have h1 := (Array.getElem?_eq_some_iff.1 (HDD.out.1 _ hD).2).1
            have h2 := HLW.out
            omega
        case measure => omega
    · obtain rfl : gk = 0 := by omega
      obtain rfl : i = 2 := by omega
      have HBB := Lib.hid (H1.out.1.trans (HB.out.mono (by have := HZ1.out; omega)))
      clear hlt hi
      go_wp2_with fail
      with_reducible refine (nou_copy wo).mono ?_
      rintro e w2 ⟨rfl, hb2⟩
      have HB2 := Lib.hid (And.intro (below_next HBB.out hb2) hb2)
      clear hb2
      go_wp2_with fail
      with_reducible refine (nou_new1 w2 _).mono ?_
      rintro e w3 ⟨rfl, hb3⟩
      have HB3 := Lib.hid (And.intro (below_next HB2.out.1 hb3) (below_next HB2.out.2 hb3))
      clear hb3
      go_wp2_with fail
      with_reducible refine (nou_new2 w3).mono ?_
      rintro e w4 ⟨rfl, hb4⟩
      have HB4 := Lib.hid (And.intro (below_next HB3.out.1 hb4) (below_next HB3.out.2 hb4))
      clear hb4
      go_wp2
      refine marks_ret (B := w.heap.size) Ds HDS.out (fun D hD => ⟨by have := (HDD.out.1 D hD).1; have := HZ1.out; omega, (HB4.out.2.block D (Array.getElem?_eq_some_iff.1 (HDD.out.1 D hD).2).1).trans (HDD.out.1 D hD).2⟩) HDD.out.2 ?_
      intro w' hs
      refine ⟨.bool true, by simp [results, Try.results9, go_sem]; try rfl, rfl, below_stays HB4.out.1 hs (Nat.le_refl _)⟩

end Go.Proofs.Ytjlnbpomncglcaa

