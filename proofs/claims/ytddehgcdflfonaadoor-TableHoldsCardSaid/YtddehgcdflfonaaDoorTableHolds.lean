/-
  The law TableHolds, walked.
-/
import Derived.Test.YtddehgcdflfonaaDoorProg
import Derived.Test.YtddehgcdflfonaaDoorTabHold
namespace Go.Proofs.YtddehgcdflfonaaDoor
set_option linter.unusedVariables false
set_option linter.unusedSimpArgs false
set_option maxRecDepth 100000
open Go.RowKit Go.Shelf

attribute [local go_sem] Oper.semAt_some

set_option maxHeartbeats 32000000 in
theorem tableHolds_walk (w : World) (hB : BrAt w) (A : Option Addr) (n c : Nat) (K : Nat → Int) (fK : ∀ i, i < n → (Lit.int .u8 (K i)).wf = true) (I : Nat → Int) (fI : ∀ i, i < n → (Lit.int .i64 (I i)).wf = true) (V : Nat → Int) (fV : ∀ i, i < n → (Lit.int .u64 (V i)).wf = true) (Q : Nat → Int) (fQ : ∀ i, i < n → (Lit.int .i64 (Q i)).wf = true) (hl : n ≤ c) (hm : c ≤ maxLen)
    (hA : 0 < n → ∃ b off, A = some ⟨b, off, none⟩ ∧ b < w.heap.size) (hK : ∀ b off, A = some ⟨b, off, none⟩ → ∀ i, i < n → w.cell? ⟨b, off + (i * 4 + 0), none⟩ = some (.int .u8 (K i))) (hI : ∀ b off, A = some ⟨b, off, none⟩ → ∀ i, i < n → w.cell? ⟨b, off + (i * 4 + 1), none⟩ = some (.int .i64 (I i)))
    (hV : ∀ b off, A = some ⟨b, off, none⟩ → ∀ i, i < n → w.cell? ⟨b, off + (i * 4 + 2), none⟩ = some (.int .u64 (V i))) (hQ : ∀ b off, A = some ⟨b, off, none⟩ → ∀ i, i < n → w.cell? ⟨b, off + (i * 4 + 3), none⟩ = some (.int .i64 (Q i)))
    (pt : Int) (fpt : (Lit.int .i64 pt).wf = true) :
    Calls Tryd.prog 6 #[.slice A n c, .int .i64 pt] w fun e w' => e = .returned (.bool true) ∧ Below w.heap.size w w' := by
  have HA := Lib.hid (tacts_of hA hK hI hV hQ)
  have HM : Hid (TMay (colF K n) (colF I n) (colF V n) (colF Q n)) := ⟨colF_byte fK, colF_int fI, colF_word (fun i hi => word_of_wf (fV i hi)), colF_int fQ⟩
  have HB := Lib.hid hB
  have HLC := Lib.hid (And.intro hl hm)
  clear hA hK hI hV hQ fK fI fV fQ hB hl hm fpt
  generalize colF K n = K at HA HM
  generalize colF I n = I at HA HM
  generalize colF V n = V at HA HM
  generalize colF Q n = Q at HA HM
  have KA : Hid (∀ (W W' : World), Below W.heap.size W W' → w.heap.size ≤ W.heap.size → TActs W A n K I V Q → TActs W' A n K I V Q) := fun W W' hb hz h => h.next hb (fun b off hn e => by obtain ⟨b', off', e', h⟩ := HA.out.addr hn; rw [e] at e'; cases e'; omega)
  refine calls_of_wp_marks Tryd.func6 rfl ?_
  simp only [Tryd.ntmps6, List.size_toArray, List.length_cons, List.length_nil, Nat.reduceAdd, Nat.reduceSub, Array.replicate_succ, Array.replicate_zero, List.push_toArray, List.append_toArray, List.nil_append, List.cons_append]
  have hsmall : 120 < n ∨ n ≤ 120 := by omega
  rcases hsmall with hn | hn
  · have d1 : decide ((120 : Int) < (n : Int)) = true := decide_eq_true (by omega)
    have d2 : decide (120 < n) = true := decide_eq_true hn
    clear hn
    go_wp2
    refine marks_ret (B := w.heap.size) [] rfl (by intro D hd; cases hd) (by simp) ?_
    intro w' hs
    have hr := Blk.get ((Blk.new w 4 #[.bool true]).stays hs) 0 rfl
    refine ⟨.bool true, by simp [results, Tryd.results6, go_sem, hr]; try rfl, rfl, below_stays ((Below.refl w.heap.size w).alloc (Nat.le_refl _) _) hs (Nat.le_refl _)⟩
  · have d1 : decide ((120 : Int) < (n : Int)) = false := decide_eq_false (by omega)
    have d2 : decide (120 < n) = false := decide_eq_false (by omega)
    have HN := Lib.hid hn
    clear hn
    obtain ⟨w0, hw0⟩ : ∃ x, w.alloc (.cells #[.bool false] 4) = x := ⟨_, rfl⟩
    have hz0 : w0.heap.size = w.heap.size + 1 := by rw [← hw0]; simp
    have B0 : Below w.heap.size w w0 := by rw [← hw0]; exact (Below.refl w.heap.size w).alloc (Nat.le_refl _) _
    have bR : Blk w0 w.heap.size 4 #[.bool false] := by rw [← hw0]; exact Blk.new w _ _
    have HW0 := Lib.hid (And.intro hz0 (And.intro B0 bR))
    have HEQ := Lib.hid hw0
    clear hw0 hz0 B0 bR
    go_wp2_with fail
    rw [HEQ.out]
    clear HEQ
    with_reducible refine (tb_new w0 (HB.out.next HW0.out.2.1)).mono ?_
    rintro e w1 ⟨rfl, hT, hb1⟩
    obtain ⟨T, hTT⟩ : ∃ T, w0.heap.size + 1 = T := ⟨_, rfl⟩
    rw [hTT] at hT ⊢
    have HT := Lib.hid (And.intro hTT (And.intro hT hb1))
    clear hTT hT hb1
    obtain ⟨w2, hw2⟩ : ∃ x, w1.alloc (.cells #[.slice none 0 0] 50) = x := ⟨_, rfl⟩
    obtain ⟨r, hrr⟩ : ∃ x, w1.heap.size = x := ⟨_, rfl⟩
    have HTH : Hid (TH w w2 T r 0 w.heap.size (fun k => k = w0.heap.size ∨ k = T) (.slice none 0 0) [] [] [] 4 #[.bool false]) := by
      have hb2 : Below w1.heap.size w1 w2 := by rw [← hw2]; exact (Below.refl _ _).alloc (Nat.le_refl _) _
      have z0 := HW0.out.1
      have z1 := HT.out.2.2.size
      have zt := HT.out.1
      have br := (HW0.out.2.2.next HT.out.2.2).next hb2
      have hlt := HT.out.2.1.lt
      have t1 := hlt T (Or.inr (by omega))
      exact { tb := HT.out.2.1.next hb2, row := ⟨by rw [← hrr, ← hw2]; exact Blk.new w1 _ _, World.ownsRow_nil _ _ _ _⟩, res := br, below := below_next (HW0.out.2.1.trans (HT.out.2.2.mono (by omega))) hb2, low := (fun k hk => by rcases hk with rfl | rfl <;> omega), rlow := (by omega), vlow := (fun k hk => by simp [Value.ownBlock] at hk), ap := (fun k hk => ⟨by rcases hk with rfl | rfl <;> omega, fun e => by simp [Value.ownBlock] at e⟩), marks := (fun D hD => by simp at hD), nodup := List.nodup_nil, g := HB.out.2, box := br, sb := (fun hk => by rcases hk with hk | hk <;> omega), rb := (by omega), vb := (fun e => by simp [Value.ownBlock] at e) }
    have HEQ := Lib.hid (And.intro hw2 hrr)
    clear hw2 hrr HT HW0
    go_upto_region 4 with (fail)
    rw [HEQ.out.1, HEQ.out.2]
    clear HEQ
    go_wp2
    refine wp_loop_ghost_k (fun k' a' w' => ∃ (u2 u3 u7 u8 u9 u10 u11 u12 u13 u14 u15 u16 u17 u18 u19 u20 u21 u22 u23 u24 u25 u26 u27 u28 u29 u30 u31 u32 u33 u34 u35 u36 u37 u38 u39 u40 u41 u42 u43 u44 u45 u46 u47 u48 u49 u50 u51 u52 u53 u54 u55 u56 u57 u58 u59 u60 u61 u62 u63 u64 u65 u66 u67 u68 u69 u70 u71 u72 u73 u74 u75 u76 u77 u78 u79 u80 u81 u82 u83 u84 u85 u86 u87 u88 u89 u90 u91 u92 u93 u94 u95 u96 u97 u98 u99 u100 u101 u102 u103 u104 u105 u106 u107 u108 u109 u110 u111 u112 u113 u114 u115 u116 u117 u118 u119 u120 u121 u122 u123 u124 u125 u126 u127 u128 u129 u130 u131 u132 u133 u134 u135 u136 u137 u138 u139 u140 u141 u142 u143 u144 u145 u146 u147 u148 u149 u150 u151 u152 u153 u154 u155 u156 u157 u158 u159 u160 u161 u162 u163 : Value) (ds : List Deferred), (∃ (i b : Nat) (S : Nat → Prop) (v : Value) (L : TRow) (Ds : List Nat) (bt : TypeId) (cs : Array Value), i + k' = n ∧ u7 = .int .i64 (i : Int) ∧ ds = Ds.map markOf ∧ TH w w' T r i b S v L L Ds bt cs) ∧ a' = Act.mk (List.toArray (.slice A n c :: .int .i64 pt :: u2 :: u3 :: .pointer (some ⟨w.heap.size, 0, none⟩) :: .pointer (some ⟨T, 0, none⟩) :: .pointer (some ⟨r, 0, none⟩) :: u7 :: u8 :: u9 :: u10 :: u11 :: u12 :: u13 :: u14 :: u15 :: u16 :: u17 :: u18 :: u19 :: u20 :: u21 :: u22 :: u23 :: u24 :: u25 :: u26 :: u27 :: u28 :: u29 :: u30 :: u31 :: u32 :: u33 :: u34 :: u35 :: u36 :: u37 :: u38 :: u39 :: u40 :: u41 :: u42 :: u43 :: u44 :: u45 :: u46 :: u47 :: u48 :: u49 :: u50 :: u51 :: u52 :: u53 :: u54 :: u55 :: u56 :: u57 :: u58 :: u59 :: u60 :: u61 :: u62 :: u63 :: u64 :: u65 :: u66 :: u67 :: u68 :: u69 :: u70 :: u71 :: u72 :: u73 :: u74 :: u75 :: u76 :: u77 :: u78 :: u79 :: u80 :: u81 :: u82 :: u83 :: u84 :: u85 :: u86 :: u87 :: u88 :: u89 :: u90 :: u91 :: u92 :: u93 :: u94 :: u95 :: u96 :: u97 :: u98 :: u99 :: u100 :: u101 :: u102 :: u103 :: u104 :: u105 :: u106 :: u107 :: u108 :: u109 :: u110 :: u111 :: u112 :: u113 :: u114 :: u115 :: u116 :: u117 :: u118 :: u119 :: u120 :: u121 :: u122 :: u123 :: u124 :: u125 :: u126 :: u127 :: u128 :: u129 :: u130 :: u131 :: u132 :: u133 :: u134 :: u135 :: u136 :: u137 :: u138 :: u139 :: u140 :: u141 :: u142 :: u143 :: u144 :: u145 :: u146 :: u147 :: u148 :: u149 :: u150 :: u151 :: u152 :: u153 :: u154 :: u155 :: u156 :: u157 :: u158 :: u159 :: u160 :: u161 :: u162 :: u163 :: [])) ds) (n) ?start ?round
    case start =>
      (repeat apply Exists.intro)
      refine ⟨?_, rfl⟩
      exact ⟨0, _, _, _, _, [], _, _, by omega, rfl, rfl, HTH.out⟩
    case round =>
      intro gk _ wr hinv
      obtain ⟨u2, hinv⟩ := hinv
      obtain ⟨u3, hinv⟩ := hinv
      obtain ⟨u7, hinv⟩ := hinv
      obtain ⟨u8, hinv⟩ := hinv
      obtain ⟨u9, hinv⟩ := hinv
      obtain ⟨u10, hinv⟩ := hinv
      obtain ⟨u11, hinv⟩ := hinv
      obtain ⟨u12, hinv⟩ := hinv
      obtain ⟨u13, hinv⟩ := hinv
      obtain ⟨u14, hinv⟩ := hinv
      obtain ⟨u15, hinv⟩ := hinv
      obtain ⟨u16, hinv⟩ := hinv
      obtain ⟨u17, hinv⟩ := hinv
      obtain ⟨u18, hinv⟩ := hinv
      obtain ⟨u19, hinv⟩ := hinv
      obtain ⟨u20, hinv⟩ := hinv
      obtain ⟨u21, hinv⟩ := hinv
      obtain ⟨u22, hinv⟩ := hinv
      obtain ⟨u23, hinv⟩ := hinv
      obtain ⟨u24, hinv⟩ := hinv
      obtain ⟨u25, hinv⟩ := hinv
      obtain ⟨u26, hinv⟩ := hinv
      obtain ⟨u27, hinv⟩ := hinv
      obtain ⟨u28, hinv⟩ := hinv
      obtain ⟨u29, hinv⟩ := hinv
      obtain ⟨u30, hinv⟩ := hinv
      obtain ⟨u31, hinv⟩ := hinv
      obtain ⟨u32, hinv⟩ := hinv
      obtain ⟨u33, hinv⟩ := hinv
      obtain ⟨u34, hinv⟩ := hinv
      obtain ⟨u35, hinv⟩ := hinv
      obtain ⟨u36, hinv⟩ := hinv
      obtain ⟨u37, hinv⟩ := hinv
      obtain ⟨u38, hinv⟩ := hinv
      obtain ⟨u39, hinv⟩ := hinv
      obtain ⟨u40, hinv⟩ := hinv
      obtain ⟨u41, hinv⟩ := hinv
      obtain ⟨u42, hinv⟩ := hinv
      obtain ⟨u43, hinv⟩ := hinv
      obtain ⟨u44, hinv⟩ := hinv
      obtain ⟨u45, hinv⟩ := hinv
      obtain ⟨u46, hinv⟩ := hinv
      obtain ⟨u47, hinv⟩ := hinv
      obtain ⟨u48, hinv⟩ := hinv
      obtain ⟨u49, hinv⟩ := hinv
      obtain ⟨u50, hinv⟩ := hinv
      obtain ⟨u51, hinv⟩ := hinv
      obtain ⟨u52, hinv⟩ := hinv
      obtain ⟨u53, hinv⟩ := hinv
      obtain ⟨u54, hinv⟩ := hinv
      obtain ⟨u55, hinv⟩ := hinv
      obtain ⟨u56, hinv⟩ := hinv
      obtain ⟨u57, hinv⟩ := hinv
      obtain ⟨u58, hinv⟩ := hinv
      obtain ⟨u59, hinv⟩ := hinv
      obtain ⟨u60, hinv⟩ := hinv
      obtain ⟨u61, hinv⟩ := hinv
      obtain ⟨u62, hinv⟩ := hinv
      obtain ⟨u63, hinv⟩ := hinv
      obtain ⟨u64, hinv⟩ := hinv
      obtain ⟨u65, hinv⟩ := hinv
      obtain ⟨u66, hinv⟩ := hinv
      obtain ⟨u67, hinv⟩ := hinv
      obtain ⟨u68, hinv⟩ := hinv
      obtain ⟨u69, hinv⟩ := hinv
      obtain ⟨u70, hinv⟩ := hinv
      obtain ⟨u71, hinv⟩ := hinv
      obtain ⟨u72, hinv⟩ := hinv
      obtain ⟨u73, hinv⟩ := hinv
      obtain ⟨u74, hinv⟩ := hinv
      obtain ⟨u75, hinv⟩ := hinv
      obtain ⟨u76, hinv⟩ := hinv
      obtain ⟨u77, hinv⟩ := hinv
      obtain ⟨u78, hinv⟩ := hinv
      obtain ⟨u79, hinv⟩ := hinv
      obtain ⟨u80, hinv⟩ := hinv
      obtain ⟨u81, hinv⟩ := hinv
      obtain ⟨u82, hinv⟩ := hinv
      obtain ⟨u83, hinv⟩ := hinv
      obtain ⟨u84, hinv⟩ := hinv
      obtain ⟨u85, hinv⟩ := hinv
      obtain ⟨u86, hinv⟩ := hinv
      obtain ⟨u87, hinv⟩ := hinv
      obtain ⟨u88, hinv⟩ := hinv
      obtain ⟨u89, hinv⟩ := hinv
      obtain ⟨u90, hinv⟩ := hinv
      obtain ⟨u91, hinv⟩ := hinv
      obtain ⟨u92, hinv⟩ := hinv
      obtain ⟨u93, hinv⟩ := hinv
      obtain ⟨u94, hinv⟩ := hinv
      obtain ⟨u95, hinv⟩ := hinv
      obtain ⟨u96, hinv⟩ := hinv
      obtain ⟨u97, hinv⟩ := hinv
      obtain ⟨u98, hinv⟩ := hinv
      obtain ⟨u99, hinv⟩ := hinv
      obtain ⟨u100, hinv⟩ := hinv
      obtain ⟨u101, hinv⟩ := hinv
      obtain ⟨u102, hinv⟩ := hinv
      obtain ⟨u103, hinv⟩ := hinv
      obtain ⟨u104, hinv⟩ := hinv
      obtain ⟨u105, hinv⟩ := hinv
      obtain ⟨u106, hinv⟩ := hinv
      obtain ⟨u107, hinv⟩ := hinv
      obtain ⟨u108, hinv⟩ := hinv
      obtain ⟨u109, hinv⟩ := hinv
      obtain ⟨u110, hinv⟩ := hinv
      obtain ⟨u111, hinv⟩ := hinv
      obtain ⟨u112, hinv⟩ := hinv
      obtain ⟨u113, hinv⟩ := hinv
      obtain ⟨u114, hinv⟩ := hinv
      obtain ⟨u115, hinv⟩ := hinv
      obtain ⟨u116, hinv⟩ := hinv
      obtain ⟨u117, hinv⟩ := hinv
      obtain ⟨u118, hinv⟩ := hinv
      obtain ⟨u119, hinv⟩ := hinv
      obtain ⟨u120, hinv⟩ := hinv
      obtain ⟨u121, hinv⟩ := hinv
      obtain ⟨u122, hinv⟩ := hinv
      obtain ⟨u123, hinv⟩ := hinv
      obtain ⟨u124, hinv⟩ := hinv
      obtain ⟨u125, hinv⟩ := hinv
      obtain ⟨u126, hinv⟩ := hinv
      obtain ⟨u127, hinv⟩ := hinv
      obtain ⟨u128, hinv⟩ := hinv
      obtain ⟨u129, hinv⟩ := hinv
      obtain ⟨u130, hinv⟩ := hinv
      obtain ⟨u131, hinv⟩ := hinv
      obtain ⟨u132, hinv⟩ := hinv
      obtain ⟨u133, hinv⟩ := hinv
      obtain ⟨u134, hinv⟩ := hinv
      obtain ⟨u135, hinv⟩ := hinv
      obtain ⟨u136, hinv⟩ := hinv
      obtain ⟨u137, hinv⟩ := hinv
      obtain ⟨u138, hinv⟩ := hinv
      obtain ⟨u139, hinv⟩ := hinv
      obtain ⟨u140, hinv⟩ := hinv
      obtain ⟨u141, hinv⟩ := hinv
      obtain ⟨u142, hinv⟩ := hinv
      obtain ⟨u143, hinv⟩ := hinv
      obtain ⟨u144, hinv⟩ := hinv
      obtain ⟨u145, hinv⟩ := hinv
      obtain ⟨u146, hinv⟩ := hinv
      obtain ⟨u147, hinv⟩ := hinv
      obtain ⟨u148, hinv⟩ := hinv
      obtain ⟨u149, hinv⟩ := hinv
      obtain ⟨u150, hinv⟩ := hinv
      obtain ⟨u151, hinv⟩ := hinv
      obtain ⟨u152, hinv⟩ := hinv
      obtain ⟨u153, hinv⟩ := hinv
      obtain ⟨u154, hinv⟩ := hinv
      obtain ⟨u155, hinv⟩ := hinv
      obtain ⟨u156, hinv⟩ := hinv
      obtain ⟨u157, hinv⟩ := hinv
      obtain ⟨u158, hinv⟩ := hinv
      obtain ⟨u159, hinv⟩ := hinv
      obtain ⟨u160, hinv⟩ := hinv
      obtain ⟨u161, hinv⟩ := hinv
      obtain ⟨u162, hinv⟩ := hinv
      obtain ⟨u163, hinv⟩ := hinv
      obtain ⟨ds, hrel, ha⟩ := hinv
      subst ha
      try dsimp only
      intro _ _ _ _
      obtain ⟨i, b, S, v, L, Ds, bt, cs, hi, rfl, hds, hth⟩ := hrel
      have HTR := Lib.hid hth
      have HDS := Lib.hid hds
      clear hth hds HTH
      obtain ⟨wo, rfl⟩ : ∃ x : World, x = wr := ⟨_, rfl⟩
      by_cases hlt : i < n
      · obtain ⟨gm, rfl⟩ : ∃ gm, gk = gm + 1 := ⟨gk - 1, by omega⟩
        obtain ⟨bA, off, rfl, hbA⟩ := HA.out.addr (by omega)
        obtain ⟨c0, c1, c2, c3⟩ := HA.out.cells bA off rfl i hlt
        have c0 := (HTR.out.below.cell (p := ⟨bA, off + i * 4, none⟩) hbA).trans c0
        have c1 := (HTR.out.below.cell (p := ⟨bA, off + i * 4 + 1, none⟩) hbA).trans c1
        have c2 := (HTR.out.below.cell (p := ⟨bA, off + i * 4 + 2, none⟩) hbA).trans c2
        have c3 := (HTR.out.below.cell (p := ⟨bA, off + i * 4 + 3, none⟩) hbA).trans c3
        have hkb := HM.out.k i
        have hib := HM.out.i i
        have hvb := HM.out.v i
        have hqb := HM.out.q i
        obtain ⟨k, hk⟩ : ∃ x, K i = x := ⟨_, rfl⟩
        obtain ⟨id, hid⟩ : ∃ x, I i = x := ⟨_, rfl⟩
        obtain ⟨x, hx⟩ : ∃ x, V i = x := ⟨_, rfl⟩
        obtain ⟨q, hq⟩ : ∃ x, Q i = x := ⟨_, rfl⟩
        rw [hk] at c0 hkb
        rw [hid] at c1 hib
        rw [hx] at c2 hvb
        rw [hq] at c3 hqb
        clear hk hid hx hq
        have HV := Lib.hid (And.intro hvb (And.intro hqb hkb))
        clear hvb hib hkb hqb
        have p0 : (0 : Int) ≤ (i : Int) := by omega
        have p1 : (i : Int) < (n : Int) := by omega
        have HI := Lib.hid hlt
        obtain ⟨w3, hw3⟩ : ∃ y, wo.alloc (.cells #[.int .u8 k, .int .i64 id, .int .u64 x, .int .i64 q] 28) = y := ⟨_, rfl⟩
        obtain ⟨b3, hb3⟩ : ∃ y, wo.heap.size = y := ⟨_, rfl⟩
        have H3 : Hid (TH w w3 T r i b3 S v L L Ds 28 #[.int .u8 k, .int .i64 id, .int .u64 x, .int .i64 q]) := by rw [← hw3, ← hb3]; exact HTR.out.act _
        have HEQ := Lib.hid (And.intro hw3 hb3)
        clear hw3 hb3 hlt
        go_upto_region 10 with (fail)
        rw [HEQ.out.1, HEQ.out.2]
        clear HEQ c0 c1 c2 c3 HTR
        go_upto_if 38 with (fail)
        refine wp_cut (fun a' w' => ∃ (u2 u3 u9 u10 u11 u12 u13 u14 u15 u16 u17 u18 u19 u20 u21 u22 u23 u24 u25 u26 u27 u28 u29 u30 u31 u32 u33 u34 u35 u36 u37 u38 u39 u40 u41 u42 u43 u44 u45 u46 u47 u48 u49 u50 u51 u52 u53 u54 u55 u56 u57 u58 u59 u60 u61 u62 u63 u64 u65 u66 u67 u68 u69 u70 u71 u72 u73 u74 u75 u76 u77 u78 u79 u80 u81 u82 u83 u84 u85 u86 u87 u88 u89 u90 u91 u92 u93 u94 u95 u96 u97 u98 u99 u100 u101 u102 u103 u104 u105 u106 u107 u108 u109 u110 u111 u112 u113 u114 u115 u116 u117 u118 u119 u120 u121 u122 u123 u124 u125 u126 u127 u128 u129 u130 u131 u132 u133 u134 u135 u136 u137 u138 u139 u140 u141 u142 u143 u144 u145 u146 u147 u148 u149 u150 u151 u152 u153 u154 u155 u156 u157 u158 u159 u160 u161 u162 u163 : Value) (ds : List Deferred), (∃ Ds' : List Nat, ds = Ds'.map markOf ∧ TH w w' T r i b3 S v L L Ds' 28 #[.int .u8 k, .int .i64 id, .int .u64 x, .int .i64 q]) ∧ a' = Act.mk (List.toArray (.slice (some ⟨bA, off, none⟩) n c :: .int .i64 pt :: u2 :: u3 :: .pointer (some ⟨w.heap.size, 0, none⟩) :: .pointer (some ⟨T, 0, none⟩) :: .pointer (some ⟨r, 0, none⟩) :: .int .i64 (i : Int) :: .pointer (some ⟨b3, 0, none⟩) :: u9 :: u10 :: u11 :: u12 :: u13 :: u14 :: u15 :: u16 :: u17 :: u18 :: u19 :: u20 :: u21 :: u22 :: u23 :: u24 :: u25 :: u26 :: u27 :: u28 :: u29 :: u30 :: u31 :: u32 :: u33 :: u34 :: u35 :: u36 :: u37 :: u38 :: u39 :: u40 :: u41 :: u42 :: u43 :: u44 :: u45 :: u46 :: u47 :: u48 :: u49 :: u50 :: u51 :: u52 :: u53 :: u54 :: u55 :: u56 :: u57 :: u58 :: u59 :: u60 :: u61 :: u62 :: u63 :: u64 :: u65 :: u66 :: u67 :: u68 :: u69 :: u70 :: u71 :: u72 :: u73 :: u74 :: u75 :: u76 :: u77 :: u78 :: u79 :: u80 :: u81 :: u82 :: u83 :: u84 :: u85 :: u86 :: u87 :: u88 :: u89 :: u90 :: u91 :: u92 :: u93 :: u94 :: u95 :: u96 :: u97 :: u98 :: u99 :: u100 :: u101 :: u102 :: u103 :: u104 :: u105 :: u106 :: u107 :: u108 :: u109 :: u110 :: u111 :: u112 :: u113 :: u114 :: u115 :: u116 :: u117 :: u118 :: u119 :: u120 :: u121 :: u122 :: u123 :: u124 :: u125 :: u126 :: u127 :: u128 :: u129 :: u130 :: u131 :: u132 :: u133 :: u134 :: u135 :: u136 :: u137 :: u138 :: u139 :: u140 :: u141 :: u142 :: u143 :: u144 :: u145 :: u146 :: u147 :: u148 :: u149 :: u150 :: u151 :: u152 :: u153 :: u154 :: u155 :: u156 :: u157 :: u158 :: u159 :: u160 :: u161 :: u162 :: u163 :: [])) ds) ?rest ?first
        case first =>
          intro _ _ _ _
          by_cases hip : (i : Int) = pt
          rotate_left
          · have e1 : ((i : Int) == pt) = false := beq_eq_false_iff_ne.2 hip
            clear hip
            go_wp2
            go_meet
            case rel => exact ⟨Ds, HDS.out, H3.out⟩
          · have e1 : ((i : Int) == pt) = true := beq_iff_eq.2 hip
            clear hip
            go_wp2_with fail
            with_reducible refine (tb_copy_nil T i S L w3 H3.out.tb).mono ?_
            rintro e w4 ⟨C, SC, rfl, hC, hb4, hSC⟩
            rw [mapRow_id] at hC
            have H4 := Lib.hid (And.intro hC (And.intro hSC hb4))
            clear hC hSC hb4
            go_wp2_with fail
            with_reducible refine (tb_copy_more T i S L w4 (H3.out.tb.next H4.out.2.2)).mono ?_
            rintro e w5 ⟨D, SD, rfl, hD, hb5, hSD⟩
            have hz34 := H4.out.2.2.size
            have hz45 := hb5.size
            have hlt3 : b3 < w5.heap.size := by have := H3.out.box.lt; omega
            have cQ := ((H3.out.box.next H4.out.2.2).next hb5).get 3 rfl
            obtain ⟨w6, hw6⟩ : ∃ y, w5.alloc (.cells #[.pointer (some ⟨D, 0, none⟩)] 24) = y := ⟨_, rfl⟩
            have hb6 : Below w5.heap.size w5 w6 := by rw [← hw6]; exact (Below.refl _ _).alloc (Nat.le_refl _) _
            have bx6 : Blk w6 w5.heap.size 24 #[.pointer (some ⟨D, 0, none⟩)] := by rw [← hw6]; exact Blk.new w5 _ _
            have H6 := Lib.hid (And.intro (((H4.out.1.next hb5).next hb6)) (And.intro (hD.next hb6) (And.intro bx6 (And.intro (below_next (below_next H4.out.2.2 hb5) hb6) (And.intro hSD (And.intro hD.lt hb6.size))))))
            have HEQ := Lib.hid hw6
            clear hw6 hb6 bx6 hD hb5 hSD
            go_wp2_with fail
            rw [HEQ.out]
            clear HEQ cQ
            have H36 := Lib.hid (H3.out.next H6.out.2.2.2.1)
            with_reducible refine (tab_same (.pointer (some ⟨C, 0, none⟩)) w6.heap.size (fun W => Tb W C SC L.length L) L r 0 v q w6 (isTab_made H6.out.1 H6.out.1.lt (Nat.lt_trans H36.out.g H36.out.wlt)) H6.out.1 (Nat.le_refl _) H36.out.row HV.out.2.1.1).mono ?_
            rintro e w7 ⟨rfl, hb7⟩
            obtain ⟨l, hll⟩ : ∃ l, L.length = l := ⟨_, rfl⟩
            have hml : (mapRow moreV L).length = l := by rw [← hll]; exact List.length_map ..
            have H7 := Lib.hid (And.intro (H6.out.1.next hb7) (And.intro (H6.out.2.1.next hb7) (And.intro (H6.out.2.2.1.next hb7) (And.intro (below_next H6.out.2.2.2.1 hb7) hb7.size))))
            have H37 := Lib.hid (H36.out.next hb7)
            have cX := H7.out.2.2.1.get 0 rfl
            have LD := Lib.hid (tb_len D _ SD _ w7 H7.out.2.1)
            have LT := Lib.hid (tb_len T i S L w7 H37.out.tb)
            rw [hml] at LD
            rw [hll] at LT H7
            have HL := Lib.hid hll
            clear hb7 hll hml
            go_wp2_with fail
            with_reducible refine LD.out.mono ?_
            rintro e wx ⟨rfl, rfl⟩
            go_wp2_with fail
            with_reducible refine LT.out.mono ?_
            rintro e wx ⟨rfl, rfl⟩
            go_wp2_with fail
            with_reducible refine (tab_each _ rfl _).mono ?_
            rintro e w8 ⟨rfl, rfl⟩
            go_wp2_with fail
            have bT := Blk.new w7 24 #[.pointer (some ⟨T, 0, none⟩)]
            have hBo : Below w7.heap.size w7 (w7.alloc (.cells #[.pointer (some ⟨T, 0, none⟩)] 24)) := (Below.refl _ _).alloc (Nat.le_refl _) _
            have hsz : (w7.alloc (.cells #[.pointer (some ⟨T, 0, none⟩)] 24)).heap.size = w7.heap.size + 1 := by simp
            obtain ⟨W0, hW0⟩ : ∃ y, w7.alloc (.cells #[.pointer (some ⟨T, 0, none⟩)] 24) = y := ⟨_, rfl⟩
            rw [hW0] at bT hBo hsz
            rw [hW0]
            clear hW0 cX
            have HZ := Lib.hid (show w3.heap.size ≤ w4.heap.size ∧ w4.heap.size ≤ w5.heap.size ∧ w5.heap.size ≤ w6.heap.size ∧ w6.heap.size ≤ w7.heap.size ∧ W0.heap.size = w7.heap.size + 1 from ⟨hz34, hz45, H6.out.2.2.2.2.2.2, H7.out.2.2.2.2, hsz⟩)
            clear hsz
            have h0C := H7.out.1.next hBo
            have h0D := H7.out.2.1.next hBo
            have h0x := H7.out.2.2.1.next hBo
            have h0B := below_next H7.out.2.2.2.1 hBo
            refine wp_range (gf := 30) (lb := #[.pointer (some ⟨w7.heap.size, 0, none⟩)]) rfl (enters_of Tryd.func30 (by kernel_rfl) rfl) (each_yields T i w7.heap.size S L) (fun _ _ => rfl)
              (fun k W => Below w3.heap.size w3 W ∧ Blk W w7.heap.size 24 #[.pointer (some ⟨T, 0, none⟩)] ∧ Tb W C SC l L ∧ Tb W D SD l (mapRow moreV L) ∧ Blk W w5.heap.size 24 #[.pointer (some ⟨D, 0, none⟩)] ∧ W0.heap.size ≤ W.heap.size)
              (fun _ _ _ => False) ?hI (fun _ _ _ _ h _ => h) (fun k A h => ⟨H3.out.tb.next h.1, h.2.1⟩) ?h0 ?hround ?hdone (fun _ _ _ _ h _ => h.elim)
            case hI =>
              rintro k A C ⟨h1, h2, h3, h4, h5, h6⟩ hs
              exact ⟨below_stays h1 hs (by have := HZ.out; omega), h2.stays hs, h3.stays hs, h4.stays hs, h5.stays hs, Nat.le_trans h6 hs.size⟩
            case h0 => exact ⟨h0B, bT, h0C, h0D, h0x, Nat.le_refl _⟩
            case hround =>
              as_aux_lemma =>
                rintro k2 W hk2 ⟨h1, h2, h3, h4, h5, h6⟩ hlt
                obtain ⟨i', x', q1, q2, q3⟩ := row_at H3.out.tb.ok.rises hk2
                rw [enc_at q1]
                gi_wp2
                refine ⟨Holds.refl hlt, fun W2 hs => ?_⟩
                have hlt2 := Nat.lt_of_lt_of_le hlt hs.size
                have HI2 := Lib.hid (And.intro (below_stays h1 hs (by have := HZ.out; omega)) (And.intro (Blk.stays h2 hs) (And.intro (h3.stays hs) (And.intro (h4.stays hs) (And.intro (Blk.stays h5 hs) (Nat.le_trans h6 hs.size))))))
                have HLT := Lib.hid hlt2
                have cX := HI2.out.2.2.2.2.1.get 0 rfl
                have hd : 1 ≤ 5 := by omega
                have GET := Lib.hid (tb_get D l SD (mapRow moreV L) i' W2 HI2.out.2.2.2.1)
                rw [tget_map, q3] at GET
                have eM : IntKind.u64.wrap (x' + 1) = moreV x' := rfl
                obtain ⟨mx, hmx⟩ : ∃ y, moreV x' = y := ⟨_, rfl⟩
                rw [hmx] at eM
                have GET2 : Hid (Calls Tryd.prog 11 #[.pointer (some ⟨D, 0, none⟩), .int .i64 i'] W2 fun e w' => e = .returned (.tuple #[.int .u64 mx, .bool true]) ∧ Below W2.heap.size W2 w') := by rw [← hmx]; exact GET.out
                clear h1 h2 h3 h4 h5 h6 hs hlt hk2 q1 q2 q3 bT hBo hlt2 h0C h0D h0x h0B GET hmx
                gi_wp2_with (first | (refine ⟨trivial, ?_⟩; gi_at_call 11; refine (CallsIn.inRound (W0.heap.size + 1) (callsIn_wide.2 GET2.out)).mono ?_; rintro e W3 ⟨rfl, hb3⟩; have HB3 := Lib.hid hb3; clear hb3))
                refine ⟨(Holds.refl HLT.out).next HB3.out, below_next HI2.out.1 HB3.out, Blk.next HI2.out.2.1 HB3.out, HI2.out.2.2.1.next HB3.out, HI2.out.2.2.2.1.next HB3.out, Blk.next HI2.out.2.2.2.2.1 HB3.out, Nat.le_trans HI2.out.2.2.2.2.2 HB3.out.size⟩
            case hdone =>
              rintro W ⟨h1, h2, h3, h4, h5, h6⟩ hD
              have HCD : Hid (CD w3 W C D w5.heap.size W0.heap.size l l SC SD L (mapRow moreV L)) := by
                have z := HZ.out
                refine ⟨h3, h4, h5, h1, hD, fun j hj => ?_, fun j hj => ?_⟩
                · have a1 := H4.out.2.1 j hj
                  have a2 := H4.out.1.lt j hj
                  exact ⟨a1, fun hs => by have := H6.out.2.2.2.2.1 j hs; omega, by omega, by omega⟩
                · have a1 := H6.out.2.2.2.2.1 j hj
                  have a2 := H6.out.2.2.2.2.2.1 j hj
                  exact ⟨by omega, by omega, by omega⟩
              have hl6 : l ≤ 65535 := by rw [← HL.out]; exact H3.out.tb.ok.few
              have HL6 := Lib.hid hl6
              clear h1 h2 h3 h4 h5 h6 hD bT hBo h0C h0D h0x h0B hl6 H7 H37 H6 H36 H4 LD LT
              go_wp2
              go_loopg [15] (n - i) (fun gk ix wr => ∃ j : Nat, j + gk = n ∧ i ≤ j ∧ ix = .int .i64 j ∧ ∃ Sc M M', CD w3 wr C D w5.heap.size W0.heap.size (l + (j - i)) l Sc SD M M')
              case atStart => exact ⟨i, by have := HI.out; omega, Nat.le_refl _, rfl, SC, L, _, by rw [Nat.sub_self]; exact HCD.out⟩
              case round =>
                obtain ⟨j, hj, hij, rfl, Sc, M, M', hcd⟩ := hrel
                have HC := Lib.hid hcd
                clear hcd HCD
                obtain ⟨wi, rfl⟩ : ∃ y : World, y = wr := ⟨_, rfl⟩
                by_cases hjn : j < n
                · as_aux_lemma =>
                    obtain ⟨gm', rfl⟩ : ∃ gm', gk = gm' + 1 := ⟨gk - 1, by omega⟩
                    obtain ⟨m, hm⟩ : ∃ m, m + j + 1 = n := ⟨n - 1 - j, by omega⟩
                    have HBW := Lib.hid (H3.out.below.trans (HC.out.below.mono (Nat.le_of_lt H3.out.wlt)))
                    obtain ⟨-, cj0, -, -⟩ := HA.out.cells bA off rfl j hjn
                    obtain ⟨-, cm0, -, -⟩ := HA.out.cells bA off rfl m (by omega)
                    obtain ⟨ij, hij2⟩ : ∃ y, I j = y := ⟨_, rfl⟩
                    obtain ⟨im, him2⟩ : ∃ y, I m = y := ⟨_, rfl⟩
                    rw [hij2] at cj0
                    rw [him2] at cm0
                    have HCJ := Lib.hid (And.intro cj0 cm0)
                    clear cj0 cm0 hij2 him2
                    have cj := (HBW.out.cell (p := ⟨bA, off + j * 4 + 1, none⟩) hbA).trans HCJ.out.1
                    have q0 : (0 : Int) ≤ (j : Int) := by omega
                    have q1 : (j : Int) < (n : Int) := by omega
                    have q2 : (0 : Int) ≤ (m : Int) := by omega
                    have q3 : (m : Int) < (n : Int) := by omega
                    have e6 : wrap64 ((n : Int) - 1) = (n : Int) - 1 := by have := HN.out; unfold wrap64; omega
                    have e7 : wrap64 ((n : Int) - 1 - (j : Int)) = (m : Int) := by have := HN.out; unfold wrap64; omega
                    have e8 : wrap64 ((j : Int) + 1) = ((j + 1 : Nat) : Int) := by have := HN.out; unfold wrap64; omega
                    have HJ := Lib.hid (And.intro hj (And.intro hij (And.intro hm hjn)))
                    have HbA := Lib.hid hbA
                    clear hj hij hm hjn
                    go_wp2_with fail
                    with_reducible refine (cd_put HC.out ij 3 (by unfold Word; omega) (by clear e6 e7 e8; have := HL6.out; have := HN.out; have := HJ.out.2.2.2; omega)).mono ?_
                    rintro e wa ⟨E1, rfl, Sc', M1, hcd⟩
                    have HC1 := Lib.hid hcd
                    have HBW1 := Lib.hid (H3.out.below.trans (HC1.out.below.mono (Nat.le_of_lt H3.out.wlt)))
                    have cm := (HBW1.out.cell (p := ⟨bA, off + m * 4 + 1, none⟩) HbA.out).trans HCJ.out.2
                    clear hcd cj HC HBW
                    go_wp2_with fail
                    with_reducible refine (cd_drop HC1.out im).mono ?_
                    rintro e wb ⟨E2, rfl, M2, hcd⟩
                    have HC2 := Lib.hid (hcd.next (below_of_drew (Below.refl wb.heap.size wb)))
                    have HBW2 := Lib.hid (H3.out.below.trans (hcd.below.mono (Nat.le_of_lt H3.out.wlt)))
                    have cj := (HBW2.out.cell (p := ⟨bA, off + j * 4 + 1, none⟩) HbA.out).trans HCJ.out.1
                    have cX := hcd.bx.get 0 rfl
                    clear hcd cm HC1 HBW1
                    go_upto_region 25 with (fail)
                    go_still_tail 6, (by kernel_rfl)
                    go_wp2_with fail
                    with_reducible refine (cd_set HC2.out ij 9 (by unfold Word; omega)).mono ?_
                    rintro e wd ⟨E3, rfl, M3, hcd⟩
                    have HC3 := Lib.hid hcd
                    clear hcd cj cX HC2 HBW2
                    go_wp2
                    go_roundg gm'
                    case rel => exact ⟨j + 1, by clear e6 e7 e8; have := HJ.out; omega, by clear e6 e7 e8; have := HJ.out; omega, by go_num, Sc', M2, M3, by rw [show l + (j + 1 - i) = l + (j - i) + 1 by clear e6 e7 e8; have := HJ.out; omega]; exact HC3.out⟩
                    case measure => omega
                · obtain rfl : gk = 0 := by omega
                  obtain rfl : j = n := by omega
                  clear hjn hij hj
                  go_wp2
                  go_meet
                  case rel => exact ⟨W0.heap.size :: Ds, by rw [HDS.out]; rfl, H3.out.push HC.out.below (by have := HZ.out; omega) HC.out.mark⟩
        case rest =>
          intro _ wc hinv
          obtain ⟨u2, hinv⟩ := hinv
          obtain ⟨u3, hinv⟩ := hinv
          obtain ⟨u9, hinv⟩ := hinv
          obtain ⟨u10, hinv⟩ := hinv
          obtain ⟨u11, hinv⟩ := hinv
          obtain ⟨u12, hinv⟩ := hinv
          obtain ⟨u13, hinv⟩ := hinv
          obtain ⟨u14, hinv⟩ := hinv
          obtain ⟨u15, hinv⟩ := hinv
          obtain ⟨u16, hinv⟩ := hinv
          obtain ⟨u17, hinv⟩ := hinv
          obtain ⟨u18, hinv⟩ := hinv
          obtain ⟨u19, hinv⟩ := hinv
          obtain ⟨u20, hinv⟩ := hinv
          obtain ⟨u21, hinv⟩ := hinv
          obtain ⟨u22, hinv⟩ := hinv
          obtain ⟨u23, hinv⟩ := hinv
          obtain ⟨u24, hinv⟩ := hinv
          obtain ⟨u25, hinv⟩ := hinv
          obtain ⟨u26, hinv⟩ := hinv
          obtain ⟨u27, hinv⟩ := hinv
          obtain ⟨u28, hinv⟩ := hinv
          obtain ⟨u29, hinv⟩ := hinv
          obtain ⟨u30, hinv⟩ := hinv
          obtain ⟨u31, hinv⟩ := hinv
          obtain ⟨u32, hinv⟩ := hinv
          obtain ⟨u33, hinv⟩ := hinv
          obtain ⟨u34, hinv⟩ := hinv
          obtain ⟨u35, hinv⟩ := hinv
          obtain ⟨u36, hinv⟩ := hinv
          obtain ⟨u37, hinv⟩ := hinv
          obtain ⟨u38, hinv⟩ := hinv
          obtain ⟨u39, hinv⟩ := hinv
          obtain ⟨u40, hinv⟩ := hinv
          obtain ⟨u41, hinv⟩ := hinv
          obtain ⟨u42, hinv⟩ := hinv
          obtain ⟨u43, hinv⟩ := hinv
          obtain ⟨u44, hinv⟩ := hinv
          obtain ⟨u45, hinv⟩ := hinv
          obtain ⟨u46, hinv⟩ := hinv
          obtain ⟨u47, hinv⟩ := hinv
          obtain ⟨u48, hinv⟩ := hinv
          obtain ⟨u49, hinv⟩ := hinv
          obtain ⟨u50, hinv⟩ := hinv
          obtain ⟨u51, hinv⟩ := hinv
          obtain ⟨u52, hinv⟩ := hinv
          obtain ⟨u53, hinv⟩ := hinv
          obtain ⟨u54, hinv⟩ := hinv
          obtain ⟨u55, hinv⟩ := hinv
          obtain ⟨u56, hinv⟩ := hinv
          obtain ⟨u57, hinv⟩ := hinv
          obtain ⟨u58, hinv⟩ := hinv
          obtain ⟨u59, hinv⟩ := hinv
          obtain ⟨u60, hinv⟩ := hinv
          obtain ⟨u61, hinv⟩ := hinv
          obtain ⟨u62, hinv⟩ := hinv
          obtain ⟨u63, hinv⟩ := hinv
          obtain ⟨u64, hinv⟩ := hinv
          obtain ⟨u65, hinv⟩ := hinv
          obtain ⟨u66, hinv⟩ := hinv
          obtain ⟨u67, hinv⟩ := hinv
          obtain ⟨u68, hinv⟩ := hinv
          obtain ⟨u69, hinv⟩ := hinv
          obtain ⟨u70, hinv⟩ := hinv
          obtain ⟨u71, hinv⟩ := hinv
          obtain ⟨u72, hinv⟩ := hinv
          obtain ⟨u73, hinv⟩ := hinv
          obtain ⟨u74, hinv⟩ := hinv
          obtain ⟨u75, hinv⟩ := hinv
          obtain ⟨u76, hinv⟩ := hinv
          obtain ⟨u77, hinv⟩ := hinv
          obtain ⟨u78, hinv⟩ := hinv
          obtain ⟨u79, hinv⟩ := hinv
          obtain ⟨u80, hinv⟩ := hinv
          obtain ⟨u81, hinv⟩ := hinv
          obtain ⟨u82, hinv⟩ := hinv
          obtain ⟨u83, hinv⟩ := hinv
          obtain ⟨u84, hinv⟩ := hinv
          obtain ⟨u85, hinv⟩ := hinv
          obtain ⟨u86, hinv⟩ := hinv
          obtain ⟨u87, hinv⟩ := hinv
          obtain ⟨u88, hinv⟩ := hinv
          obtain ⟨u89, hinv⟩ := hinv
          obtain ⟨u90, hinv⟩ := hinv
          obtain ⟨u91, hinv⟩ := hinv
          obtain ⟨u92, hinv⟩ := hinv
          obtain ⟨u93, hinv⟩ := hinv
          obtain ⟨u94, hinv⟩ := hinv
          obtain ⟨u95, hinv⟩ := hinv
          obtain ⟨u96, hinv⟩ := hinv
          obtain ⟨u97, hinv⟩ := hinv
          obtain ⟨u98, hinv⟩ := hinv
          obtain ⟨u99, hinv⟩ := hinv
          obtain ⟨u100, hinv⟩ := hinv
          obtain ⟨u101, hinv⟩ := hinv
          obtain ⟨u102, hinv⟩ := hinv
          obtain ⟨u103, hinv⟩ := hinv
          obtain ⟨u104, hinv⟩ := hinv
          obtain ⟨u105, hinv⟩ := hinv
          obtain ⟨u106, hinv⟩ := hinv
          obtain ⟨u107, hinv⟩ := hinv
          obtain ⟨u108, hinv⟩ := hinv
          obtain ⟨u109, hinv⟩ := hinv
          obtain ⟨u110, hinv⟩ := hinv
          obtain ⟨u111, hinv⟩ := hinv
          obtain ⟨u112, hinv⟩ := hinv
          obtain ⟨u113, hinv⟩ := hinv
          obtain ⟨u114, hinv⟩ := hinv
          obtain ⟨u115, hinv⟩ := hinv
          obtain ⟨u116, hinv⟩ := hinv
          obtain ⟨u117, hinv⟩ := hinv
          obtain ⟨u118, hinv⟩ := hinv
          obtain ⟨u119, hinv⟩ := hinv
          obtain ⟨u120, hinv⟩ := hinv
          obtain ⟨u121, hinv⟩ := hinv
          obtain ⟨u122, hinv⟩ := hinv
          obtain ⟨u123, hinv⟩ := hinv
          obtain ⟨u124, hinv⟩ := hinv
          obtain ⟨u125, hinv⟩ := hinv
          obtain ⟨u126, hinv⟩ := hinv
          obtain ⟨u127, hinv⟩ := hinv
          obtain ⟨u128, hinv⟩ := hinv
          obtain ⟨u129, hinv⟩ := hinv
          obtain ⟨u130, hinv⟩ := hinv
          obtain ⟨u131, hinv⟩ := hinv
          obtain ⟨u132, hinv⟩ := hinv
          obtain ⟨u133, hinv⟩ := hinv
          obtain ⟨u134, hinv⟩ := hinv
          obtain ⟨u135, hinv⟩ := hinv
          obtain ⟨u136, hinv⟩ := hinv
          obtain ⟨u137, hinv⟩ := hinv
          obtain ⟨u138, hinv⟩ := hinv
          obtain ⟨u139, hinv⟩ := hinv
          obtain ⟨u140, hinv⟩ := hinv
          obtain ⟨u141, hinv⟩ := hinv
          obtain ⟨u142, hinv⟩ := hinv
          obtain ⟨u143, hinv⟩ := hinv
          obtain ⟨u144, hinv⟩ := hinv
          obtain ⟨u145, hinv⟩ := hinv
          obtain ⟨u146, hinv⟩ := hinv
          obtain ⟨u147, hinv⟩ := hinv
          obtain ⟨u148, hinv⟩ := hinv
          obtain ⟨u149, hinv⟩ := hinv
          obtain ⟨u150, hinv⟩ := hinv
          obtain ⟨u151, hinv⟩ := hinv
          obtain ⟨u152, hinv⟩ := hinv
          obtain ⟨u153, hinv⟩ := hinv
          obtain ⟨u154, hinv⟩ := hinv
          obtain ⟨u155, hinv⟩ := hinv
          obtain ⟨u156, hinv⟩ := hinv
          obtain ⟨u157, hinv⟩ := hinv
          obtain ⟨u158, hinv⟩ := hinv
          obtain ⟨u159, hinv⟩ := hinv
          obtain ⟨u160, hinv⟩ := hinv
          obtain ⟨u161, hinv⟩ := hinv
          obtain ⟨u162, hinv⟩ := hinv
          obtain ⟨u163, hinv⟩ := hinv
          obtain ⟨ds, hcut, ha⟩ := hinv
          subst ha
          try dsimp only
          obtain ⟨Ds', hds', hth⟩ := hcut
          have H4 := Lib.hid hth
          have HDS' := Lib.hid hds'
          clear hth hds' HDS H3
          have c0 := H4.out.box.get 0 rfl
          have c1 := H4.out.box.get 1 rfl
          have c2 := H4.out.box.get 2 rfl
          have k0 := HV.out.2.2.1
          have k1 := HV.out.2.2.2
          have hk3 : k % 3 = 0 ∨ k % 3 = 1 ∨ k % 3 = 2 := by omega
          have e5 : wrap64 ((i : Int) + 1) = ((i + 1 : Nat) : Int) := by have := HN.out; have := HI.out; unfold wrap64; omega
          have HI6 := Lib.hid (show i < 1000000 by have := HN.out; have := HI.out; omega)
          have HGM := Lib.hid hi
          clear hi
          rcases hk3 with hk3 | hk3 | hk3
          · as_aux_lemma =>
              have hkm : k.tmod 3 = 0 := by rw [Int.tmod_eq_emod_of_nonneg k0]; exact hk3
              have PA := Lib.hid (th_put H4.out id x HV.out.1 HI6.out)
              obtain ⟨E, hE⟩ : ∃ y, askE L id false = y := ⟨_, rfl⟩
              rw [hE] at PA
              have HEE := Lib.hid hE
              clear hk3 hE
              go_wp2_with fail
              with_reducible refine PA.out.mono ?_
              rintro e wa ⟨rfl, S', hth⟩
              have H5 := Lib.hid hth
              have PB := Lib.hid (th_rput H5.out H4.out.tb.ok id x)
              rw [HEE.out] at PB
              clear hth c0 c1 c2 PA
              have c0 := H5.out.box.get 0 rfl
              have c1 := H5.out.box.get 1 rfl
              have c2 := H5.out.box.get 2 rfl
              go_wp2_with fail
              with_reducible refine PB.out.mono ?_
              rintro e wb ⟨rfl, v', hth⟩
              have H6 := Lib.hid hth
              clear hth c0 c1 c2 PB H5
              have c3 := H6.out.box.get 3 rfl
              go_wp2_with fail
              with_reducible refine (th_same H6.out q HV.out.2.1.1).mono ?_
              rintro e wd ⟨rfl, hth⟩
              have H7 := Lib.hid hth
              clear hth c3 H6
              go_wp2
              go_roundg gm
              case rel => exact ⟨i + 1, _, _, _, _, Ds', _, _, by have := HGM.out; omega, by go_num, HDS'.out, H7.out⟩
              case measure => omega
          · as_aux_lemma =>
              have hkm : k.tmod 3 = 1 := by rw [Int.tmod_eq_emod_of_nonneg k0]; exact hk3
              have PA := Lib.hid (th_set H4.out id x HV.out.1)
              obtain ⟨E, hE⟩ : ∃ y, askE L id true = y := ⟨_, rfl⟩
              rw [hE] at PA
              have HEE := Lib.hid hE
              clear hk3 hE
              go_wp2_with fail
              with_reducible refine PA.out.mono ?_
              rintro e wa ⟨rfl, hth⟩
              have H5 := Lib.hid hth
              have PB := Lib.hid (th_rset H5.out H4.out.tb.ok id x)
              rw [HEE.out] at PB
              clear hth c0 c1 c2 PA
              have c0 := H5.out.box.get 0 rfl
              have c1 := H5.out.box.get 1 rfl
              have c2 := H5.out.box.get 2 rfl
              go_wp2_with fail
              with_reducible refine PB.out.mono ?_
              rintro e wb ⟨rfl, v', hth⟩
              have H6 := Lib.hid hth
              clear hth c0 c1 c2 PB H5
              have c3 := H6.out.box.get 3 rfl
              go_wp2_with fail
              with_reducible refine (th_same H6.out q HV.out.2.1.1).mono ?_
              rintro e wd ⟨rfl, hth⟩
              have H7 := Lib.hid hth
              clear hth c3 H6
              go_wp2
              go_roundg gm
              case rel => exact ⟨i + 1, _, _, _, _, Ds', _, _, by have := HGM.out; omega, by go_num, HDS'.out, H7.out.mono (Nat.le_succ _)⟩
              case measure => omega
          · as_aux_lemma =>
              have hkm : k.tmod 3 = 2 := by rw [Int.tmod_eq_emod_of_nonneg k0]; exact hk3
              have PA := Lib.hid (th_drop H4.out id)
              obtain ⟨E, hE⟩ : ∃ y, askE L id true = y := ⟨_, rfl⟩
              rw [hE] at PA
              have HEE := Lib.hid hE
              clear hk3 hE
              go_wp2_with fail
              with_reducible refine PA.out.mono ?_
              rintro e wa ⟨rfl, hth⟩
              have H5 := Lib.hid hth
              have PB := Lib.hid (th_rdrop H5.out H4.out.tb.ok id)
              rw [HEE.out] at PB
              clear hth c0 c1 c2 PA
              have c0 := H5.out.box.get 0 rfl
              have c1 := H5.out.box.get 1 rfl
              have c2 := H5.out.box.get 2 rfl
              go_wp2_with fail
              with_reducible refine PB.out.mono ?_
              rintro e wb ⟨rfl, v', hth⟩
              have H6 := Lib.hid hth
              clear hth c0 c1 c2 PB H5
              have c3 := H6.out.box.get 3 rfl
              go_wp2_with fail
              with_reducible refine (th_same H6.out q HV.out.2.1.1).mono ?_
              rintro e wd ⟨rfl, hth⟩
              have H7 := Lib.hid hth
              clear hth c3 H6
              go_wp2
              go_roundg gm
              case rel => exact ⟨i + 1, _, _, _, _, Ds', _, _, by have := HGM.out; omega, by go_num, HDS'.out, H7.out.mono (Nat.le_succ _)⟩
              case measure => omega
      · obtain rfl : gk = 0 := by omega
        obtain rfl : i = n := by omega
        have cR := HTR.out.res.get 0 rfl
        have fR := HTR.out.res.frozen 0
        clear hlt hi
        go_wp2
        refine marks_ret (B := w.heap.size) Ds HDS.out (fun D hD => ⟨Nat.le_of_lt (HTR.out.marks D hD).1, by rw [Below.heap_setCell _ _ _ _ (show D ≠ w.heap.size by have := (HTR.out.marks D hD).1; omega)]; exact (HTR.out.marks D hD).2.1⟩) HTR.out.nodup ?_
        intro w' hs
        have HBF := HTR.out.below.setCell (p := ⟨w.heap.size, 0, none⟩) (Nat.le_refl _) (.bool true)
        have hr := Blk.get ((HTR.out.res.put 0 (.bool true)).stays hs) 0 rfl
        refine ⟨.bool true, by simp [results, Tryd.results6, go_sem, hr]; try rfl, rfl, below_stays HBF hs (Nat.le_refl _)⟩

end Go.Proofs.YtddehgcdflfonaaDoor
