/-
  A family: one comes, one goes.
-/
import Derived.Test.YtjhffbhjiflfeaaGreatVirtG
namespace Go.Proofs.YtjhffbhjiflfeaaGreat
set_option linter.unusedVariables false
set_option linter.unusedSimpArgs false
set_option maxRecDepth 100000
open Go.RowKit Go.Shelf

def dropM (id : Int) : List Mem → List Mem
  | [] => []
  | x :: Ms => if x.id = id then Ms else x :: dropM id Ms
theorem famM_drop (id : Int) : ∀ Ms : List Mem, famM (dropM id Ms) = mdel id (famM Ms)
  | [] => rfl
  | x :: Ms => by
    show famM (if x.id = id then Ms else x :: dropM id Ms) = (if x.id = id then famM Ms else (x.id, mptr x) :: mdel id (famM Ms))
    split
    · rfl
    · show (x.id, mptr x) :: famM (dropM id Ms) = _; rw [famM_drop id Ms]
theorem dropM_sub (id : Int) : ∀ Ms : List Mem, (dropM id Ms).Sublist Ms
  | [] => List.Sublist.refl _
  | x :: Ms => by
    unfold dropM
    split
    · exact List.sublist_cons_self ..
    · exact (dropM_sub id Ms).cons_cons x
/-- Where only the map's own block is turned. -/
theorem MemAt.map {w w' : World} {x : Mem} {mb : Nat} {M : IMap} (h : MemAt w x) (hm : MpAt w mb M) (hf : Fr (fun k => k = mb) w w') : MemAt w' x := by
  refine ⟨h.1.fr hf (fun e => hm.ne h.1 e.symm), h.2.fr hf ?_ ?_ ?_⟩
  · obtain ⟨c, hc⟩ := h.2.parts.1
    exact fun e => hm.ne hc e.symm
  · rcases h.2.parts.2 with ⟨c, hc⟩ | ⟨c, hc⟩
    · exact fun e => hm.ne hc e.symm
    · exact fun e => hm.ne hc e.symm
  · intro b cs hc e
    exact hm.ne hc e.symm
theorem FamAt.drop {w w' : World} {f mb : Nat} {mark id : Int} {Ms : List Mem} (h : FamAt w f mb mark Ms) (hm : MpAt w' mb (mdel id (famM Ms))) (hf : Fr (fun k => k = mb) w w') : FamAt w' f mb mark (dropM id Ms) :=
  ⟨h.blk.fr hf (fun e => h.map.ne h.blk e.symm), by rw [famM_drop]; exact hm, fun x hx => (h.mem x ((dropM_sub id Ms).subset hx)).map h.map hf, h.nm.sublist ((dropM_sub id Ms).map _), h.nq.sublist ((dropM_sub id Ms).map _)⟩

set_option maxHeartbeats 4000000 in
theorem vdrop_none (f mb : Nat) (mark id : Int) (Ms : List Mem) (w : World) (h : FamAt w f mb mark Ms) (hf : fnd id Ms = none) :
    Calls Tryz.prog 11 #[.pointer (some ⟨f, 0, none⟩), .int .i64 id] w fun e w' => e = .returned (.bool false) ∧ w = w' := by
  have AT := Lib.hid (vat_any f mb mark id Ms w h)
  rw [hf] at AT
  clear h hf
  go_enter Tryz.func11, Tryz.ntmps11
  go_wp2_with fail
  with_reducible refine (AT.out).mono ?_
  rintro e wx ⟨rfl, rfl⟩
  simp only [optP]
  go_wp2_with fail
  go_ret
  exact ⟨by simp, rfl⟩
set_option maxHeartbeats 4000000 in
theorem vdrop_some (f mb : Nat) (mark id : Int) (Ms : List Mem) (x : Mem) (w : World) (h : FamAt w f mb mark Ms) (hf : fnd id Ms = some x) :
    Calls Tryz.prog 11 #[.pointer (some ⟨f, 0, none⟩), .int .i64 id] w fun e w' => e = .returned (.bool true) ∧ FamAt w' f mb mark (dropM id Ms) ∧ Fr (fun k => k = mb) w w' := by
  have AT : Hid (Calls Tryz.prog 32 #[.pointer (some ⟨f, 0, none⟩), .int .i64 id] w fun e w' => e = .returned (.pointer (some ⟨x.m, 0, none⟩)) ∧ w = w') := by
    have := vat_any f mb mark id Ms w h
    rw [hf] at this
    exact this
  have c0 := h.blk.get 0 rfl
  obtain ⟨wb, hrun, hmb, hfb⟩ := h.map.drop (ty := 0) (ts := #[41, 3]) rfl fam_desc fint_desc id
  have HB := Lib.hid (And.intro (h.drop hmb hfb) hfb)
  clear h hf hmb hfb
  go_enter Tryz.func11, Tryz.ntmps11
  go_wp2_with fail
  with_reducible refine (AT.out).mono ?_
  rintro e wx ⟨rfl, rfl⟩
  go_wp2_with fail
  go_ret
  exact ⟨by simp, HB.out.1, HB.out.2⟩
set_option maxHeartbeats 4000000 in
theorem vgain_none (f mb : Nat) (mark id g : Int) (Ms : List Mem) (w : World) (h : FamAt w f mb mark Ms) (hf : fnd id Ms = none) :
    Calls Tryz.prog 17 #[.pointer (some ⟨f, 0, none⟩), .int .i64 id, .int .u64 g] w fun e w' => e = .returned (.tuple #[]) ∧ w = w' := by
  have AT := Lib.hid (vat_any f mb mark id Ms w h)
  rw [hf] at AT
  clear h hf
  go_enter Tryz.func17, Tryz.ntmps17
  go_wp2_with fail
  with_reducible refine (AT.out).mono ?_
  rintro e wx ⟨rfl, rfl⟩
  simp only [optP]
  go_wp2_with fail
  refine bodyPost_ret (results_none rfl _ _ _) rfl ?_
  exact ⟨rfl, rfl⟩

/-! ### One comes -/
theorem map_some_eq (b : Nat) (w : World) : (binOp BinOp.eql 41 (.map (some b)) (.map none)).run Tryz.prog w = .ok (.bool false) w := by kernel_rfl
theorem map_none_eq (w : World) : (binOp BinOp.eql 41 (.map none) (.map none)).run Tryz.prog w = .ok (.bool true) w := by kernel_rfl
def newM (id : Int) (m p q : Nat) (F L R : Int) : Mem := ⟨id, m, p, q, 0, 0, false, RS.new F L R⟩
theorem mput_none {k : Int} {v : Value} : ∀ {M : IMap}, mget k M = none → mput k v M = M ++ [(k, v)]
  | [], _ => rfl
  | p :: M, h => by
    unfold mget at h
    split at h
    · cases h
    · rename_i hn
      unfold mput
      rw [if_neg hn, mput_none h]
      rfl
set_option maxHeartbeats 4000000 in
theorem vadd_here (f mb : Nat) (mark id : Int) (Ms : List Mem) (x : Mem) (F L R : Int) (w : World) (h : FamAt w f mb mark Ms) (hf : fnd id Ms = some x) :
    Calls Tryz.prog 9 #[.pointer (some ⟨f, 0, none⟩), .int .i64 id, .agg #[.int .u64 F, .int .u64 L, .int .u64 R]] w fun e w' => e = .returned (.bool false) ∧ Below w.heap.size w w' := by
  have AT : Hid (∀ w', Below w.heap.size w w' → Calls Tryz.prog 32 #[.pointer (some ⟨f, 0, none⟩), .int .i64 id] w' fun e w'' => e = .returned (.pointer (some ⟨x.m, 0, none⟩)) ∧ w' = w'') := by
    intro w' hb
    have := vat_any f mb mark id Ms w' (h.next hb)
    rw [hf] at this
    exact this
  have c0 := (h.blk.alloc (.cells #[.int .u64 F, .int .u64 L, .int .u64 R] 32)).get 0 rfl
  clear h hf
  have ME := map_some_eq mb
  go_enter Tryz.func9, Tryz.ntmps9
  go_wp2_with fail
  with_reducible refine (AT.out _ (by go_grown)).mono ?_
  rintro e wx ⟨rfl, rfl⟩
  go_wp2_with fail
  go_ret
  exact ⟨by simp, by go_grown⟩
set_option maxHeartbeats 4000000 in
theorem vadd_bad (f mb : Nat) (mark id : Int) (Ms : List Mem) (F L R : Int) (w : World) (h : FamAt w f mb mark Ms) (hf : fnd id Ms = none) (wF : Word F) (wL : Word L) (wR : Word R) (hm : mayB F L R = false) :
    Calls Tryz.prog 9 #[.pointer (some ⟨f, 0, none⟩), .int .i64 id, .agg #[.int .u64 F, .int .u64 L, .int .u64 R]] w fun e w' => e = .returned (.bool false) ∧ Below w.heap.size w w' := by
  have AT : Hid (∀ w', Below w.heap.size w w' → Calls Tryz.prog 32 #[.pointer (some ⟨f, 0, none⟩), .int .i64 id] w' fun e w'' => e = .returned (.pointer none) ∧ w' = w'') := by
    intro w' hb
    have := vat_any f mb mark id Ms w' (h.next hb)
    rw [hf] at this
    exact this
  have MA := Lib.hid (fun w => may_val F L R false w wF wL wR hm)
  have c0 := (h.blk.alloc (.cells #[.int .u64 F, .int .u64 L, .int .u64 R] 32)).get 0 rfl
  clear h hf hm
  have ME := map_some_eq mb
  go_enter Tryz.func9, Tryz.ntmps9
  go_wp2_with fail
  with_reducible refine (AT.out _ (by go_grown)).mono ?_
  rintro e wx ⟨rfl, rfl⟩
  go_wp2_with fail
  with_reducible refine (MA.out _).mono ?_
  rintro e w1 ⟨rfl, hb1⟩
  have B1 : Below w.heap.size w w1 := below_next (by go_grown) hb1
  clear hb1
  go_wp2_with fail
  go_ret
  exact ⟨by simp, B1⟩

end Go.Proofs.YtjhffbhjiflfeaaGreat

/-!
  A family: one comes.
-/
namespace Go.Proofs.YtjhffbhjiflfeaaGreat
set_option linter.unusedVariables false
set_option linter.unusedSimpArgs false
set_option maxRecDepth 100000
open Go.RowKit Go.Shelf

theorem FamAt.add {w w1 w' : World} {f mb m p q : Nat} {mark id F L R : Int} {Ms : List Mem} (h : FamAt w1 f mb mark Ms) (hw : FamAt w f mb mark Ms) (hf : fnd id Ms = none) (hm : MpAt w' mb (mput id (.pointer (some ⟨m, 0, none⟩)) (famM Ms))) (hfr : Fr (fun k => k = mb) w1 w')
    (hn : MemAt w1 (newM id m p q F L R)) (h1 : w.heap.size ≤ m) (h2 : w.heap.size ≤ q) : FamAt w' f mb mark (Ms ++ [newM id m p q F L R]) := by
  refine ⟨h.blk.fr hfr (fun e => h.map.ne h.blk e.symm), ?_, ?_, ?_, ?_⟩
  · rw [mput_none (by rw [mget_fam, hf]; rfl)] at hm
    rw [famM_app]
    exact hm
  · intro x hx
    rcases List.mem_append.1 hx with hx | hx
    · exact (h.mem x hx).map h.map hfr
    · rw [List.mem_singleton.1 hx]
      exact hn.map h.map hfr
  · rw [List.map_append, List.nodup_append]
    refine ⟨h.nm, by simp, ?_⟩
    intro a ha b hb
    obtain ⟨x, hx, rfl⟩ := List.mem_map.1 ha
    have := (hw.mem x hx).1.lt
    simp only [List.map_cons, List.map_nil, List.mem_singleton] at hb
    rw [hb]
    show x.m ≠ m
    omega
  · rw [List.map_append, List.nodup_append]
    refine ⟨h.nq, by simp, ?_⟩
    intro a ha b hb
    obtain ⟨x, hx, rfl⟩ := List.mem_map.1 ha
    have : x.q < w.heap.size := by
      rcases (hw.mem x hx).2.parts.2 with ⟨c, hc⟩ | ⟨c, hc⟩
      · exact hc.lt
      · exact hc.lt
    simp only [List.map_cons, List.map_nil, List.mem_singleton] at hb
    rw [hb]
    show x.q ≠ q
    omega

set_option maxHeartbeats 4000000 in
theorem vadd_some (f mb : Nat) (mark id : Int) (Ms : List Mem) (F L R : Int) (w : World) (h : FamAt w f mb mark Ms) (hf : fnd id Ms = none) (wF : Word F) (wL : Word L) (wR : Word R) (hm : mayB F L R = true) :
    Calls Tryz.prog 9 #[.pointer (some ⟨f, 0, none⟩), .int .i64 id, .agg #[.int .u64 F, .int .u64 L, .int .u64 R]] w fun e w' => e = .returned (.bool true) ∧
      (∃ m p q, w.heap.size ≤ m ∧ w.heap.size ≤ q ∧ FamAt w' f mb mark (Ms ++ [newM id m p q F L R])) ∧ Fr (fun k => k = mb) w w' := by
  have AT : Hid (∀ w', Below w.heap.size w w' → Calls Tryz.prog 32 #[.pointer (some ⟨f, 0, none⟩), .int .i64 id] w' fun e w'' => e = .returned (.pointer none) ∧ w' = w'') := by
    intro w' hb
    have := vat_any f mb mark id Ms w' (h.next hb)
    rw [hf] at this
    exact this
  have MA := Lib.hid (fun w => may_val F L R true w wF wL wR hm)
  have RN := Lib.hid (fun w => run_new_made F L R w wF wL wR hm)
  have c0 := (h.blk.alloc (.cells #[.int .u64 F, .int .u64 L, .int .u64 R] 32)).get 0 rfl
  have H := Lib.hid (And.intro h hf)
  clear h hf hm
  have ME := map_some_eq mb
  go_enter Tryz.func9, Tryz.ntmps9
  go_wp2_with fail
  with_reducible refine (AT.out _ (by go_grown)).mono ?_
  rintro e wx ⟨rfl, rfl⟩
  go_wp2_with fail
  with_reducible refine (MA.out _).mono ?_
  rintro e wa ⟨rfl, hba⟩
  have Ba : Below w.heap.size w wa := below_next (by go_grown) hba
  have bx : Blk wa w.heap.size 32 #[.int .u64 F, .int .u64 L, .int .u64 R] := (Blk.new w _ _).next hba
  have H1 := Lib.hid (And.intro (H.out.1.next Ba) (And.intro bx Ba))
  clear hba Ba bx c0
  go_upto_region 3 with (fail)
  have KP : Hid (∀ w', Below (wa.heap.size) wa w' → (w'.cell? ⟨f, 0, none⟩ = some (.map (some mb)) ∧ w'.cell? ⟨w.heap.size, 0, none⟩ = some (.int .u64 F) ∧ w'.cell? ⟨w.heap.size, 1, none⟩ = some (.int .u64 L) ∧ w'.cell? ⟨w.heap.size, 2, none⟩ = some (.int .u64 R)) ∧ Below (wa.heap.size) wa w') := fun w' hb => ⟨⟨(H1.out.1.blk.next hb).get 0 rfl, (H1.out.2.1.next hb).get 0 rfl, (H1.out.2.1.next hb).get 1 rfl, (H1.out.2.1.next hb).get 2 rfl⟩, hb⟩
  refine wp_region_noPanic ?_
  refine wp_region_Z [9] (fun w' => (w'.cell? ⟨f, 0, none⟩ = some (.map (some mb)) ∧ w'.cell? ⟨w.heap.size, 0, none⟩ = some (.int .u64 F) ∧ w'.cell? ⟨w.heap.size, 1, none⟩ = some (.int .u64 L) ∧ w'.cell? ⟨w.heap.size, 2, none⟩ = some (.int .u64 R)) ∧ Below (wa.heap.size) wa w') (by kernel_rfl) (KP.out _ (below_of_drew ((Below.refl wa.heap.size wa)))) (fun hH => ?_)
  have hbR := below_of_drew ((Below.refl wa.heap.size wa))
  first | (refine wpAnyZ_take (i := 0) (v := undef) rfl ?_ ?_ ?_ ?_ (fun _ _ _ h => h) ?_ ?_ ?_; kernel_rfl; kernel_rfl; kernel_rfl; kernel_rfl; exact Or.inr ⟨by rfl, rfl⟩; exact hH) | (refine wpAnyZ_take (i := 0) (v := ?_) rfl ?_ ?_ ?_ ?_ (fun _ _ _ h => h) ?_ ?_ ?_; rotate_left; kernel_rfl; kernel_rfl; kernel_rfl; kernel_rfl; (focus (refine Or.inl ⟨by rfl, ?_⟩; intro w' hSw; (try dsimp only at hSw); go_simp)); exact hH) | (refine wpAnyZ_take (i := 0) (v := ?_) rfl ?_ ?_ ?_ ?_ (fun _ _ _ h => h) ?_ ?_ ?_; rotate_left; kernel_rfl; kernel_rfl; kernel_rfl; kernel_rfl; (focus (refine Or.inl ⟨by rfl, ?_⟩; intro w' hSw; (try dsimp only at hSw); go_simp; with_reducible rfl)); exact hH)
  try simp only [Act.put, List.getElem_toArray, List.getElem_cons_succ, List.getElem_cons_zero, List.setIfInBounds_toArray, List.set_cons_zero, List.set_cons_succ]
  first | (refine wpAnyZ_take (i := 1) (v := undef) rfl ?_ ?_ ?_ ?_ (fun _ _ _ h => h) ?_ ?_ ?_; kernel_rfl; kernel_rfl; kernel_rfl; kernel_rfl; exact Or.inr ⟨by rfl, rfl⟩; exact hH) | (refine wpAnyZ_take (i := 1) (v := ?_) rfl ?_ ?_ ?_ ?_ (fun _ _ _ h => h) ?_ ?_ ?_; rotate_left; kernel_rfl; kernel_rfl; kernel_rfl; kernel_rfl; (focus (refine Or.inl ⟨by rfl, ?_⟩; intro w' hSw; (try dsimp only at hSw); go_simp)); exact hH) | (refine wpAnyZ_take (i := 1) (v := ?_) rfl ?_ ?_ ?_ ?_ (fun _ _ _ h => h) ?_ ?_ ?_; rotate_left; kernel_rfl; kernel_rfl; kernel_rfl; kernel_rfl; (focus (refine Or.inl ⟨by rfl, ?_⟩; intro w' hSw; (try dsimp only at hSw); go_simp; with_reducible rfl)); exact hH)
  try simp only [Act.put, List.getElem_toArray, List.getElem_cons_succ, List.getElem_cons_zero, List.setIfInBounds_toArray, List.set_cons_zero, List.set_cons_succ]
  first | (refine wpAnyZ_take (i := 2) (v := undef) rfl ?_ ?_ ?_ ?_ (fun _ _ _ h => h) ?_ ?_ ?_; kernel_rfl; kernel_rfl; kernel_rfl; kernel_rfl; exact Or.inr ⟨by rfl, rfl⟩; exact hH) | (refine wpAnyZ_take (i := 2) (v := ?_) rfl ?_ ?_ ?_ ?_ (fun _ _ _ h => h) ?_ ?_ ?_; rotate_left; kernel_rfl; kernel_rfl; kernel_rfl; kernel_rfl; (focus (refine Or.inl ⟨by rfl, ?_⟩; intro w' hSw; (try dsimp only at hSw); go_simp)); exact hH) | (refine wpAnyZ_take (i := 2) (v := ?_) rfl ?_ ?_ ?_ ?_ (fun _ _ _ h => h) ?_ ?_ ?_; rotate_left; kernel_rfl; kernel_rfl; kernel_rfl; kernel_rfl; (focus (refine Or.inl ⟨by rfl, ?_⟩; intro w' hSw; (try dsimp only at hSw); go_simp; with_reducible rfl)); exact hH)
  try simp only [Act.put, List.getElem_toArray, List.getElem_cons_succ, List.getElem_cons_zero, List.setIfInBounds_toArray, List.set_cons_zero, List.set_cons_succ]
  first | (refine wpAnyZ_take (i := 3) (v := undef) rfl ?_ ?_ ?_ ?_ (fun _ _ _ h => h) ?_ ?_ ?_; kernel_rfl; kernel_rfl; kernel_rfl; kernel_rfl; exact Or.inr ⟨by rfl, rfl⟩; exact hH) | (refine wpAnyZ_take (i := 3) (v := ?_) rfl ?_ ?_ ?_ ?_ (fun _ _ _ h => h) ?_ ?_ ?_; rotate_left; kernel_rfl; kernel_rfl; kernel_rfl; kernel_rfl; (focus (refine Or.inl ⟨by rfl, ?_⟩; intro w' hSw; (try dsimp only at hSw); go_simp)); exact hH) | (refine wpAnyZ_take (i := 3) (v := ?_) rfl ?_ ?_ ?_ ?_ (fun _ _ _ h => h) ?_ ?_ ?_; rotate_left; kernel_rfl; kernel_rfl; kernel_rfl; kernel_rfl; (focus (refine Or.inl ⟨by rfl, ?_⟩; intro w' hSw; (try dsimp only at hSw); go_simp; with_reducible rfl)); exact hH)
  try simp only [Act.put, List.getElem_toArray, List.getElem_cons_succ, List.getElem_cons_zero, List.setIfInBounds_toArray, List.set_cons_zero, List.set_cons_succ]
  first | (refine wpAnyZ_take (i := 4) (v := undef) rfl ?_ ?_ ?_ ?_ (fun _ _ _ h => h) ?_ ?_ ?_; kernel_rfl; kernel_rfl; kernel_rfl; kernel_rfl; exact Or.inr ⟨by rfl, rfl⟩; exact hH) | (refine wpAnyZ_take (i := 4) (v := ?_) rfl ?_ ?_ ?_ ?_ (fun _ _ _ h => h) ?_ ?_ ?_; rotate_left; kernel_rfl; kernel_rfl; kernel_rfl; kernel_rfl; (focus (refine Or.inl ⟨by rfl, ?_⟩; intro w' hSw; (try dsimp only at hSw); go_simp)); exact hH) | (refine wpAnyZ_take (i := 4) (v := ?_) rfl ?_ ?_ ?_ ?_ (fun _ _ _ h => h) ?_ ?_ ?_; rotate_left; kernel_rfl; kernel_rfl; kernel_rfl; kernel_rfl; (focus (refine Or.inl ⟨by rfl, ?_⟩; intro w' hSw; (try dsimp only at hSw); go_simp; with_reducible rfl)); exact hH)
  try simp only [Act.put, List.getElem_toArray, List.getElem_cons_succ, List.getElem_cons_zero, List.setIfInBounds_toArray, List.set_cons_zero, List.set_cons_succ]
  first | (refine wpAnyZ_take (i := 5) (v := undef) rfl ?_ ?_ ?_ ?_ (fun _ _ _ h => h) ?_ ?_ ?_; kernel_rfl; kernel_rfl; kernel_rfl; kernel_rfl; exact Or.inr ⟨by rfl, rfl⟩; exact hH) | (refine wpAnyZ_take (i := 5) (v := ?_) rfl ?_ ?_ ?_ ?_ (fun _ _ _ h => h) ?_ ?_ ?_; rotate_left; kernel_rfl; kernel_rfl; kernel_rfl; kernel_rfl; (focus (refine Or.inl ⟨by rfl, ?_⟩; intro w' hSw; (try dsimp only at hSw); go_simp)); exact hH) | (refine wpAnyZ_take (i := 5) (v := ?_) rfl ?_ ?_ ?_ ?_ (fun _ _ _ h => h) ?_ ?_ ?_; rotate_left; kernel_rfl; kernel_rfl; kernel_rfl; kernel_rfl; (focus (refine Or.inl ⟨by rfl, ?_⟩; intro w' hSw; (try dsimp only at hSw); go_simp; with_reducible rfl)); exact hH)
  try simp only [Act.put, List.getElem_toArray, List.getElem_cons_succ, List.getElem_cons_zero, List.setIfInBounds_toArray, List.set_cons_zero, List.set_cons_succ]
  refine wpAnyZ_ready (rs := [6]) (by kernel_rfl) (by simp) ?_
  refine (AllReadyZ.cons rfl (fun K hK => ?_) AllReadyZ.nil)
  go_simp
  with_reducible refine (RN.out _).mono ?_
  rintro e w1 ⟨p, q, rfl, hp, hq, hr, hb1⟩
  have hz1 : Below wa.heap.size wa w1 := below_next hH.2 hb1
  have HR := Lib.hid (And.intro hr (And.intro (Nat.le_trans hH.2.size hq) hz1))
  clear hp hq hr hb1
  have hH1 := KP.out _ hz1
  refine hK.out _ _ (fun _ => hH1) ?_
  clear hK K hH
  have hH := hH1
  clear hH1
  try simp only [Act.put, List.getElem_toArray, List.getElem_cons_succ, List.getElem_cons_zero, List.setIfInBounds_toArray, List.set_cons_zero, List.set_cons_succ]
  first | (refine wpAnyZ_take (i := 7) (v := undef) rfl ?_ ?_ ?_ ?_ (fun _ _ _ h => h) ?_ ?_ ?_; kernel_rfl; kernel_rfl; kernel_rfl; kernel_rfl; exact Or.inr ⟨by rfl, rfl⟩; exact hH) | (refine wpAnyZ_take (i := 7) (v := ?_) rfl ?_ ?_ ?_ ?_ (fun _ _ _ h => h) ?_ ?_ ?_; rotate_left; kernel_rfl; kernel_rfl; kernel_rfl; kernel_rfl; (focus (refine Or.inl ⟨by rfl, ?_⟩; intro w' hSw; (try dsimp only at hSw); go_simp)); exact hH) | (refine wpAnyZ_take (i := 7) (v := ?_) rfl ?_ ?_ ?_ ?_ (fun _ _ _ h => h) ?_ ?_ ?_; rotate_left; kernel_rfl; kernel_rfl; kernel_rfl; kernel_rfl; (focus (refine Or.inl ⟨by rfl, ?_⟩; intro w' hSw; (try dsimp only at hSw); go_simp; with_reducible rfl)); exact hH)
  try simp only [Act.put, List.getElem_toArray, List.getElem_cons_succ, List.getElem_cons_zero, List.setIfInBounds_toArray, List.set_cons_zero, List.set_cons_succ]
  refine wpAnyZ_ready (rs := [8]) (by kernel_rfl) (by simp) ?_
  refine (AllReadyZ.cons rfl (fun K hK => ?_) AllReadyZ.nil)
  go_simp
  have MBb2 : Blk (w1.alloc (.cells #[.int .u64 0, .int .u64 0, .pointer (some ⟨p, 0, none⟩), .bool false] 70)) (w1.heap.size) 70 #[.int .u64 0, .int .u64 0, .pointer (some ⟨p, 0, none⟩), .bool false] := Blk.new_at (by simp)
  have QGMB : wa.heap.size ≤ w1.heap.size := Nat.le_trans (Below.size (hz1)) (Nat.le_of_eq (by simp))
  have hb2 := Below.alloc (hz1) (Below.size (hz1)) (.cells #[.int .u64 0, .int .u64 0, .pointer (some ⟨p, 0, none⟩), .bool false] 70)
  have hH2 := KP.out _ hb2
  refine hK.out _ _ (fun _ => hH2) ?_
  clear hK K hH
  have hH := hH2
  clear hH2
  try simp only [Act.put, List.getElem_toArray, List.getElem_cons_succ, List.getElem_cons_zero, List.setIfInBounds_toArray, List.set_cons_zero, List.set_cons_succ]
  refine wpAnyZ_ready (rs := [9]) (by kernel_rfl) (by simp) ?_
  refine (AllReadyZ.cons rfl (fun K hK => ?_) AllReadyZ.nil)
  obtain ⟨wz, hrun3, hmp3, hfr3⟩ := ((H1.out.1.next hb2).map).store fam_desc fint_desc id (.pointer (some ⟨(w1.heap.size), 0, none⟩))
  go_simp
  have HS := Lib.hid (And.intro hmp3 (And.intro hfr3 (And.intro (H1.out.1.next hb2) (And.intro MBb2 (And.intro (RunAt.next HR.out.1 ((Below.refl _ _).alloc (Nat.le_refl _) (.cells #[.int .u64 0, .int .u64 0, .pointer (some ⟨p, 0, none⟩), .bool false] 70))) (And.intro (Nat.le_trans H1.out.2.2.size HR.out.2.2.size) hb2))))))
  clear hmp3 hfr3 hrun3
  refine hK.out _ _ (fun h => absurd (by simp) h) ?_
  clear hK K
  try simp only [Act.put, List.getElem_toArray, List.getElem_cons_succ, List.getElem_cons_zero, List.setIfInBounds_toArray, List.set_cons_zero, List.set_cons_succ]
  refine wpAnyZ_done (by kernel_rfl) ?_ _
  refine NoPanic.normal ?_
  skip
  try clear hH
  clear KP
  go_wp2_with fail
  go_ret
  obtain ⟨hmp, hfr, hfam, hmb, hrun, hsz, hbl⟩ := HS.out
  have hq := HR.out.2.1
  have hFr : Fr (fun k => k = mb) w wz := (Fr.of_new (S := fun k => k = mb) H1.out.2.2).trans ((Fr.of_new (S := fun k => k = mb) hbl).trans hfr)
  exact ⟨by simp, ⟨_, p, q, hsz, Nat.le_trans H1.out.2.2.size hq, FamAt.add hfam H.out.1 H.out.2 hmp hfr ⟨hmb, hrun⟩ hsz (Nat.le_trans H1.out.2.2.size hq)⟩, hFr⟩

end Go.Proofs.YtjhffbhjiflfeaaGreat
