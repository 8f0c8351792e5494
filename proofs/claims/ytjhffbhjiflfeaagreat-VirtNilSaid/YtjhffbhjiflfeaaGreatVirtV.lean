/-
  Families that nobody made: nil, and empty ones.
-/
import Derived.Test.YtjhffbhjiflfeaaGreatVirtP
namespace Go.Proofs.YtjhffbhjiflfeaaGreat
set_option linter.unusedVariables false
set_option linter.unusedSimpArgs false
set_option maxRecDepth 100000
open Go.RowKit Go.Shelf

/-- Nobody made this. -/
def NoF (w : World) (p : Value) : Prop := p = .pointer none ∨ ∃ b, p = .pointer (some ⟨b, 0, none⟩) ∧ Blk w b 43 #[.map none, .int .u64 0]
theorem NoF.next {w w' : World} {p : Value} (h : NoF w p) (hb : Below w.heap.size w w') : NoF w' p := h.imp id (fun ⟨b, e, k⟩ => ⟨b, e, k.next hb⟩)

set_option maxHeartbeats 2000000 in
theorem nf_at (p : Value) (id : Int) (w : World) (h : NoF w p) : Calls Tryz.prog 32 #[p, .int .i64 id] w fun e w' => e = .returned (.pointer none) ∧ w = w' := by
  rcases h with rfl | ⟨b, rfl, hb⟩
  · go_enter Tryz.func32, Tryz.ntmps32
    go_wp2_with fail
    go_ret
    exact ⟨by simp, rfl⟩
  · have LK := (look_nil (P := Tryz.prog) (w := w) fam_desc fint_desc (mem_zero w) id).2
    have c0 := hb.get 0 rfl
    clear hb
    go_enter Tryz.func32, Tryz.ntmps32
    go_wp2_with fail
    go_ret
    exact ⟨by simp, rfl⟩
set_option maxHeartbeats 2000000 in
theorem nf_drop (p : Value) (id : Int) (w : World) (h : NoF w p) : Calls Tryz.prog 11 #[p, .int .i64 id] w fun e w' => e = .returned (.bool false) ∧ w = w' := by
  have AT := Lib.hid (nf_at p id w h)
  clear h
  go_enter Tryz.func11, Tryz.ntmps11
  go_wp2_with fail
  with_reducible refine (AT.out).mono ?_
  rintro e wx ⟨rfl, rfl⟩
  go_wp2_with fail
  go_ret
  exact ⟨by simp, rfl⟩
set_option maxHeartbeats 2000000 in
theorem nf_wake (p : Value) (id : Int) (w : World) (h : NoF w p) : Calls Tryz.prog 13 #[p, .int .i64 id] w fun e w' => e = .returned (.tuple #[]) ∧ w = w' := by
  have AT := Lib.hid (nf_at p id w h)
  clear h
  go_enter Tryz.func13, Tryz.ntmps13
  go_wp2_with fail
  with_reducible refine (AT.out).mono ?_
  rintro e wx ⟨rfl, rfl⟩
  go_wp2_with fail
  refine bodyPost_ret (results_none rfl _ _ _) rfl ?_
  exact ⟨rfl, rfl⟩
set_option maxHeartbeats 2000000 in
theorem nf_gain (p : Value) (id g : Int) (w : World) (h : NoF w p) : Calls Tryz.prog 17 #[p, .int .i64 id, .int .u64 g] w fun e w' => e = .returned (.tuple #[]) ∧ w = w' := by
  have AT := Lib.hid (nf_at p id w h)
  clear h
  go_enter Tryz.func17, Tryz.ntmps17
  go_wp2_with fail
  with_reducible refine (AT.out).mono ?_
  rintro e wx ⟨rfl, rfl⟩
  go_wp2_with fail
  refine bodyPost_ret (results_none rfl _ _ _) rfl ?_
  exact ⟨rfl, rfl⟩
set_option maxHeartbeats 2000000 in
theorem nf_sleep (p : Value) (id : Int) (w : World) (h : NoF w p) : Calls Tryz.prog 15 #[p, .int .i64 id] w fun e w' => e = .returned (.tuple #[]) ∧ w = w' := by
  have AT := Lib.hid (nf_at p id w h)
  clear h
  go_enter Tryz.func15, Tryz.ntmps15
  go_wp2_with fail
  with_reducible refine (AT.out).mono ?_
  rintro e wx ⟨rfl, rfl⟩
  go_wp2_with fail
  first | go_ret | go_end0
  exact ⟨rfl, rfl⟩
set_option maxHeartbeats 2000000 in
theorem nf_awake (p : Value) (id : Int) (w : World) (h : NoF w p) : Calls Tryz.prog 21 #[p, .int .i64 id] w fun e w' => e = .returned (.bool false) ∧ w = w' := by
  have AT := Lib.hid (nf_at p id w h)
  clear h
  go_enter Tryz.func21, Tryz.ntmps21
  go_wp2_with fail
  with_reducible refine (AT.out).mono ?_
  rintro e wx ⟨rfl, rfl⟩
  go_wp2_with fail
  go_ret
  exact ⟨by simp, rfl⟩
set_option maxHeartbeats 2000000 in
theorem nf_v (p : Value) (id : Int) (w : World) (h : NoF w p) : Calls Tryz.prog 22 #[p, .int .i64 id] w fun e w' => e = .returned (.int .u64 0) ∧ w = w' := by
  have AT := Lib.hid (nf_at p id w h)
  clear h
  go_enter Tryz.func22, Tryz.ntmps22
  go_wp2_with fail
  with_reducible refine (AT.out).mono ?_
  rintro e wx ⟨rfl, rfl⟩
  go_wp2_with fail
  go_ret
  exact ⟨by simp, rfl⟩
set_option maxHeartbeats 2000000 in
theorem nf_total (p : Value) (id : Int) (w : World) (h : NoF w p) : Calls Tryz.prog 23 #[p, .int .i64 id] w fun e w' => e = .returned (.int .u64 0) ∧ w = w' := by
  have AT := Lib.hid (nf_at p id w h)
  clear h
  go_enter Tryz.func23, Tryz.ntmps23
  go_wp2_with fail
  with_reducible refine (AT.out).mono ?_
  rintro e wx ⟨rfl, rfl⟩
  go_wp2_with fail
  go_ret
  exact ⟨by simp, rfl⟩
set_option maxHeartbeats 2000000 in
theorem nf_mark (p : Value) (w : World) (h : NoF w p) : Calls Tryz.prog 24 #[p] w fun e w' => e = .returned (.int .u64 0) ∧ w = w' := by
  rcases h with rfl | ⟨b, rfl, hb⟩
  · go_enter Tryz.func24, Tryz.ntmps24
    go_wp2_with fail
    go_ret
    exact ⟨by simp, rfl⟩
  · have c1 := hb.get 1 rfl
    clear hb
    go_enter Tryz.func24, Tryz.ntmps24
    go_wp2_with fail
    go_ret
    exact ⟨by simp, rfl⟩
set_option maxHeartbeats 2000000 in
theorem nf_add (p : Value) (id F L R : Int) (w : World) (h : NoF w p) : Calls Tryz.prog 9 #[p, .int .i64 id, .agg #[.int .u64 F, .int .u64 L, .int .u64 R]] w fun e w' => e = .returned (.bool false) ∧ Below w.heap.size w w' := by
  rcases h with rfl | ⟨b, rfl, hb⟩
  · go_enter Tryz.func9, Tryz.ntmps9
    go_wp2_with fail
    go_ret
    exact ⟨by simp, by go_grown⟩
  · have c0 := (hb.alloc (.cells #[.int .u64 F, .int .u64 L, .int .u64 R] 32)).get 0 rfl
    clear hb
    have ME := map_none_eq
    go_enter Tryz.func9, Tryz.ntmps9
    go_wp2_with fail
    go_ret
    exact ⟨by simp, by go_grown⟩
set_option maxHeartbeats 2000000 in
theorem nf_copy (w : World) : Calls Tryz.prog 19 #[.pointer none] w fun e w' => e = .returned (.pointer none) ∧ w = w' := by
  go_enter Tryz.func19, Tryz.ntmps19
  go_wp2_with fail
  go_ret
  exact ⟨by simp, rfl⟩

/-! ### Their ids -/
set_option maxHeartbeats 4000000 in
theorem nf_yields (b B0 : Nat) : YieldsP Tryz.prog 64 #[.pointer (some ⟨B0, 0, none⟩)] ([] : List Mem) encU
    (fun W => Blk W b 43 #[.map none, .int .u64 0] ∧ Blk W B0 24 #[.pointer (some ⟨b, 0, none⟩)]) := by
  intro l J Jx W hJ hJx hS hY h0
  have H1 := Lib.hid (hJ [] _ (W.alloc (.mapIter none 0 #[] 0)) h0 (Stays.of_below (by go_grown) (Nat.le_refl _)))
  have cB := (hS [] W h0).2.get 0 rfl
  have c0 := (hS [] W h0).1.get 0 rfl
  have RG := range_nil (P := Tryz.prog) W fam_desc
  have NX : ∀ ty, (Instr.next (.pointer (some ⟨W.heap.size, 0, none⟩)) false ty).run Tryz.prog (W.alloc (.mapIter none 0 #[] 0)) = .ok (.tuple #[.bool false]) (W.alloc (.mapIter none 0 #[] 0)) := fun ty => run_next_nilMap W ty 0 0 #[]
  generalize W.alloc (.mapIter none 0 #[] 0) = W1 at H1 RG NX
  have HNX := Lib.hid NX
  clear hJ hJx hS hY h0 NX
  refine callsIn_of_wp Tryz.func64 rfl trivial ?_ rfl
  simp only [Tryz.ntmps64, List.size_toArray, List.length_cons, List.length_nil, Nat.reduceAdd, Nat.reduceSub, Array.replicate_succ, Array.replicate_zero, List.push_toArray, List.append_toArray, List.nil_append, List.cons_append]
  have hd : 1 ≤ 6 := by omega
  gi_wp2
  clear cB c0 RG
  gi_loopg [] 0 (fun gk wr => wr = W1)
  case atStart => exact rfl
  case round =>
    subst hrel
    have NX := HNX.out
    gi_wp2
    go_end0
    exact ⟨⟨_, rfl⟩, Or.inl ⟨[], List.Perm.refl _, H1.out⟩⟩
set_option maxHeartbeats 4000000 in
theorem nf_ids (p : Value) (w : World) (h : NoF w p) : Calls Tryz.prog 25 #[p] w fun e w' => e = .returned (.slice none 0 0) ∧ Below w.heap.size w w' := by
  rcases h with rfl | ⟨f, rfl, hb⟩
  · go_enter Tryz.func25, Tryz.ntmps25
    go_wp2_with fail
    go_ret
    exact ⟨by simp, by go_grown⟩
  · have UP := Lib.hid (fun w => vup_any f w)
    have H := Lib.hid hb
    clear hb
    refine calls_of_wp_marks Tryz.func25 rfl ?_
    simp only [Tryz.ntmps25, List.size_toArray, List.length_cons, List.length_nil, Nat.reduceAdd, Nat.reduceSub, Array.replicate_succ, Array.replicate_zero, List.push_toArray, List.append_toArray, List.nil_append, List.cons_append]
    go_wp2_with fail
    have bO := Blk.new (w.alloc (.cells #[.pointer (some ⟨f, 0, none⟩)] 24)) 47 #[.slice none 0 0]
    have hB0 : Below w.heap.size w ((w.alloc (.cells #[.pointer (some ⟨f, 0, none⟩)] 24)).alloc (.cells #[.slice none 0 0] 47)) := by go_grown
    have hsz0 : ((w.alloc (.cells #[.pointer (some ⟨f, 0, none⟩)] 24)).alloc (.cells #[.slice none 0 0] 47)).heap.size = w.heap.size + 2 := by simp
    simp only [World.size_alloc] at bO
    obtain ⟨W0, hW0⟩ : ∃ z, (w.alloc (.cells #[.pointer (some ⟨f, 0, none⟩)] 24)).alloc (.cells #[.slice none 0 0] 47) = z := ⟨_, rfl⟩
    rw [hW0] at bO hB0 hsz0 ⊢
    clear hW0
    with_reducible refine (UP.out W0).mono ?_
    rintro e W1 ⟨rfl, bU, hB1⟩
    rw [hsz0] at bU
    have hs1 : w.heap.size + 3 ≤ W1.heap.size := by have := bU.lt; omega
    have hB2 : Below w.heap.size w W1 := below_next hB0 hB1
    have H1 := Lib.hid (And.intro (bO.next hB1) (And.intro bU (And.intro hB2 hs1)))
    have HS1 := Lib.hid hsz0
    clear bO hB0 hsz0 hB1 bU hB2 hs1
    rw [HS1.out]
    go_wp2_with fail
    refine wp_rangeP (gf := 64) (lb := #[.pointer (some ⟨w.heap.size + 2, 0, none⟩)]) rfl (enters_of Tryz.func64 (by kernel_rfl) rfl) (nf_yields f (w.heap.size + 2)) (fun _ => rfl)
      (fun D W => Blk W (w.heap.size + 1) 47 #[.slice none 0 0] ∧ Blk W (w.heap.size + 2) 24 #[.pointer (some ⟨f, 0, none⟩)] ∧ Below w.heap.size w W ∧ w.heap.size + 3 ≤ W.heap.size)
      (fun _ _ _ => False) ?hI (fun _ _ _ _ h _ => h) (fun k A h => ⟨H.out.next h.2.2.1, h.2.1⟩) ?h0 ?hround ?hdone (fun _ _ _ h _ => h.elim)
    case hI =>
      rintro k A C ⟨h1, h3, h5, h6⟩ hs
      exact ⟨h1.stays hs, h3.stays hs, below_stays h5 hs (by have := H1.out.2.2.2; omega), Nat.le_trans h6 hs.size⟩
    case h0 => exact H1.out
    case hround =>
      rintro D y W ⟨R, hR⟩
      have := hR.length_eq
      simp at this
    case hdone =>
      rintro D W hperm ⟨h1, h3, h5, h6⟩ hD
      have c1 := h1.get 0 rfl
      have ST := Lib.hid (fun fv w => AnyF.slices_SortFunc_none (P := Tryz.prog) (ρ := Tryz.sortInt_ren) { Tryz.sortInt with } none 0 fv w)
      have ST2 : Hid (∀ (fv : Value) (w : World), Calls Tryz.prog 52 #[.slice none 0 0, fv] w fun e w' => e = .returned (.tuple #[]) ∧ w' = w) := ST
      have HI := Lib.hid (And.intro h5 hD)
      clear h1 h3 h5 h6 hD hperm ST
      go_wp2_with fail
      with_reducible refine (ST2.out _ W).mono ?_
      rintro e W3 ⟨rfl, rfl⟩
      go_wp2_with fail
      refine marks_ret (B := w.heap.size) [W1.heap.size] rfl (by intro D hd; simp only [List.mem_singleton] at hd; subst hd; exact ⟨by have := H1.out.2.2.2; omega, HI.out.2⟩) (by simp) ?_
      intro w' hs
      exact ⟨_, results_tmp rfl _ _ _, rfl, below_stays HI.out.1 hs (Nat.le_refl _)⟩

end Go.Proofs.YtjhffbhjiflfeaaGreat
