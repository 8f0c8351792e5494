/-
  Red-black trees in memory (h): a tree dropped from.
-/
import Derived.Test.YtjlnbpomncglcaaProg
import Derived.Test.YtjlnbpomncglcaaRBHM
namespace Go.Proofs.Ytjlnbpomncglcaa
set_option linter.unusedVariables false
set_option linter.unusedSimpArgs false
set_option maxRecDepth 100000
open Go.RowKit

def DropRH (w : World) (T : Nat) (k : RK) (t : RB (Int × Int)) (e : Ending) (w' : World) : Prop := ∃ t' : RB (Int × Int), e = .returned (.int .i64 0) ∧ TrToH w w' T t t' ∧ t'.items = del k t.items
theorem W_blackH {t : RB (Int × Int)} {n : Nat} (h : RB.W ofH minH t n) : ∃ n', RB.W ofH minH (RB.black t) n' := by
  cases t with
  | nil => exact ⟨0, rfl⟩
  | node b c l k v s r =>
    obtain ⟨h1, h2, h3, m, h4, h5, h6⟩ := h
    exact ⟨m + 1, h1, (fun e => by cases e), h3, m, h4, h5, rfl⟩
set_option maxHeartbeats 16000000 in
theorem rh_Drop_absent (T : Nat) (t : RB (Int × Int)) (k : RK) (w : World) (h : TrIsH w T t) (hg : get k t.items = none) :
    Calls Try.prog 84 #[.pointer (some ⟨T, 0, none⟩), .agg #[.int .u64 k.1, .int .i64 k.2]] w fun e w' => e = .returned (.int .i64 81) ∧ Below w.heap.size w w' := by
  have HT := Lib.hid h
  have HG := Lib.hid hg
  clear h hg
  go_enter Try.func84, Try.ntmps84
  go_upto_region 1 with (fail)
  have hb0 : Below w.heap.size w (w.alloc (.cells #[.int .u64 k.1, .int .i64 k.2] 31)) := by go_grown
  have kb := Blk.new w 31 #[.int .u64 k.1, .int .i64 k.2]
  generalize w.alloc (.cells #[.int .u64 k.1, .int .i64 k.2] 31) = wa at hb0 kb ⊢
  have HB := Lib.hid hb0
  have k0 : wa.cell? ⟨w.heap.size, 0, none⟩ = some (.int .u64 k.1) := kb.get 0 rfl
  have k1 : wa.cell? ⟨w.heap.size, 1, none⟩ = some (.int .i64 k.2) := kb.get 1 rfl
  clear hb0 kb
  go_wp2_with fail
  with_reducible refine (rh_none T wa (HT.out.tre.below HB.out)).mono ?_
  rintro e wx ⟨rfl, rfl⟩
  go_wp2_with fail
  with_reducible refine (rh_at T t k wa (HT.out.next HB.out)).mono ?_
  rintro e w1 ⟨p, rfl, hp, hb1⟩
  have HB1 := Lib.hid (HB.out.trans (hb1.mono HB.out.size))
  unfold AtIsH at hp
  rw [HG.out] at hp
  have hp : p = .pointer none := hp
  subst hp
  clear hb1 k0 k1
  go_wp2_with fail
  go_ret
  exact ⟨rfl, HB1.out⟩
set_option maxHeartbeats 16000000 in
theorem rh_Drop_is (T b : Nat) (c : Bool) (l : RB (Int × Int)) (kk : RK) (vv : Int) (s : (Int × Int)) (r : RB (Int × Int)) (k : RK) (x : Int) (w : World) (h : TrIsH w T (.node b c l kk vv s r)) (hg : get k (RB.items (.node b c l kk vv s r)) = some x) (hl : (RB.items (.node b c l kk vv s r)).length ≤ 1000000) :
    Calls Try.prog 84 #[.pointer (some ⟨T, 0, none⟩), .agg #[.int .u64 k.1, .int .i64 k.2]] w fun e w' => DropRH w T k (.node b c l kk vv s r) e w' := by
  obtain rfl : c = false := h.black
  obtain ⟨n, hn⟩ := h.well
  obtain ⟨q1, q2, q3, m, q4, q5, q6⟩ := hn
  have hpre : ∃ n1, RB.DropPre ofH minH n1 (RB.node b (!l.red) l kk vv s r) := by
    cases hlr : l.red with
    | false => exact ⟨m, b, true, l, kk, vv, s, r, m, rfl, q4, q5, Or.inl ⟨rfl, hlr, q1, rfl⟩⟩
    | true => exact ⟨m + 1, b, false, l, kk, vv, s, r, m, rfl, q4, q5, Or.inr (Or.inl ⟨rfl, hlr, q1, rfl⟩)⟩
  obtain ⟨n1, hpre⟩ := hpre
  have HPRE := Lib.hid (And.intro hpre q1)
  obtain ⟨t, ht⟩ : ∃ t, RB.node b false l kk vv s r = t := ⟨_, rfl⟩
  rw [ht] at h hg hl ⊢
  have HTT := Lib.hid ht
  have HT := Lib.hid h
  have HG := Lib.hid hg
  have HL := Lib.hid hl
  clear h hg hl ht hpre q1 q2 q3 q4 q5 q6
  go_enter Try.func84, Try.ntmps84
  go_upto_region 1 with (fail)
  have hb0 : Below w.heap.size w (w.alloc (.cells #[.int .u64 k.1, .int .i64 k.2] 31)) := by go_grown
  have kb := Blk.new w 31 #[.int .u64 k.1, .int .i64 k.2]
  generalize w.alloc (.cells #[.int .u64 k.1, .int .i64 k.2] 31) = wa at hb0 kb ⊢
  have HB := Lib.hid (And.intro hb0 kb)
  have k0 : wa.cell? ⟨w.heap.size, 0, none⟩ = some (.int .u64 k.1) := kb.get 0 rfl
  have k1 : wa.cell? ⟨w.heap.size, 1, none⟩ = some (.int .i64 k.2) := kb.get 1 rfl
  clear hb0 kb
  go_wp2_with fail
  with_reducible refine (rh_none T wa (HT.out.tre.below HB.out.1)).mono ?_
  rintro e wx ⟨rfl, rfl⟩
  go_wp2_with fail
  with_reducible refine (rh_at T t k wa (HT.out.next HB.out.1)).mono ?_
  rintro e w1 ⟨p, rfl, hp, hb1⟩
  unfold AtIsH at hp
  rw [HG.out] at hp
  obtain ⟨b9, c9, l9, s9, r9, rfl, -, -⟩ := (show ∃ (b : Nat) (c : Bool) (l : RB (Int × Int)) (s : (Int × Int)) (r : RB (Int × Int)), p = .pointer (some ⟨b, 0, none⟩) ∧ Blk w1 b 138 #[.int .u64 k.1, .int .i64 k.2, .int .u64 x, .int .u64 s.1, .int .i64 s.2, .bool c, ptrV (l : RB (Int × Int)), ptrV (r : RB (Int × Int))] ∧ b ∈ t.blocks from hp)
  have HB1 := Lib.hid (And.intro (HB.out.1.trans (hb1.mono HB.out.1.size)) (HB.out.2.next hb1))
  have HW := Lib.hid (HT.out.next HB1.out.1)
  have hrep : Blk w1 b 138 #[.int .u64 kk.1, .int .i64 kk.2, .int .u64 vv, .int .u64 s.1, .int .i64 s.2, .bool false, ptrV l, ptrV r] ∧ RepH w1 l ∧ RepH w1 r := by have := HW.out.rep; rw [← HTT.out] at this; exact this
  have HR := Lib.hid hrep
  have x0 : w1.cell? ⟨T, 2, none⟩ = some (.pointer (some ⟨b, 0, none⟩)) := by have := HW.out.blk.get 2 rfl; rw [← HTT.out] at this; exact this
  have x1 : w1.cell? ⟨b, 6, none⟩ = some (ptrV l) := hrep.1.get 6 rfl
  have x2 : w1.cell? ⟨b, 7, none⟩ = some (ptrV r) := hrep.1.get 7 rfl
  have x3 : w1.cell? ⟨b, 5, none⟩ = some (.bool false) := hrep.1.get 5 rfl
  have f3 := hrep.1.frozen 5
  have hbl : (b ∉ l.blocks ∧ b ∉ r.blocks) ∧ b ≠ T := by
    have h := HT.out.nd
    rw [← HTT.out] at h
    simp only [RB.blocks, List.nodup_cons, List.mem_append, not_or] at h
    have h2 := HT.out.out
    rw [← HTT.out] at h2
    exact ⟨h.1, fun e => h2 (by rw [← e]; exact List.mem_cons_self ..)⟩
  have HBL := Lib.hid hbl
  have hlt : ∀ x ∈ t.blocks, x < w.heap.size := fun x hx => HT.out.rep.lt x hx
  have HLT := Lib.hid (And.intro hlt (show w.heap.size ∉ t.blocks from fun hx => by have := hlt _ hx; omega))
  have hbt : ∀ x ∈ (RB.blocks (RB.node b (!l.red) l kk vv s r)), x ∈ t.blocks := fun x hx => by rw [← HTT.out]; exact hx
  have HBT := Lib.hid hbt
  clear hb1 k0 k1 hp hrep hbl hlt hbt
  go_upto_region 5 with (fail)
  go_cut [32] (fun cv wc => cv = .bool (!l.red) ∧ w1 = wc)
  case first =>
    go_wp2_with fail
    with_reducible refine (rh_is l w1 HR.out.2.1).mono ?_
    rintro e wx ⟨rfl, rfl⟩
    cases hlr : l.red with
    | true =>
      go_wp2_with fail
      go_meet
      exact ⟨by rw [hlr]; rfl, rfl⟩
    | false =>
      go_wp2_with fail
      with_reducible refine (rh_is r w1 HR.out.2.2).mono ?_
      rintro e wx ⟨rfl, rfl⟩
      go_wp2_with fail
      go_meet
      exact ⟨by rw [HPRE.out.2, hlr], rfl⟩
  case rest =>
  obtain ⟨rfl, rfl⟩ := hcut
  go_upto_if 32 with (fail)
  go_cut [] (fun wc => RepH wc (RB.node b (!l.red) l kk vv s r) ∧ Fr (fun j => j = b) w1 wc)
  case first =>
    cases hlr : l.red with
    | true =>
      go_wp2_with fail
      go_meet
      exact ⟨(by rw [hlr]; exact HR.out), Fr.refl _ _⟩
    | false =>
      go_wp2_with fail
      go_meet
      have F1 : Fr (fun j => j = b) w1 (w1.setCell ⟨b, 5, none⟩ (.bool true)) := (Fr.refl (fun j => j = b) w1).setCell (p := ⟨b, 5, none⟩) (fun _ => rfl) _
      refine ⟨?_, F1⟩
      rw [hlr]
      exact ⟨HR.out.1.put 5 _, RepH.fr F1 HR.out.2.1 (fun x hx e => HBL.out.1.1 (e ▸ hx)), RepH.fr F1 HR.out.2.2 (fun x hx e => HBL.out.1.2 (e ▸ hx))⟩
  case rest =>
  obtain ⟨hrep1, hf1⟩ := hcut
  obtain ⟨wq, rfl⟩ : ∃ x : World, x = wc := ⟨_, rfl⟩
  have hTb : ¬ T = b := fun e => HBL.out.2 e.symm
  have hkey : Blk wq w.heap.size 31 #[.int .u64 k.1, .int .i64 k.2] := HB1.out.2.fr hf1 (fun e => HLT.out.2 (by rw [e, ← HTT.out]; exact List.mem_cons_self ..))
  have HQ := Lib.hid (And.intro hrep1 (And.intro hf1 (And.intro (HW.out.blk.fr hf1 hTb) hkey)))
  clear hrep1 hf1 x0 x1 x2 x3 f3 hkey hTb
  go_upto_region 7 with (fail)
  have HIC := Lib.hid (rh_drop T k (RB.size (RB.node b (!l.red) l kk vv s r)) (RB.node b (!l.red) l kk vv s r) n1 wq.drew (Nat.le_refl _) HPRE.out.1 (fun b c l kk vv s r e hlt => by injection e with e1 e2 e3 e4 e5 e6 e7; rw [← e7]; exact HPRE.out.2) (by have := HT.out.rises; rw [← HTT.out] at this; exact this) ⟨x, by have := HG.out; rw [← HTT.out] at this; exact this⟩ (HQ.out.1.below (below_of_drew (Below.refl _ _))) (by have := HT.out.nd; rw [← HTT.out] at this; exact this) ((show TreH wq T from ⟨_, HQ.out.2.2.1, rfl, rfl⟩).below (below_of_drew (Below.refl _ _))) (by have := HT.out.out; rw [← HTT.out] at this; exact this))
  have KQ : Hid (∀ w', Fr ((fun j => j ∈ t.blocks)) wq w' → (w'.cell? ⟨w.heap.size, 0, none⟩ = some (.int .u64 k.1) ∧ w'.cell? ⟨w.heap.size, 1, none⟩ = some (.int .i64 k.2) ∧ w'.cell? ⟨T, 2, none⟩ = some (.pointer (ptrO (RB.node b (!l.red) l kk vv s r)))) ∧ Fr ((fun j => j ∈ t.blocks)) wq w') := fun w' hb => ⟨⟨(HQ.out.2.2.2.fr hb HLT.out.2).get 0 rfl, (HQ.out.2.2.2.fr hb HLT.out.2).get 1 rfl, (by have := (HQ.out.2.2.1.fr hb HT.out.out).get 2 rfl; rw [← HTT.out] at this; exact this)⟩, hb⟩
  refine wp_region_noPanic ?_
  refine wp_region_Z [10] (fun w' => (w'.cell? ⟨w.heap.size, 0, none⟩ = some (.int .u64 k.1) ∧ w'.cell? ⟨w.heap.size, 1, none⟩ = some (.int .i64 k.2) ∧ w'.cell? ⟨T, 2, none⟩ = some (.pointer (ptrO (RB.node b (!l.red) l kk vv s r)))) ∧ Fr ((fun j => j ∈ t.blocks)) wq w') (by kernel_rfl) (KQ.out _ (Fr.drew ((Fr.refl (fun j => j ∈ t.blocks) wq)))) (fun hH => ?_)
  have hbR := Fr.drew ((Fr.refl (fun j => j ∈ t.blocks) wq))
  first | (refine wpAnyZ_take (i := 0) (v := undef) rfl ?_ ?_ ?_ ?_ (fun _ _ _ h => h) ?_ ?_ ?_; kernel_rfl; kernel_rfl; kernel_rfl; kernel_rfl; exact Or.inr ⟨by rfl, rfl⟩; exact hH) | (refine wpAnyZ_take (i := 0) (v := ?_) rfl ?_ ?_ ?_ ?_ (fun _ _ _ h => h) ?_ ?_ ?_; rotate_left; kernel_rfl; kernel_rfl; kernel_rfl; kernel_rfl; (focus (refine Or.inl ⟨by rfl, ?_⟩; intro w' hSw; (try dsimp only at hSw); go_simp)); exact hH) | (refine wpAnyZ_take (i := 0) (v := ?_) rfl ?_ ?_ ?_ ?_ (fun _ _ _ h => h) ?_ ?_ ?_; rotate_left; kernel_rfl; kernel_rfl; kernel_rfl; kernel_rfl; (focus (refine Or.inl ⟨by rfl, ?_⟩; intro w' hSw; (try dsimp only at hSw); go_simp; with_reducible rfl)); exact hH)
  try simp only [Act.put, List.getElem_toArray, List.getElem_cons_succ, List.getElem_cons_zero, List.setIfInBounds_toArray, List.set_cons_zero, List.set_cons_succ]
  first | (refine wpAnyZ_take (i := 1) (v := undef) rfl ?_ ?_ ?_ ?_ (fun _ _ _ h => h) ?_ ?_ ?_; kernel_rfl; kernel_rfl; kernel_rfl; kernel_rfl; exact Or.inr ⟨by rfl, rfl⟩; exact hH) | (refine wpAnyZ_take (i := 1) (v := ?_) rfl ?_ ?_ ?_ ?_ (fun _ _ _ h => h) ?_ ?_ ?_; rotate_left; kernel_rfl; kernel_rfl; kernel_rfl; kernel_rfl; (focus (refine Or.inl ⟨by rfl, ?_⟩; intro w' hSw; (try dsimp only at hSw); go_simp)); exact hH) | (refine wpAnyZ_take (i := 1) (v := ?_) rfl ?_ ?_ ?_ ?_ (fun _ _ _ h => h) ?_ ?_ ?_; rotate_left; kernel_rfl; kernel_rfl; kernel_rfl; kernel_rfl; (focus (refine Or.inl ⟨by rfl, ?_⟩; intro w' hSw; (try dsimp only at hSw); go_simp; with_reducible rfl)); exact hH)
  try simp only [Act.put, List.getElem_toArray, List.getElem_cons_succ, List.getElem_cons_zero, List.setIfInBounds_toArray, List.set_cons_zero, List.set_cons_succ]
  first | (refine wpAnyZ_take (i := 2) (v := undef) rfl ?_ ?_ ?_ ?_ (fun _ _ _ h => h) ?_ ?_ ?_; kernel_rfl; kernel_rfl; kernel_rfl; kernel_rfl; exact Or.inr ⟨by rfl, rfl⟩; exact hH) | (refine wpAnyZ_take (i := 2) (v := ?_) rfl ?_ ?_ ?_ ?_ (fun _ _ _ h => h) ?_ ?_ ?_; rotate_left; kernel_rfl; kernel_rfl; kernel_rfl; kernel_rfl; (focus (refine Or.inl ⟨by rfl, ?_⟩; intro w' hSw; (try dsimp only at hSw); go_simp)); exact hH) | (refine wpAnyZ_take (i := 2) (v := ?_) rfl ?_ ?_ ?_ ?_ (fun _ _ _ h => h) ?_ ?_ ?_; rotate_left; kernel_rfl; kernel_rfl; kernel_rfl; kernel_rfl; (focus (refine Or.inl ⟨by rfl, ?_⟩; intro w' hSw; (try dsimp only at hSw); go_simp; with_reducible rfl)); exact hH)
  try simp only [Act.put, List.getElem_toArray, List.getElem_cons_succ, List.getElem_cons_zero, List.setIfInBounds_toArray, List.set_cons_zero, List.set_cons_succ]
  first | (refine wpAnyZ_take (i := 3) (v := undef) rfl ?_ ?_ ?_ ?_ (fun _ _ _ h => h) ?_ ?_ ?_; kernel_rfl; kernel_rfl; kernel_rfl; kernel_rfl; exact Or.inr ⟨by rfl, rfl⟩; exact hH) | (refine wpAnyZ_take (i := 3) (v := ?_) rfl ?_ ?_ ?_ ?_ (fun _ _ _ h => h) ?_ ?_ ?_; rotate_left; kernel_rfl; kernel_rfl; kernel_rfl; kernel_rfl; (focus (refine Or.inl ⟨by rfl, ?_⟩; intro w' hSw; (try dsimp only at hSw); go_simp)); exact hH) | (refine wpAnyZ_take (i := 3) (v := ?_) rfl ?_ ?_ ?_ ?_ (fun _ _ _ h => h) ?_ ?_ ?_; rotate_left; kernel_rfl; kernel_rfl; kernel_rfl; kernel_rfl; (focus (refine Or.inl ⟨by rfl, ?_⟩; intro w' hSw; (try dsimp only at hSw); go_simp; with_reducible rfl)); exact hH)
  try simp only [Act.put, List.getElem_toArray, List.getElem_cons_succ, List.getElem_cons_zero, List.setIfInBounds_toArray, List.set_cons_zero, List.set_cons_succ]
  first | (refine wpAnyZ_take (i := 4) (v := undef) rfl ?_ ?_ ?_ ?_ (fun _ _ _ h => h) ?_ ?_ ?_; kernel_rfl; kernel_rfl; kernel_rfl; kernel_rfl; exact Or.inr ⟨by rfl, rfl⟩; exact hH) | (refine wpAnyZ_take (i := 4) (v := ?_) rfl ?_ ?_ ?_ ?_ (fun _ _ _ h => h) ?_ ?_ ?_; rotate_left; kernel_rfl; kernel_rfl; kernel_rfl; kernel_rfl; (focus (refine Or.inl ⟨by rfl, ?_⟩; intro w' hSw; (try dsimp only at hSw); go_simp)); exact hH) | (refine wpAnyZ_take (i := 4) (v := ?_) rfl ?_ ?_ ?_ ?_ (fun _ _ _ h => h) ?_ ?_ ?_; rotate_left; kernel_rfl; kernel_rfl; kernel_rfl; kernel_rfl; (focus (refine Or.inl ⟨by rfl, ?_⟩; intro w' hSw; (try dsimp only at hSw); go_simp; with_reducible rfl)); exact hH)
  try simp only [Act.put, List.getElem_toArray, List.getElem_cons_succ, List.getElem_cons_zero, List.setIfInBounds_toArray, List.set_cons_zero, List.set_cons_succ]
  first | (refine wpAnyZ_take (i := 5) (v := undef) rfl ?_ ?_ ?_ ?_ (fun _ _ _ h => h) ?_ ?_ ?_; kernel_rfl; kernel_rfl; kernel_rfl; kernel_rfl; exact Or.inr ⟨by rfl, rfl⟩; exact hH) | (refine wpAnyZ_take (i := 5) (v := ?_) rfl ?_ ?_ ?_ ?_ (fun _ _ _ h => h) ?_ ?_ ?_; rotate_left; kernel_rfl; kernel_rfl; kernel_rfl; kernel_rfl; (focus (refine Or.inl ⟨by rfl, ?_⟩; intro w' hSw; (try dsimp only at hSw); go_simp)); exact hH) | (refine wpAnyZ_take (i := 5) (v := ?_) rfl ?_ ?_ ?_ ?_ (fun _ _ _ h => h) ?_ ?_ ?_; rotate_left; kernel_rfl; kernel_rfl; kernel_rfl; kernel_rfl; (focus (refine Or.inl ⟨by rfl, ?_⟩; intro w' hSw; (try dsimp only at hSw); go_simp; with_reducible rfl)); exact hH)
  try simp only [Act.put, List.getElem_toArray, List.getElem_cons_succ, List.getElem_cons_zero, List.setIfInBounds_toArray, List.set_cons_zero, List.set_cons_succ]
  first | (refine wpAnyZ_take (i := 6) (v := undef) rfl ?_ ?_ ?_ ?_ (fun _ _ _ h => h) ?_ ?_ ?_; kernel_rfl; kernel_rfl; kernel_rfl; kernel_rfl; exact Or.inr ⟨by rfl, rfl⟩; exact hH) | (refine wpAnyZ_take (i := 6) (v := ?_) rfl ?_ ?_ ?_ ?_ (fun _ _ _ h => h) ?_ ?_ ?_; rotate_left; kernel_rfl; kernel_rfl; kernel_rfl; kernel_rfl; (focus (refine Or.inl ⟨by rfl, ?_⟩; intro w' hSw; (try dsimp only at hSw); go_simp)); exact hH) | (refine wpAnyZ_take (i := 6) (v := ?_) rfl ?_ ?_ ?_ ?_ (fun _ _ _ h => h) ?_ ?_ ?_; rotate_left; kernel_rfl; kernel_rfl; kernel_rfl; kernel_rfl; (focus (refine Or.inl ⟨by rfl, ?_⟩; intro w' hSw; (try dsimp only at hSw); go_simp; with_reducible rfl)); exact hH)
  try simp only [Act.put, List.getElem_toArray, List.getElem_cons_succ, List.getElem_cons_zero, List.setIfInBounds_toArray, List.set_cons_zero, List.set_cons_succ]
  refine wpAnyZ_ready (rs := [7]) (by kernel_rfl) (by simp) ?_
  refine (AllReadyZ.cons rfl (fun K hK => ?_) AllReadyZ.nil)
  go_simp
  with_reducible refine HIC.out.mono ?_
  rintro e w1 ⟨t2, d, rfl, hd, hi⟩
  have fr1 : Fr (fun j => j ∈ t.blocks) wq w1 := hH.2.trans (hd.fr.mono fun j _ hj => HBT.out j hj)
  have bk1 := HQ.out.2.2.1.fr fr1 HT.out.out
  have HD := Lib.hid (And.intro hd (And.intro hi (And.intro fr1 bk1)))
  have ff1 := bk1.frozen 2
  have cc1 : w1.cell? ⟨T, 2, none⟩ = some (.pointer (some ⟨b, 0, none⟩)) := by have := bk1.get 2 rfl; rw [← HTT.out] at this; exact this
  clear hd hi bk1
  try go_wp2_with fail
  have hH1 := KQ.out _ fr1
  refine hK.out _ _ (fun _ => hH1) ?_
  clear hK K hH
  have hH := hH1
  clear hH1
  try simp only [Act.put, List.getElem_toArray, List.getElem_cons_succ, List.getElem_cons_zero, List.setIfInBounds_toArray, List.set_cons_zero, List.set_cons_succ]
  refine wpAnyZ_ready (rs := [8]) (by kernel_rfl) (by simp) ?_
  refine (AllReadyZ.cons rfl (fun K hK => ?_) AllReadyZ.nil)
  go_simp
  refine hK.out _ _ (fun _ => hH) ?_
  clear hK K
  try simp only [Act.put, List.getElem_toArray, List.getElem_cons_succ, List.getElem_cons_zero, List.setIfInBounds_toArray, List.set_cons_zero, List.set_cons_succ]
  first | (refine wpAnyZ_take (i := 9) (v := undef) rfl ?_ ?_ ?_ ?_ (fun _ _ _ h => h) ?_ ?_ ?_; kernel_rfl; kernel_rfl; kernel_rfl; kernel_rfl; exact Or.inr ⟨by rfl, rfl⟩; exact hH) | (refine wpAnyZ_take (i := 9) (v := ?_) rfl ?_ ?_ ?_ ?_ (fun _ _ _ h => h) ?_ ?_ ?_; rotate_left; kernel_rfl; kernel_rfl; kernel_rfl; kernel_rfl; (focus (refine Or.inl ⟨by rfl, ?_⟩; intro w' hSw; (try dsimp only at hSw); go_simp)); exact hH) | (refine wpAnyZ_take (i := 9) (v := ?_) rfl ?_ ?_ ?_ ?_ (fun _ _ _ h => h) ?_ ?_ ?_; rotate_left; kernel_rfl; kernel_rfl; kernel_rfl; kernel_rfl; (focus (refine Or.inl ⟨by rfl, ?_⟩; intro w' hSw; (try dsimp only at hSw); go_simp; with_reducible rfl)); exact hH)
  try simp only [Act.put, List.getElem_toArray, List.getElem_cons_succ, List.getElem_cons_zero, List.setIfInBounds_toArray, List.set_cons_zero, List.set_cons_succ]
  refine wpAnyZ_ready (rs := [10]) (by kernel_rfl) (by simp) ?_
  refine (AllReadyZ.cons rfl (fun K hK => ?_) AllReadyZ.nil)
  go_simp
  refine hK.out _ _ (fun h => absurd (by simp) h) ?_
  clear hK K
  try simp only [Act.put, List.getElem_toArray, List.getElem_cons_succ, List.getElem_cons_zero, List.setIfInBounds_toArray, List.set_cons_zero, List.set_cons_succ]
  refine wpAnyZ_done (by kernel_rfl) ?_ _
  refine NoPanic.normal ?_
  skip
  clear ff1 cc1 fr1 KQ HIC
  obtain ⟨wp, hwp⟩ : ∃ x : World, x = w1 := ⟨_, rfl⟩
  rw [← hwp] at HD ⊢
  clear hwp
  have hsub : ∀ x ∈ t2.blocks, x ∈ t.blocks := fun x hx => HBT.out x (HD.out.1.perm.mem_iff.2 (List.mem_cons_of_mem _ hx))
  have hnd2 : t2.blocks.Nodup := by
    have h := HT.out.nd
    rw [← HTT.out] at h
    exact (List.nodup_cons.1 (HD.out.1.perm.nodup_iff.1 h)).2
  have hit : t2.items = del k t.items := by rw [← HTT.out]; exact HD.out.2.1
  obtain ⟨nn, hnn⟩ := W_blackH HD.out.1.post.1
  have hrise : Rises t2.items := by rw [hit]; exact del_rises HT.out.rises
  have hlen : t2.items.length + 1 = t.items.length := by rw [hit]; exact del_length HT.out.rises HG.out
  have HS := Lib.hid (And.intro hsub (And.intro hnd2 (And.intro hit (And.intro hnn (And.intro hrise hlen)))))
  clear hsub hnd2 hit hnn hrise hlen
  have bT2 : Blk (wp.setCell ⟨T, 2, none⟩ (.pointer (ptrO t2))) T 135 #[(.func (.func 86) #[] #[]), (.func (.func 87) #[] #[]), .pointer (ptrO t2), .int .i64 (t.items.length : Int)] := HD.out.2.2.2.put 2 _
  have F2 : Fr (fun j => j = T) wp (wp.setCell ⟨T, 2, none⟩ (.pointer (ptrO t2))) := (Fr.refl (fun j => j = T) wp).setCell (p := ⟨T, 2, none⟩) (fun _ => rfl) _
  have HV := Lib.hid (And.intro bT2 (And.intro F2 (RepH.fr F2 HD.out.1.rep (fun x hx e => HT.out.out (by rw [← e]; exact HS.out.1 x hx)))))
  clear bT2 F2
  generalize wp.setCell ⟨T, 2, none⟩ (.pointer (ptrO t2)) = w2 at HV ⊢
  have x2 : w2.cell? ⟨T, 3, none⟩ = some (.int .i64 (t.items.length : Int)) := HV.out.1.get 3 rfl
  have f2 := HV.out.1.frozen 3
  have ew : wrap64 ((t.items.length : Int) - 1) = (t2.items.length : Int) := by have := HL.out; have := HS.out.2.2.2.2.2; unfold wrap64; omega
  have FB : Hid (Fr (fun j => j = T ∨ j ∈ t.blocks) w w2) := (Fr.of_new HB1.out.1).trans ((HQ.out.2.1.mono fun j _ hj => Or.inr (by rw [hj, ← HTT.out]; exact List.mem_cons_self ..)).trans ((HD.out.2.2.1.mono fun j _ hj => Or.inr hj).trans (HV.out.2.1.mono fun j _ hj => Or.inl hj)))
  cases t2 with
  | nil =>
    have x0 : w2.cell? ⟨T, 2, none⟩ = some (.pointer none) := HV.out.1.get 2 rfl
    go_wp2_with fail
    go_ret
    have F3 : Fr (fun j => j = T ∨ j ∈ t.blocks) w2 (w2.setCell ⟨T, 3, none⟩ (.int .i64 ((RB.items (.nil : RB (Int × Int))).length : Int))) := (Fr.refl _ w2).setCell (p := ⟨T, 3, none⟩) (fun _ => Or.inl rfl) _
    refine ⟨.nil, rfl, ⟨⟨?_, trivial, List.nodup_nil, (fun hx => by cases hx), ⟨0, rfl⟩, rfl, HS.out.2.2.2.2.1⟩, FB.out.trans F3, (fun x hx => by cases hx)⟩, HS.out.2.2.1⟩
    exact HV.out.1.put 3 (.int .i64 ((RB.items (.nil : RB (Int × Int))).length : Int))
  | node b5 c5 l5 k5 v5 s5 r5 =>
    have hr5 : Blk w2 b5 138 #[.int .u64 k5.1, .int .i64 k5.2, .int .u64 v5, .int .u64 s5.1, .int .i64 s5.2, .bool c5, ptrV l5, ptrV r5] ∧ RepH w2 l5 ∧ RepH w2 r5 := HV.out.2.2
    have HR5 := Lib.hid hr5
    have x0 : w2.cell? ⟨T, 2, none⟩ = some (.pointer (some ⟨b5, 0, none⟩)) := HV.out.1.get 2 rfl
    have x1 : w2.cell? ⟨b5, 5, none⟩ = some (.bool c5) := hr5.1.get 5 rfl
    have f1 := hr5.1.frozen 5
    have hin : b5 ∈ t.blocks := HS.out.1 b5 (List.mem_cons_self ..)
    have hbT : b5 ≠ T := fun e => HT.out.out (by rw [← e]; exact hin)
    have hTb := Ne.symm hbT
    have HIN := Lib.hid hin
    have hbl : b5 ∉ l5.blocks ∧ b5 ∉ r5.blocks := by
      have h := HS.out.2.1
      simp only [RB.blocks, List.nodup_cons, List.mem_append, not_or] at h
      exact h.1
    have HBL5 := Lib.hid hbl
    clear hr5 hin hbl
    obtain ⟨ln, hln⟩ : ∃ z : Nat, (RB.items (.node b5 c5 l5 k5 v5 s5 r5)).length = z := ⟨_, rfl⟩
    rw [hln] at ew
    have HLN := Lib.hid hln
    clear hln
    go_wp2_with fail
    go_ret
    have F3 : Fr (fun j => j = T ∨ j = b5) w2 ((w2.setCell ⟨b5, 5, none⟩ (.bool false)).setCell ⟨T, 3, none⟩ (.int .i64 (ln : Int))) := (((Fr.refl _ w2).setCell (p := ⟨b5, 5, none⟩) (fun _ => Or.inr rfl) _).setCell (p := ⟨T, 3, none⟩) (fun _ => Or.inl rfl) _)
    refine ⟨RB.black (.node b5 c5 l5 k5 v5 s5 r5), rfl, ⟨⟨?_, ?_, ?_, ?_, ⟨nn, HS.out.2.2.2.1⟩, rfl, ?_⟩, ?_, ?_⟩, ?_⟩
    · have h1 := (HV.out.1.far (p := ⟨b5, 5, none⟩) hTb (.bool false)).put 3 (.int .i64 (ln : Int))
      have e : ((RB.black (.node b5 c5 l5 k5 v5 s5 r5) : RB (Int × Int)).items.length : Int) = (ln : Int) := by rw [RB.items_black, HLN.out]
      rw [e]
      exact h1
    · refine ⟨(HR5.out.1.put 5 (.bool false)).far (p := ⟨T, 3, none⟩) hbT _, RepH.fr F3 HR5.out.2.1 (fun x hx => ?_), RepH.fr F3 HR5.out.2.2 (fun x hx => ?_)⟩
      · rintro (e | e)
        · exact HT.out.out (by rw [← e]; exact HS.out.1 x (List.mem_cons_of_mem _ (List.mem_append.2 (Or.inl hx))))
        · exact HBL5.out.1 (e ▸ hx)
      · rintro (e | e)
        · exact HT.out.out (by rw [← e]; exact HS.out.1 x (List.mem_cons_of_mem _ (List.mem_append.2 (Or.inr hx))))
        · exact HBL5.out.2 (e ▸ hx)
    · rw [RB.blocks_black]; exact HS.out.2.1
    · rw [RB.blocks_black]; exact fun hx => HT.out.out (HS.out.1 T hx)
    · rw [RB.items_black]; exact HS.out.2.2.2.2.1
    · exact FB.out.trans (F3.mono fun j _ hj => hj.elim Or.inl (fun e => Or.inr (by rw [e]; exact HIN.out)))
    · rw [RB.blocks_black]; exact fun x hx => Or.inl (HS.out.1 x hx)
    · rw [RB.items_black]; exact HS.out.2.2.1
theorem rh_Drop (T : Nat) (t : RB (Int × Int)) (k : RK) (x : Int) (w : World) (h : TrIsH w T t) (hg : get k t.items = some x) (hl : t.items.length ≤ 1000000) :
    Calls Try.prog 84 #[.pointer (some ⟨T, 0, none⟩), .agg #[.int .u64 k.1, .int .i64 k.2]] w fun e w' => DropRH w T k t e w' := by
  cases t with
  | nil => cases hg
  | node b c l kk vv s r => exact rh_Drop_is T b c l kk vv s r k x w h hg hl

end Go.Proofs.Ytjlnbpomncglcaa
