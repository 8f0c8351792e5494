/-
  Red-black trees in memory (h): balanced.
-/
import Derived.Test.YtjlnbpomncglcaaProg
import Derived.Test.YtjlnbpomncglcaaRBHC
import Derived.Test.YtjlnbpomncglcaaRBHD
namespace Go.Proofs.Ytjlnbpomncglcaa
set_option linter.unusedVariables false
set_option linter.unusedSimpArgs false
set_option maxRecDepth 100000
open Go.RowKit

/-- A tree on its way: its nodes are those in B. -/
structure StH (w W : World) (T : Nat) (B : List Nat) (t : RB (Int × Int)) : Prop where
  rep : RepH W t
  fr : Fr (fun j => j ∈ B) w W
  perm : List.Perm t.blocks B
  nd : B.Nodup
  tre : TreH W T
  out : T ∉ B
theorem StH.new {w : World} {T : Nat} {t : RB (Int × Int)} (h : RepH w t) (hn : t.blocks.Nodup) (hT : TreH w T) (ho : T ∉ t.blocks) : StH w w T t.blocks t := ⟨h, Fr.refl _ _, List.Perm.refl _, hn, hT, ho⟩
theorem StH.nodup {w W : World} {T : Nat} {B : List Nat} {t : RB (Int × Int)} (h : StH w W T B t) : t.blocks.Nodup := h.perm.nodup_iff.2 h.nd
theorem StH.notin {w W : World} {T : Nat} {B : List Nat} {t : RB (Int × Int)} (h : StH w W T B t) : T ∉ t.blocks := fun hx => h.out (h.perm.mem_iff.1 hx)
theorem StH.turn {S : Nat → Prop} {w W W' : World} {T : Nat} {B : List Nat} {t t' : RB (Int × Int)} (h : StH w W T B t) (k : ToH S t' W W') (hS : ∀ j, S j → j ∈ t.blocks) (hp : List.Perm t'.blocks t.blocks) : StH w W' T B t' :=
  ⟨k.1, h.fr.trans (k.2.mono fun j _ hj => h.perm.mem_iff.1 (hS j hj)), hp.trans h.perm, h.nd, h.tre.fr k.2 (fun hx => h.notin (hS T hx)), h.out⟩
theorem StH.at {w W : World} {T : Nat} {B : List Nat} {b : Nat} {c : Bool} {l : RB (Int × Int)} {k : RK} {v : Int} {s : (Int × Int)} {r : RB (Int × Int)} (h : StH w W T B (.node b c l k v s r)) : Blk W b 138 #[.int .u64 k.1, .int .i64 k.2, .int .u64 v, .int .u64 s.1, .int .i64 s.2, .bool c, ptrV l, ptrV r] ∧ RepH W l ∧ RepH W r := h.rep
theorem StH.next {w W W' : World} {T : Nat} {B : List Nat} {t : RB (Int × Int)} (h : StH w W T B t) (hb : Below W.heap.size W W') : StH w W' T B t :=
  ⟨h.rep.below hb, h.fr.trans (Fr.of_new hb), h.perm, h.nd, h.tre.below hb, h.out⟩
set_option maxHeartbeats 16000000 in
theorem rh_balance (T b : Nat) (c : Bool) (l : RB (Int × Int)) (k : RK) (v : Int) (s : (Int × Int)) (r : RB (Int × Int)) (w : World) (h : RepH w (.node b c l k v s r)) (hn : (RB.blocks (.node b c l k v s r)).Nodup) (hT : TreH w T) (hTn : T ∉ RB.blocks (.node b c l k v s r)) :
    Calls Try.prog 113 #[.pointer (some ⟨T, 0, none⟩), .pointer (some ⟨b, 0, none⟩)] w fun e w' => e = .returned (ptrV (RB.bal ofH minH (.node b c l k v s r))) ∧ StH w w' T (RB.blocks (.node b c l k v s r)) (RB.bal ofH minH (.node b c l k v s r)) := by
  have HS := Lib.hid (StH.new h hn hT hTn)
  obtain ⟨B, hB⟩ : ∃ B, RB.blocks (.node b c l k v s r) = B := ⟨_, rfl⟩
  rw [hB] at HS ⊢
  obtain ⟨tz, htz⟩ : ∃ t, RB.bal ofH minH (.node b c l k v s r) = t := ⟨_, rfl⟩
  rw [htz]
  have HZ : Hid (RB.resum ofH minH (RB.bal3 (RB.bal2 ofH minH (RB.bal1 ofH minH (.node b c l k v s r)))) = tz) := htz
  clear h hn hT hTn hB htz
  go_enter Try.func113, Try.ntmps113
  have HW : Hid (StH w w T B (.node b c l k v s r)) := HS.out
  clear HS
  go_upto_region 1 with (fail)
  have xl : w.cell? ⟨b, 6, none⟩ = some (ptrV l) := HW.out.at.1.get 6 rfl
  have xr : w.cell? ⟨b, 7, none⟩ = some (ptrV r) := HW.out.at.1.get 7 rfl
  go_cut [17] (fun cv wc => cv = .bool (r.red && !l.red) ∧ w = wc)
  case first =>
    go_wp2_with fail
    with_reducible refine (rh_is r w HW.out.at.2.2).mono ?_
    rintro e w1 ⟨rfl, rfl⟩
    cases hr : r.red with
    | false =>
      go_wp2_with fail
      go_meet
      exact ⟨by rw [hr]; rfl, rfl⟩
    | true =>
      go_wp2_with fail
      with_reducible refine (rh_is l w HW.out.at.2.1).mono ?_
      rintro e w1 ⟨rfl, rfl⟩
      go_wp2_with fail
      go_meet
      exact ⟨by rw [hr]; rfl, rfl⟩
  case rest =>
  obtain ⟨rfl, rfl⟩ := hcut
  clear xl xr
  go_upto_if 17 with (fail)
  go_cut [1] (fun hv wc => ∃ (b1 : Nat) (c1 : Bool) (l1 : RB (Int × Int)) (k1 : RK) (v1 : Int) (s1 : (Int × Int)) (r1 : RB (Int × Int)), hv = .pointer (some ⟨b1, 0, none⟩) ∧ RB.bal1 ofH minH (.node b c l k v s r) = .node b1 c1 l1 k1 v1 s1 r1 ∧ StH w wc T B (.node b1 c1 l1 k1 v1 s1 r1))
  case first =>
    cases hc : (r.red && !l.red) with
    | false =>
      go_wp2_with fail
      go_meet
      exact ⟨b, c, l, k, v, s, r, rfl, show RB.bal1 ofH minH (.node b c l k v s r) = (.node b c l k v s r) from if_neg (show ¬ ((r.red && !l.red) = true) from by rw [hc]; exact Bool.false_ne_true), HW.out⟩
    | true =>
      cases r with
      | nil => cases hc
      | node b2 c2 l2 k2 v2 s2 r2 =>
        go_wp2_with fail
        with_reducible refine (rh_left T b b2 c c2 l l2 r2 k k2 v v2 s s2 _ HW.out.rep HW.out.nodup HW.out.tre HW.out.notin).mono ?_
        rintro e w1 ⟨rfl, hk⟩
        have HK := Lib.hid (HW.out.turn hk (by rintro j (rfl | rfl) <;> simp [RB.blocks]) (RB.blocks_rotL _))
        clear hk
        go_wp2_with fail
        go_meet
        rw [RB.rotL_n] at HK
        exact ⟨b2, _, _, _, _, _, _, rfl, (show RB.bal1 ofH minH (.node b c l k v s (.node b2 c2 l2 k2 v2 s2 r2)) = RB.rotL ofH minH (.node b c l k v s (.node b2 c2 l2 k2 v2 s2 r2)) from if_pos hc).trans RB.rotL_n, HK.out⟩
  case rest =>
  obtain ⟨b', c', l', k', v', s', r', rfl, he, hS⟩ := hcut
  rw [he] at HZ
  clear HW he b c l k v s r
  obtain ⟨wo0, rfl⟩ : ∃ x : World, x = wc := ⟨_, rfl⟩
  have HW := Lib.hid hS
  clear hS
  obtain ⟨b, rfl⟩ : ∃ x, x = b' := ⟨_, rfl⟩
  obtain ⟨c, rfl⟩ : ∃ x, x = c' := ⟨_, rfl⟩
  obtain ⟨l, rfl⟩ : ∃ x, x = l' := ⟨_, rfl⟩
  obtain ⟨k, rfl⟩ : ∃ x, x = k' := ⟨_, rfl⟩
  obtain ⟨v, rfl⟩ : ∃ x, x = v' := ⟨_, rfl⟩
  obtain ⟨s, rfl⟩ : ∃ x, x = s' := ⟨_, rfl⟩
  obtain ⟨r, rfl⟩ : ∃ x, x = r' := ⟨_, rfl⟩
  go_upto_region 3 with (fail)
  have xl : wo0.cell? ⟨b, 6, none⟩ = some (ptrV l) := HW.out.at.1.get 6 rfl
  have xr : wo0.cell? ⟨b, 7, none⟩ = some (ptrV r) := HW.out.at.1.get 7 rfl
  go_cut [35] (fun cv wc => cv = .bool (l.red && l.left.red) ∧ wo0 = wc)
  case first =>
    go_wp2_with fail
    with_reducible refine (rh_is l wo0 HW.out.at.2.1).mono ?_
    rintro e w1 ⟨rfl, rfl⟩
    cases l with
    | nil =>
      skip
      go_wp2_with fail
      go_meet
      exact ⟨rfl, rfl⟩
    | node b2 c2 l2 k2 v2 s2 r2 =>
      have hz : (RB.node b2 c2 l2 k2 v2 s2 r2).red = c2 := rfl
      have hz2 : (RB.node b2 c2 l2 k2 v2 s2 r2).left = l2 := rfl
      have xl' : wo0.cell? ⟨b, 6, none⟩ = some (.pointer (some ⟨b2, 0, none⟩)) := xl
      have x2 : wo0.cell? ⟨b2, 6, none⟩ = some (ptrV l2) := (show Blk wo0 b2 138 #[.int .u64 k2.1, .int .i64 k2.2, .int .u64 v2, .int .u64 s2.1, .int .i64 s2.2, .bool c2, ptrV l2, ptrV r2] ∧ RepH wo0 l2 ∧ RepH wo0 r2 from HW.out.at.2.1).1.get 6 rfl
      have HR2 : Hid (RepH wo0 l2) := (show Blk wo0 b2 138 #[.int .u64 k2.1, .int .i64 k2.2, .int .u64 v2, .int .u64 s2.1, .int .i64 s2.2, .bool c2, ptrV l2, ptrV r2] ∧ RepH wo0 l2 ∧ RepH wo0 r2 from HW.out.at.2.1).2.1
      clear xl hz hz2
      cases c2 with
      | false =>
        go_wp2_with fail
        go_meet
        exact ⟨rfl, rfl⟩
      | true =>
        go_wp2_with fail
        with_reducible refine (rh_is l2 wo0 HR2.out).mono ?_
        rintro e w1 ⟨rfl, rfl⟩
        go_wp2_with fail
        go_meet
        exact ⟨rfl, rfl⟩
  case rest =>
  obtain ⟨rfl, rfl⟩ := hcut
  clear xl xr
  go_upto_if 35 with (fail)
  go_cut [1] (fun hv wc => ∃ (b1 : Nat) (c1 : Bool) (l1 : RB (Int × Int)) (k1 : RK) (v1 : Int) (s1 : (Int × Int)) (r1 : RB (Int × Int)), hv = .pointer (some ⟨b1, 0, none⟩) ∧ RB.bal2 ofH minH (.node b c l k v s r) = .node b1 c1 l1 k1 v1 s1 r1 ∧ StH w wc T B (.node b1 c1 l1 k1 v1 s1 r1))
  case first =>
    cases hc : (l.red && l.left.red) with
    | false =>
      go_wp2_with fail
      go_meet
      exact ⟨b, c, l, k, v, s, r, rfl, show RB.bal2 ofH minH (.node b c l k v s r) = (.node b c l k v s r) from if_neg (show ¬ ((l.red && l.left.red) = true) from by rw [hc]; exact Bool.false_ne_true), HW.out⟩
    | true =>
      cases l with
      | nil => cases hc
      | node b2 c2 l2 k2 v2 s2 r2 =>
        go_wp2_with fail
        with_reducible refine (rh_right T b b2 c c2 r l2 r2 k k2 v v2 s s2 _ HW.out.rep HW.out.nodup HW.out.tre HW.out.notin).mono ?_
        rintro e w1 ⟨rfl, hk⟩
        have HK := Lib.hid (HW.out.turn hk (by rintro j (rfl | rfl) <;> simp [RB.blocks]) (RB.blocks_rotR _))
        clear hk
        go_wp2_with fail
        go_meet
        rw [RB.rotR_n] at HK
        exact ⟨b2, _, _, _, _, _, _, rfl, (show RB.bal2 ofH minH (.node b c (.node b2 c2 l2 k2 v2 s2 r2) k v s r) = RB.rotR ofH minH (.node b c (.node b2 c2 l2 k2 v2 s2 r2) k v s r) from if_pos hc).trans RB.rotR_n, HK.out⟩
  case rest =>
  obtain ⟨b', c', l', k', v', s', r', rfl, he, hS⟩ := hcut
  rw [he] at HZ
  clear HW he b c l k v s r
  obtain ⟨wo1, rfl⟩ : ∃ x : World, x = wc := ⟨_, rfl⟩
  have HW := Lib.hid hS
  clear hS
  obtain ⟨b, rfl⟩ : ∃ x, x = b' := ⟨_, rfl⟩
  obtain ⟨c, rfl⟩ : ∃ x, x = c' := ⟨_, rfl⟩
  obtain ⟨l, rfl⟩ : ∃ x, x = l' := ⟨_, rfl⟩
  obtain ⟨k, rfl⟩ : ∃ x, x = k' := ⟨_, rfl⟩
  obtain ⟨v, rfl⟩ : ∃ x, x = v' := ⟨_, rfl⟩
  obtain ⟨s, rfl⟩ : ∃ x, x = s' := ⟨_, rfl⟩
  obtain ⟨r, rfl⟩ : ∃ x, x = r' := ⟨_, rfl⟩
  go_upto_region 5 with (fail)
  have xl : wo1.cell? ⟨b, 6, none⟩ = some (ptrV l) := HW.out.at.1.get 6 rfl
  have xr : wo1.cell? ⟨b, 7, none⟩ = some (ptrV r) := HW.out.at.1.get 7 rfl
  go_cut [50] (fun cv wc => cv = .bool (l.red && r.red) ∧ wo1 = wc)
  case first =>
    go_wp2_with fail
    with_reducible refine (rh_is l wo1 HW.out.at.2.1).mono ?_
    rintro e w1 ⟨rfl, rfl⟩
    cases hl : l.red with
    | false =>
      go_wp2_with fail
      go_meet
      exact ⟨by rw [hl]; rfl, rfl⟩
    | true =>
      go_wp2_with fail
      with_reducible refine (rh_is r wo1 HW.out.at.2.2).mono ?_
      rintro e w1 ⟨rfl, rfl⟩
      go_wp2_with fail
      go_meet
      exact ⟨by rw [hl]; rfl, rfl⟩
  case rest =>
  obtain ⟨rfl, rfl⟩ := hcut
  clear xl xr
  go_upto_if 50 with (fail)
  go_cut [1] (fun hv wc => ∃ (b1 : Nat) (c1 : Bool) (l1 : RB (Int × Int)) (k1 : RK) (v1 : Int) (s1 : (Int × Int)) (r1 : RB (Int × Int)), hv = .pointer (some ⟨b1, 0, none⟩) ∧ RB.bal3 (.node b c l k v s r) = .node b1 c1 l1 k1 v1 s1 r1 ∧ StH w wc T B (.node b1 c1 l1 k1 v1 s1 r1))
  case first =>
    cases hc : (l.red && r.red) with
    | false =>
      go_wp2_with fail
      go_meet
      exact ⟨b, c, l, k, v, s, r, rfl, show RB.bal3 (.node b c l k v s r) = (.node b c l k v s r) from if_neg (show ¬ ((l.red && r.red) = true) from by rw [hc]; exact Bool.false_ne_true), HW.out⟩
    | true =>
      cases l with
      | nil => cases hc
      | node b2 c2 l2 k2 v2 s2 r2 =>
        cases r with
        | nil => rw [show (RB.nil : RB (Int × Int)).red = false from rfl, Bool.and_false] at hc; cases hc
        | node b3 c3 l3 k3 v3 s3 r3 =>
          go_wp2_with fail
          with_reducible refine (rh_flip b b2 b3 c c2 c3 l2 r2 l3 r3 k k2 k3 v v2 v3 s s2 s3 _ HW.out.rep HW.out.nodup).mono ?_
          rintro e w1 ⟨rfl, hk⟩
          have HK := Lib.hid (HW.out.turn hk (by rintro j (rfl | rfl | rfl) <;> simp [RB.blocks]) (by simp only [RB.blocks]; exact List.Perm.refl _))
          clear hk
          go_wp2_with fail
          go_meet
          exact ⟨b, _, _, _, _, _, _, rfl, (show RB.bal3 (.node b c (.node b2 c2 l2 k2 v2 s2 r2) k v s (.node b3 c3 l3 k3 v3 s3 r3)) = RB.flip (.node b c (.node b2 c2 l2 k2 v2 s2 r2) k v s (.node b3 c3 l3 k3 v3 s3 r3)) from if_pos hc), HK.out⟩
  case rest =>
  obtain ⟨b', c', l', k', v', s', r', rfl, he, hS⟩ := hcut
  rw [he] at HZ
  clear HW he b c l k v s r
  obtain ⟨wo2, rfl⟩ : ∃ x : World, x = wc := ⟨_, rfl⟩
  have HW := Lib.hid hS
  clear hS
  obtain ⟨b, rfl⟩ : ∃ x, x = b' := ⟨_, rfl⟩
  obtain ⟨c, rfl⟩ : ∃ x, x = c' := ⟨_, rfl⟩
  obtain ⟨l, rfl⟩ : ∃ x, x = l' := ⟨_, rfl⟩
  obtain ⟨k, rfl⟩ : ∃ x, x = k' := ⟨_, rfl⟩
  obtain ⟨v, rfl⟩ : ∃ x, x = v' := ⟨_, rfl⟩
  obtain ⟨s, rfl⟩ : ∃ x, x = s' := ⟨_, rfl⟩
  obtain ⟨r, rfl⟩ : ∃ x, x = r' := ⟨_, rfl⟩
  obtain ⟨sa, hsa⟩ : ∃ z, RB.tot ofH minH l k v r = z := ⟨_, rfl⟩
  have HTT := Lib.hid (rh_total T b c l k v s r wo2 HW.out.rep HW.out.tre)
  rw [hsa] at HTT
  rw [RB.resum_n, hsa] at HZ
  clear hsa
  go_wp2_with fail
  with_reducible refine HTT.out.mono ?_
  rintro e w2 ⟨rfl, hb2⟩
  replace HW := Lib.hid (HW.out.next hb2)
  clear hb2 HTT
  have y0 : w2.cell? ⟨b, 3, none⟩ = some (.int .u64 s.1) := HW.out.at.1.get 3 rfl
  have g0 := HW.out.at.1.frozen 3
  have y1 : w2.cell? ⟨b, 4, none⟩ = some (.int .i64 s.2) := HW.out.at.1.get 4 rfl
  have g1 := HW.out.at.1.frozen 4
  go_wp2_with fail
  go_ret
  have F2 : Fr (fun j => j = b) w2 ((w2.setCell ⟨b, 3, none⟩ (.int .u64 sa.1)).setCell ⟨b, 4, none⟩ (.int .i64 sa.2)) := (((Fr.refl (fun j => j = b) w2).setCell (p := ⟨b, 3, none⟩) (fun _ => rfl) _).setCell (p := ⟨b, 4, none⟩) (fun _ => rfl) _)
  have HND : b ∉ l.blocks ∧ b ∉ r.blocks := by
    have h := HW.out.nodup
    simp only [RB.blocks, List.nodup_cons, List.mem_append, not_or] at h
    exact h.1
  have hk : ToH (fun j => j = b) (.node b c l k v sa r) w2 ((w2.setCell ⟨b, 3, none⟩ (.int .u64 sa.1)).setCell ⟨b, 4, none⟩ (.int .i64 sa.2)) := ⟨⟨((HW.out.at.1.put 3 _).put 4 _), HW.out.at.2.1.fr F2 (fun x hx e => HND.1 (e ▸ hx)), HW.out.at.2.2.fr F2 (fun x hx e => HND.2 (e ▸ hx))⟩, F2⟩
  have hS := HW.out.turn hk (by rintro j rfl; simp [RB.blocks]) (List.Perm.refl _)
  rw [← HZ.out]
  exact ⟨rfl, hS⟩

end Go.Proofs.Ytjlnbpomncglcaa
