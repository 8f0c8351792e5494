/-
  Red-black trees in memory (h): the first one dropped.
-/
import Derived.Test.YtjlnbpomncglcaaProg
import Derived.Test.YtjlnbpomncglcaaRBHG
import Derived.Test.YtjlnbpomncglcaaRBDrop
namespace Go.Proofs.Ytjlnbpomncglcaa
set_option linter.unusedVariables false
set_option linter.unusedSimpArgs false
set_option maxRecDepth 100000
open Go.RowKit

/-- One way behind another one. -/
theorem StH.join {w W W' : World} {T : Nat} {B : List Nat} {t t' : RB (Int × Int)} (h : StH w W T B t) (k : StH W W' T B t') : StH w W' T B t' := ⟨k.rep, h.fr.trans k.fr, k.perm, k.nd, k.tre, k.out⟩
theorem StH.joinB {w W W' : World} {T : Nat} {B : List Nat} {t t' : RB (Int × Int)} (h : StH w W T B t) (k : StH W W' T t.blocks t') : StH w W' T B t' := ⟨k.rep, h.fr.trans (k.fr.mono fun j _ hj => h.perm.mem_iff.1 hj), k.perm.trans h.perm, h.nd, k.tre, h.out⟩
/-- What dropping leaves. -/
structure DropH (w w' : World) (T n : Nat) (t t' : RB (Int × Int)) (d : Nat) : Prop where
  post : RB.DropPost ofH minH n t t'
  rep : RepH w' t'
  fr : Fr (fun j => j ∈ t.blocks) w w'
  perm : List.Perm t.blocks (d :: t'.blocks)
  tre : TreH w' T
theorem node_ptr {b : Nat} {c : Bool} {l : RB (Int × Int)} {k : RK} {v : Int} {s : (Int × Int)} {r : RB (Int × Int)} : (.pointer (ptrO (.node b c l k v s r)) : Value) = .pointer (some ⟨b, 0, none⟩) := rfl
def DFstH (w : World) (T n : Nat) (t : RB (Int × Int)) (e : Ending) (w' : World) : Prop := ∃ (t' : RB (Int × Int)) (d : Nat) (kf : RK) (vf : Int), e = .returned (.pointer (ptrO t')) ∧ DropH w w' T n t t' d ∧ t.items = (kf, vf) :: t'.items
set_option maxHeartbeats 16000000 in
theorem rh_dropFirst (T : Nat) : ∀ (N : Nat) (t : RB (Int × Int)) (n : Nat) (w : World), t.size ≤ N → RB.DropPreL ofH minH n t → RepH w t → t.blocks.Nodup → TreH w T → T ∉ t.blocks →
    Calls Try.prog 117 #[.pointer (some ⟨T, 0, none⟩), .pointer (ptrO t)] w fun e w' => DFstH w T n t e w' := by
  intro N
  induction N with
  | zero =>
    intro t n w hN hp
    obtain ⟨⟨b, c, l, k, v, s, r, m, rfl, _⟩, _⟩ := hp
    exact absurd hN (by simp [RB.size])
  | succ N ih =>
    intro t n w hN hp h hn hT hTn
    have HP := Lib.hid hp
    obtain ⟨⟨b, c, l, kk, vv, s, r, m, rfl, hlw, hrw, hcase⟩, hrb⟩ := hp
    have HPP := Lib.hid (And.intro hlw (And.intro hrw (And.intro hcase hrb)))
    clear hlw hrw hcase hrb
    have HIH := Lib.hid ih
    have HSZ := Lib.hid hN
    have HS := Lib.hid (StH.new h hn hT hTn)
    clear ih hN h hn hT hTn
    rw [node_ptr]
    cases l with
    | nil =>
      obtain ⟨rfl, rfl, rfl⟩ := RB.first_nil HP.out
      have x0 : w.cell? ⟨b, 6, none⟩ = some (.pointer none) := HS.out.at.1.get 6 rfl
      go_enter Try.func117, Try.ntmps117
      go_wp2_with fail
      go_ret
      exact ⟨.nil, b, kk, vv, rfl, ⟨⟨rfl, fun hh => by cases hh⟩, trivial, (Fr.refl _ _), List.Perm.refl _, HS.out.tre⟩, rfl⟩
    | node b1 c1 l1 k1 v1 s1 r1 =>
      obtain ⟨B, hB⟩ : ∃ B, RB.blocks (.node b c (.node b1 c1 l1 k1 v1 s1 r1) kk vv s r) = B := ⟨_, rfl⟩
      rw [hB] at HS
      have HB := Lib.hid hB
      clear hB
      have HSTEP := Lib.hid (RB.left_step HP.out (show RB.left (.node b c (.node b1 c1 l1 k1 v1 s1 r1) kk vv s r) ≠ .nil from by intro e; cases e))
      have HRN := Lib.hid (fun hc => RB.goL_right HP.out (show RB.left (.node b c (.node b1 c1 l1 k1 v1 s1 r1) kk vv s r) ≠ .nil from by intro e; cases e) hc)
      have HIT : Hid ((RB.goL ofH minH (.node b c (.node b1 c1 l1 k1 v1 s1 r1) kk vv s r)).items = RB.items (.node b c (.node b1 c1 l1 k1 v1 s1 r1) kk vv s r)) := RB.items_goL _
      have hbn : Blk w b 138 #[.int .u64 kk.1, .int .i64 kk.2, .int .u64 vv, .int .u64 s.1, .int .i64 s.2, .bool c, .pointer (some ⟨b1, 0, none⟩), ptrV r] ∧ (Blk w b1 138 #[.int .u64 k1.1, .int .i64 k1.2, .int .u64 v1, .int .u64 s1.1, .int .i64 s1.2, .bool c1, ptrV l1, ptrV r1] ∧ RepH w l1 ∧ RepH w r1) ∧ RepH w r := HS.out.at
      have HBN := Lib.hid hbn
      have x0 : w.cell? ⟨b, 6, none⟩ = some (.pointer (some ⟨b1, 0, none⟩)) := hbn.1.get 6 rfl
      have x1 : w.cell? ⟨b1, 6, none⟩ = some (ptrV l1) := hbn.2.1.1.get 6 rfl
      have RL : Hid (RepH w (RB.node b1 c1 l1 k1 v1 s1 r1)) := HS.out.at.2.1
      clear hbn
      go_enter Try.func117, Try.ntmps117
      go_upto_region 3 with (fail)
      go_cut [26] (fun cv wc => cv = .bool (!c1 && !l1.red) ∧ w = wc)
      case first =>
        go_wp2_with fail
        have hi := rh_is (RB.node b1 c1 l1 k1 v1 s1 r1) w RL.out
        rw [show ptrV (RB.node b1 c1 l1 k1 v1 s1 r1) = .pointer (some ⟨b1, 0, none⟩) from rfl, show RB.red (RB.node b1 c1 l1 k1 v1 s1 r1) = c1 from rfl] at hi
        with_reducible refine hi.mono ?_
        rintro e w1 ⟨rfl, rfl⟩
        cases c1 with
        | true =>
          go_wp2_with fail
          go_meet
          exact ⟨rfl, rfl⟩
        | false =>
          go_wp2_with fail
          with_reducible refine (rh_is l1 w HBN.out.2.1.2.1).mono ?_
          rintro e w1 ⟨rfl, rfl⟩
          go_wp2_with fail
          go_meet
          exact ⟨rfl, rfl⟩
      case rest =>
      obtain ⟨rfl, rfl⟩ := hcut
      clear x0 x1
      go_upto_if 26 with (fail)
      go_cut [1] (fun hv wc => ∃ (b' : Nat) (c' : Bool) (l' : RB (Int × Int)) (k' : RK) (v' : Int) (s' : (Int × Int)) (r' : RB (Int × Int)), hv = .pointer (some ⟨b', 0, none⟩) ∧ RB.goL ofH minH (.node b c (.node b1 c1 l1 k1 v1 s1 r1) kk vv s r) = (.node b' c' l' k' v' s' r') ∧ StH w wc T B (.node b' c' l' k' v' s' r'))
      case first =>
        cases hc : (!c1 && !l1.red) with
        | false =>
          go_wp2_with fail
          go_meet
          exact ⟨b, c, _, kk, vv, s, r, rfl, if_neg (show ¬ ((!c1 && !l1.red) = true) from by rw [hc]; exact Bool.false_ne_true), HS.out⟩
        | true =>
          obtain ⟨b2, c2, l2, k2, v2, s2, r2, hr2⟩ := HRN.out hc
          have hr2 : r = .node b2 c2 l2 k2 v2 s2 r2 := hr2
          subst hr2
          go_wp2_with fail
          with_reducible refine (rh_redLeft T b b1 b2 c c1 c2 l1 r1 l2 r2 kk k1 k2 vv v1 v2 s s1 s2 w HS.out.rep HS.out.nodup HS.out.tre HS.out.notin).mono ?_
          rintro e w1 ⟨rfl, hk⟩
          obtain ⟨bz, cz, lz, kz, vz, sz, rz, nz, hz, _⟩ := HSTEP.out
          have hz2 : RB.redLeft ofH minH (.node b c (.node b1 c1 l1 k1 v1 s1 r1) kk vv s (.node b2 c2 l2 k2 v2 s2 r2)) = .node bz cz lz kz vz sz rz := (if_pos (c := (!c1 && !l1.red) = true) hc).symm.trans hz
          rw [hz2] at hk ⊢
          rw [HB.out] at hk
          have HK := Lib.hid hk
          clear hk hz2
          go_wp2_with fail
          go_meet
          exact ⟨bz, cz, lz, kz, vz, sz, rz, rfl, hz, HK.out⟩
      case rest =>
      obtain ⟨b', c', l', k', v', s', r', rfl, he, hS⟩ := hcut
      obtain ⟨wo, rfl⟩ : ∃ x : World, x = wc := ⟨_, rfl⟩
      obtain ⟨bz, cz, lz, kz, vz, sz, rz, n1, hz, hpre, hpost⟩ := HSTEP.out
      rw [he] at hz
      injection hz with q1 q2 q3 q4 q5 q6 q7
      subst q1 q2 q3 q4 q5 q6 q7
      have HL := Lib.hid (And.intro hpre hpost)
      have hit := HIT.out
      rw [he] at hit
      have HITT := Lib.hid hit
      have HW := Lib.hid hS
      have hsz : l'.size ≤ N := by
        have e := hS.perm.length_eq
        rw [← HB.out] at e
        rw [RB.size_blocks, RB.size_blocks] at e
        have := HSZ.out
        simp only [RB.size] at e this
        omega
      have HSZ2 := Lib.hid hsz
      clear hpre hpost hit hS hsz he HSTEP HRN HIT RL HBN HS HSZ
      have FACT : (b' ∉ l'.blocks ∧ b' ∉ r'.blocks) ∧ l'.blocks.Nodup ∧ (∀ x, x ∈ r'.blocks → x ∉ l'.blocks) ∧ T ≠ b' ∧ T ∉ l'.blocks := by
        have h1 := HW.out.nodup
        have h2 := HW.out.notin
        have h1' : (b' :: (l'.blocks ++ r'.blocks)).Nodup := h1
        have h2' : T ∉ (b' :: (l'.blocks ++ r'.blocks)) := h2
        obtain ⟨h3, h4⟩ := List.nodup_cons.1 h1'
        obtain ⟨h5, h6, h7⟩ := List.nodup_append.1 h4
        simp only [List.mem_cons, List.mem_append, not_or] at h2' h3
        exact ⟨h3, h5, fun x hx hx2 => h7 x hx2 x hx rfl, h2'.1, h2'.2.1⟩
      have HF := Lib.hid FACT
      clear FACT
      have y0 : wo.cell? ⟨b', 6, none⟩ = some (.pointer (ptrO l')) := by rw [← ptrV_eq]; exact HW.out.at.1.get 6 rfl
      go_wp2_with fail
      with_reducible refine (HIH.out l' n1 wo HSZ2.out HL.out.1 HW.out.at.2.1 HF.out.2.1 HW.out.tre HF.out.2.2.2.2).mono ?_
      rintro e w2 ⟨t2, d, kf, vf, rfl, hd, hi⟩
      have HD := Lib.hid (And.intro hd hi)
      have hbk := HW.out.at.1.fr hd.fr HF.out.1.1
      have HBK := Lib.hid hbk
      have y1 : w2.cell? ⟨b', 6, none⟩ = some (.pointer (ptrO l')) := by rw [← ptrV_eq]; exact hbk.get 6 rfl
      have g1 := hbk.frozen 6
      clear hd hi hbk y0
      go_upto_region 6 with (fail)
      have F3 : Fr (fun j => j = b') w2 (w2.setCell ⟨b', 6, none⟩ (.pointer (ptrO t2))) := (Fr.refl (fun j => j = b') w2).setCell (p := ⟨b', 6, none⟩) (fun _ => rfl) _
      have hp3 : List.Perm (RB.blocks (.node b' c' l' k' v' s' r')) (d :: (RB.node b' c' t2 k' v' s' r').blocks) := RB.blocks_left2 HD.out.1.perm
      have hnd3 := (hp3.nodup_iff.1 HW.out.nodup)
      have hT3 : T ∉ (RB.node b' c' t2 k' v' s' r').blocks := fun hx => HW.out.notin (hp3.mem_iff.2 (List.mem_cons_of_mem _ hx))
      have hnd4 := (List.nodup_cons.1 hnd3).2
      have hbt : b' ∉ t2.blocks := fun hx => HF.out.1.1 (HD.out.1.perm.mem_iff.2 (List.mem_cons_of_mem _ hx))
      have hR3 : RepH (w2.setCell ⟨b', 6, none⟩ (.pointer (ptrO t2))) (.node b' c' t2 k' v' s' r') := by
        have h1 := HBK.out.put 6 (.pointer (ptrO t2))
        have h2 := RepH.fr F3 HD.out.1.rep (fun x hx e => hbt (e ▸ hx))
        have h3 := RepH.fr F3 (RepH.fr HD.out.1.fr HW.out.at.2.2 (fun x hx hx2 => HF.out.2.2.1 x hx hx2)) (fun x hx e => HF.out.1.2 (e ▸ hx))
        refine ⟨?_, h2, h3⟩
        rw [ptrV_eq t2]
        exact h1
      have hTr := HD.out.1.tre.fr F3 HF.out.2.2.2.1
      have HQ := Lib.hid (And.intro hR3 (And.intro hnd4 (And.intro hTr (And.intro hT3 (And.intro F3 hp3)))))
      clear F3 hp3 hnd3 hT3 hnd4 hbt hR3 hTr y1 g1 HBK
      generalize w2.setCell ⟨b', 6, none⟩ (.pointer (ptrO t2)) = w3 at HQ ⊢
      go_wp2_with fail
      with_reducible refine (rh_balance T b' c' t2 k' v' s' r' w3 HQ.out.1 HQ.out.2.1 HQ.out.2.2.1 HQ.out.2.2.2.1).mono ?_
      rintro e w4 ⟨rfl, hS⟩
      have HS4 := Lib.hid hS
      clear hS
      go_wp2_with fail
      go_ret
      obtain ⟨hd, hi⟩ := HD.out
      obtain ⟨_, _, _, _, F3, hp3⟩ := HQ.out
      have hS := HS4.out
      refine ⟨RB.bal ofH minH (.node b' c' t2 k' v' s' r'), d, kf, vf, by rw [ptrV_eq]; rfl, ⟨HL.out.2 t2 hd.post, hS.rep, ?_, ?_, hS.tre⟩, ?_⟩
      · rw [HB.out]
        refine HW.out.fr.trans ((hd.fr.mono fun j _ hj => ?_).trans ((F3.mono fun j _ hj => ?_).trans (hS.fr.mono fun j _ hj => ?_)))
        · exact HW.out.perm.mem_iff.1 (List.mem_cons_of_mem _ (List.mem_append.2 (Or.inl hj)))
        · exact HW.out.perm.mem_iff.1 (by rw [hj]; exact List.mem_cons_self ..)
        · exact HW.out.perm.mem_iff.1 (hp3.mem_iff.2 (List.mem_cons_of_mem _ hj))
      · rw [HB.out]
        exact HW.out.perm.symm.trans (hp3.trans (hS.perm.symm.cons d))
      · rw [← HITT.out, RB.items_bal]
        simp only [RB.items]
        rw [hi]
        rfl

end Go.Proofs.Ytjlnbpomncglcaa
