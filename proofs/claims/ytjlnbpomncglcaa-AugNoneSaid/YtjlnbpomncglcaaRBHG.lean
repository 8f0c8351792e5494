/-
  Red-black trees in memory (h): red ones moved down.
-/
import Derived.Test.YtjlnbpomncglcaaProg
import Derived.Test.YtjlnbpomncglcaaRBHF
namespace Go.Proofs.Ytjlnbpomncglcaa
set_option linter.unusedVariables false
set_option linter.unusedSimpArgs false
set_option maxRecDepth 100000
open Go.RowKit

/-- A value put in below a node. -/
theorem rh_put (T : Nat) (k : RK) (v : Int) : ∀ (t : RB (Int × Int)) (n : Nat) (w : World), RB.W ofH minH t n → Rises t.items → RepH w t → t.blocks.Nodup → TreH w T → T ∉ t.blocks →
    Calls Try.prog 108 #[.pointer (some ⟨T, 0, none⟩), .pointer (ptrO t), .agg #[.int .u64 k.1, .int .i64 k.2], .int .u64 v] w fun e w' => ∃ t' nb, e = .returned (.pointer (ptrO t')) ∧ PutH w w' T n k v t t' nb := by
  intro t
  induction t with
  | nil =>
    intro n w hw hR h hn hT hTn
    obtain rfl : n = 0 := hw
    exact rh_put_nil T k v w hT
  | node b c l kk vv s r ihl ihr =>
    intro n w hw hR h hn hT hTn
    obtain ⟨h1, h2, h3, m, h4, h5, h6⟩ := hw
    have hm := Rises.mid (A := l.items) (p := (kk, vv)) (B := r.items) hR
    cases hk : klt k kk with
    | true => exact rh_put_l T k v b c l kk vv s r w n m h hn hT hTn hk hR h1 h2 h4 h5 h6 (fun w q1 q2 q3 q4 => ihl m w h4 hm.2.2.1 q1 q2 q3 q4)
    | false => exact rh_put_r T k v b c l kk vv s r w n m h hn hT hTn hk hR h1 h2 h4 h5 h6 (fun w q1 q2 q3 q4 => ihr m w h5 hm.2.2.2 q1 q2 q3 q4)

set_option maxHeartbeats 16000000 in
theorem rh_redLeft (T b b1 b2 : Nat) (c c1 c2 : Bool) (l1 r1 l2 r2 : RB (Int × Int)) (kk k1 k2 : RK) (vv v1 v2 : Int) (s s1 s2 : (Int × Int)) (w : World) (h : RepH w (.node b c (.node b1 c1 l1 k1 v1 s1 r1) kk vv s (.node b2 c2 l2 k2 v2 s2 r2))) (hn : (RB.blocks (.node b c (.node b1 c1 l1 k1 v1 s1 r1) kk vv s (.node b2 c2 l2 k2 v2 s2 r2))).Nodup) (hT : TreH w T) (hTn : T ∉ RB.blocks (.node b c (.node b1 c1 l1 k1 v1 s1 r1) kk vv s (.node b2 c2 l2 k2 v2 s2 r2))) :
    Calls Try.prog 114 #[.pointer (some ⟨T, 0, none⟩), .pointer (some ⟨b, 0, none⟩)] w fun e w' => e = .returned (.pointer (ptrO (RB.redLeft ofH minH (.node b c (.node b1 c1 l1 k1 v1 s1 r1) kk vv s (.node b2 c2 l2 k2 v2 s2 r2))))) ∧ StH w w' T (RB.blocks (.node b c (.node b1 c1 l1 k1 v1 s1 r1) kk vv s (.node b2 c2 l2 k2 v2 s2 r2))) (RB.redLeft ofH minH (.node b c (.node b1 c1 l1 k1 v1 s1 r1) kk vv s (.node b2 c2 l2 k2 v2 s2 r2))) := by
  have HS := Lib.hid (StH.new h hn hT hTn)
  obtain ⟨B, hB⟩ : ∃ B, RB.blocks (.node b c (.node b1 c1 l1 k1 v1 s1 r1) kk vv s (.node b2 c2 l2 k2 v2 s2 r2)) = B := ⟨_, rfl⟩
  rw [hB] at HS ⊢
  obtain ⟨tz, htz⟩ : ∃ t, RB.redLeft ofH minH (.node b c (.node b1 c1 l1 k1 v1 s1 r1) kk vv s (.node b2 c2 l2 k2 v2 s2 r2)) = t := ⟨_, rfl⟩
  rw [htz]
  have HZ := Lib.hid htz
  clear h hn hT hTn hB htz
  go_enter Try.func114, Try.ntmps114
  go_wp2_with fail
  with_reducible refine (rh_flip b b1 b2 c c1 c2 l1 r1 l2 r2 kk k1 k2 vv v1 v2 s s1 s2 w HS.out.rep HS.out.nodup).mono ?_
  rintro e wa ⟨rfl, hk⟩
  have HA := Lib.hid (HS.out.turn hk (by rintro j (rfl | rfl | rfl) <;> simp [RB.blocks]) (by simp only [RB.blocks]; exact List.Perm.refl _))
  clear hk HS
  have HP : Hid (Blk wa b 138 #[.int .u64 kk.1, .int .i64 kk.2, .int .u64 vv, .int .u64 s.1, .int .i64 s.2, .bool (!c), .pointer (some ⟨b1, 0, none⟩), .pointer (some ⟨b2, 0, none⟩)] ∧ RepH wa (.node b1 (!c1) l1 k1 v1 s1 r1) ∧ Blk wa b2 138 #[.int .u64 k2.1, .int .i64 k2.2, .int .u64 v2, .int .u64 s2.1, .int .i64 s2.2, .bool (!c2), ptrV l2, ptrV r2] ∧ RepH wa l2 ∧ RepH wa r2) := ⟨HA.out.at.1, HA.out.at.2.1, (show _ ∧ _ ∧ _ from HA.out.at.2.2)⟩
  have x1 : wa.cell? ⟨b, 7, none⟩ = some (.pointer (some ⟨b2, 0, none⟩)) := HP.out.1.get 7 rfl
  have x2 : wa.cell? ⟨b2, 6, none⟩ = some (ptrV l2) := HP.out.2.2.1.get 6 rfl
  go_wp2_with fail
  with_reducible refine (rh_is l2 wa HP.out.2.2.2.1).mono ?_
  rintro e w1 ⟨rfl, rfl⟩
  clear x1 x2
  cases l2 with
  | nil =>
    have hz : RB.redLeft ofH minH (.node b c (.node b1 c1 l1 k1 v1 s1 r1) kk vv s (.node b2 c2 .nil k2 v2 s2 r2)) = (.node b (!c) (.node b1 (!c1) l1 k1 v1 s1 r1) kk vv s (.node b2 (!c2) .nil k2 v2 s2 r2)) := rfl
    obtain rfl := hz.symm.trans HZ.out
    go_wp2_with fail
    go_ret
    exact ⟨rfl, HA.out⟩
  | node b3 c3 l3 k3 v3 s3 r3 =>
    cases c3 with
    | false =>
      obtain rfl : (.node b (!c) (.node b1 (!c1) l1 k1 v1 s1 r1) kk vv s (.node b2 (!c2) (.node b3 false l3 k3 v3 s3 r3) k2 v2 s2 r2)) = tz := HZ.out
      go_wp2_with fail
      go_ret
      exact ⟨rfl, HA.out⟩
    | true =>
      have FACT : b ≠ b2 ∧ b ≠ b3 ∧ b ∉ r2.blocks ∧ b ∉ l3.blocks ∧ b ∉ r3.blocks ∧ b ∉ (RB.node b1 (!c1) l1 k1 v1 s1 r1).blocks ∧ (RB.blocks (.node b2 (!c2) (.node b3 true l3 k3 v3 s3 r3) k2 v2 s2 r2)).Nodup ∧ T ∉ RB.blocks (.node b2 (!c2) (.node b3 true l3 k3 v3 s3 r3) k2 v2 s2 r2) ∧ (∀ x, x ∈ (RB.node b1 (!c1) l1 k1 v1 s1 r1).blocks → x ≠ b2 ∧ x ≠ b3) := by
        have h1 := HA.out.nodup
        have h2 := HA.out.notin
        have e : (RB.blocks (.node b (!c) (.node b1 (!c1) l1 k1 v1 s1 r1) kk vv s (.node b2 (!c2) (.node b3 true l3 k3 v3 s3 r3) k2 v2 s2 r2))) = b :: ((RB.node b1 (!c1) l1 k1 v1 s1 r1).blocks ++ (RB.node b2 (!c2) (.node b3 true l3 k3 v3 s3 r3) k2 v2 s2 r2).blocks) := rfl
        rw [e] at h1 h2
        obtain ⟨h3, h4⟩ := List.nodup_cons.1 h1
        obtain ⟨h5, h6, h7⟩ := List.nodup_append.1 h4
        simp only [List.mem_cons, List.mem_append, not_or] at h2 h3
        have hb2 : b2 ∈ (RB.node b2 (!c2) (.node b3 true l3 k3 v3 s3 r3) k2 v2 s2 r2).blocks := List.mem_cons_self ..
        have hb3 : b3 ∈ (RB.node b2 (!c2) (.node b3 true l3 k3 v3 s3 r3) k2 v2 s2 r2).blocks := List.mem_cons_of_mem _ (List.mem_append.2 (Or.inl (List.mem_cons_self ..)))
        have h8 := h3.2
        have h8' : b ∉ (b2 :: ((b3 :: (l3.blocks ++ r3.blocks)) ++ r2.blocks)) := h8
        simp only [List.mem_cons, List.mem_append, not_or] at h8'
        exact ⟨h8'.1, h8'.2.1.1, h8'.2.2, h8'.2.1.2.1, h8'.2.1.2.2, h3.1, h6, h2.2.2, fun x hx => ⟨h7 x hx b2 hb2, h7 x hx b3 hb3⟩⟩
      have HF := Lib.hid FACT
      clear FACT
      have x1 : wa.cell? ⟨b, 7, none⟩ = some (.pointer (some ⟨b2, 0, none⟩)) := HP.out.1.get 7 rfl
      have HRR : RepH wa (.node b2 (!c2) (.node b3 true l3 k3 v3 s3 r3) k2 v2 s2 r2) := ⟨HP.out.2.2.1, HP.out.2.2.2.1, HP.out.2.2.2.2⟩
      replace HRR := Lib.hid HRR
      go_wp2_with fail
      with_reducible refine (rh_right T b2 b3 (!c2) true r2 l3 r3 k2 k3 v2 v3 s2 s3 wa HRR.out HF.out.2.2.2.2.2.2.1 HA.out.tre HF.out.2.2.2.2.2.2.2.1).mono ?_
      rintro e wb ⟨rfl, hk⟩
      have hbk : Blk wb b 138 #[.int .u64 kk.1, .int .i64 kk.2, .int .u64 vv, .int .u64 s.1, .int .i64 s.2, .bool (!c), .pointer (some ⟨b1, 0, none⟩), .pointer (some ⟨b2, 0, none⟩)] := HP.out.1.fr hk.2 (by rintro (e | e); exact HF.out.1 e; exact HF.out.2.1 e)
      have HK := Lib.hid (And.intro hk hbk)
      have x2 : wb.cell? ⟨b, 7, none⟩ = some (.pointer (some ⟨b2, 0, none⟩)) := hbk.get 7 rfl
      have f2 := hbk.frozen 7
      clear hk hbk x1
      go_upto_region 4 with (fail)
      have F3 : Fr (fun j => j = b) wb (wb.setCell ⟨b, 7, none⟩ (.pointer (some ⟨b3, 0, none⟩))) := (Fr.refl (fun j => j = b) wb).setCell (p := ⟨b, 7, none⟩) (fun _ => rfl) _
      have hs : ToH (fun j => j = b ∨ j = b2 ∨ j = b3) (RB.setR (.node b (!c) (.node b1 (!c1) l1 k1 v1 s1 r1) kk vv s (.node b2 (!c2) (.node b3 true l3 k3 v3 s3 r3) k2 v2 s2 r2)) (RB.rotR ofH minH (.node b2 (!c2) (.node b3 true l3 k3 v3 s3 r3) k2 v2 s2 r2))) wa (wb.setCell ⟨b, 7, none⟩ (.pointer (some ⟨b3, 0, none⟩))) := by
        refine ⟨⟨HK.out.2.put 7 _, ?_, ?_⟩, (HK.out.1.2.mono fun j _ hj => Or.inr hj).trans (F3.mono fun j _ hj => Or.inl hj)⟩
        · exact RepH.fr F3 (RepH.fr HK.out.1.2 HP.out.2.1 (fun x hx => by rintro (e | e); exact (HF.out.2.2.2.2.2.2.2.2 x hx).1 e; exact (HF.out.2.2.2.2.2.2.2.2 x hx).2 e)) (fun x hx e => HF.out.2.2.2.2.2.1 (e ▸ hx))
        · refine RepH.fr F3 HK.out.1.1 (fun x hx e => ?_)
          subst e
          have hx := (RB.blocks_rotR _).mem_iff.1 hx
          have hx : x ∈ (b2 :: ((b3 :: (l3.blocks ++ r3.blocks)) ++ r2.blocks)) := hx
          simp only [List.mem_cons, List.mem_append] at hx
          have q := HF.out
          rcases hx with e | (e | e | e) | e
          · exact q.1 e
          · exact q.2.1 e
          · exact q.2.2.2.1 e
          · exact q.2.2.2.2.1 e
          · exact q.2.2.1 e
      have hp : List.Perm (RB.setR (.node b (!c) (.node b1 (!c1) l1 k1 v1 s1 r1) kk vv s (.node b2 (!c2) (.node b3 true l3 k3 v3 s3 r3) k2 v2 s2 r2)) (RB.rotR ofH minH (.node b2 (!c2) (.node b3 true l3 k3 v3 s3 r3) k2 v2 s2 r2))).blocks (RB.blocks (.node b (!c) (.node b1 (!c1) l1 k1 v1 s1 r1) kk vv s (.node b2 (!c2) (.node b3 true l3 k3 v3 s3 r3) k2 v2 s2 r2))) :=
        ((RB.blocks_rotR (of := ofH) (join := minH) (.node b2 (!c2) (.node b3 true l3 k3 v3 s3 r3) k2 v2 s2 r2)).append_left _).cons b
      have HC := Lib.hid (HA.out.turn hs (by rintro j (rfl | rfl | rfl) <;> simp [RB.blocks]) hp)
      clear hs hp F3 x2 f2
      generalize wb.setCell ⟨b, 7, none⟩ (.pointer (some ⟨b3, 0, none⟩)) = wc at HC ⊢
      clear HK HP HA HF
      rw [RB.rotR_n, RB.setR_n] at HC
      go_wp2_with fail
      with_reducible refine (rh_left T b b3 (!c) (!c2) (.node b1 (!c1) l1 k1 v1 s1 r1) l3 _ kk k3 vv v3 s _ wc HC.out.rep HC.out.nodup HC.out.tre HC.out.notin).mono ?_
      rintro e wd ⟨rfl, hk⟩
      have HD := Lib.hid (HC.out.turn hk (by rintro j (rfl | rfl) <;> simp [RB.blocks]) (RB.blocks_rotL _))
      clear hk HC
      rw [RB.rotL_n] at HD
      go_wp2_with fail
      with_reducible refine (rh_flip b3 b b2 (!c) true true _ _ _ _ k3 kk k2 v3 vv v2 _ _ _ wd HD.out.rep HD.out.nodup).mono ?_
      rintro e we ⟨rfl, hk⟩
      have HE := Lib.hid (HD.out.turn hk (by rintro j (rfl | rfl | rfl) <;> simp [RB.blocks]) (by simp only [RB.blocks]; exact List.Perm.refl _))
      clear hk HD
      obtain rfl := HZ.out
      go_wp2_with fail
      go_ret
      exact ⟨rfl, HE.out⟩

set_option maxHeartbeats 16000000 in
theorem rh_redRight (T b b1 b2 : Nat) (c c1 c2 : Bool) (l1 r1 l2 r2 : RB (Int × Int)) (kk k1 k2 : RK) (vv v1 v2 : Int) (s s1 s2 : (Int × Int)) (w : World) (h : RepH w (.node b c (.node b1 c1 l1 k1 v1 s1 r1) kk vv s (.node b2 c2 l2 k2 v2 s2 r2))) (hn : (RB.blocks (.node b c (.node b1 c1 l1 k1 v1 s1 r1) kk vv s (.node b2 c2 l2 k2 v2 s2 r2))).Nodup) (hT : TreH w T) (hTn : T ∉ RB.blocks (.node b c (.node b1 c1 l1 k1 v1 s1 r1) kk vv s (.node b2 c2 l2 k2 v2 s2 r2))) :
    Calls Try.prog 116 #[.pointer (some ⟨T, 0, none⟩), .pointer (some ⟨b, 0, none⟩)] w fun e w' => e = .returned (.pointer (ptrO (RB.redRight ofH minH (.node b c (.node b1 c1 l1 k1 v1 s1 r1) kk vv s (.node b2 c2 l2 k2 v2 s2 r2))))) ∧ StH w w' T (RB.blocks (.node b c (.node b1 c1 l1 k1 v1 s1 r1) kk vv s (.node b2 c2 l2 k2 v2 s2 r2))) (RB.redRight ofH minH (.node b c (.node b1 c1 l1 k1 v1 s1 r1) kk vv s (.node b2 c2 l2 k2 v2 s2 r2))) := by
  have HS := Lib.hid (StH.new h hn hT hTn)
  obtain ⟨B, hB⟩ : ∃ B, RB.blocks (.node b c (.node b1 c1 l1 k1 v1 s1 r1) kk vv s (.node b2 c2 l2 k2 v2 s2 r2)) = B := ⟨_, rfl⟩
  rw [hB] at HS ⊢
  obtain ⟨tz, htz⟩ : ∃ t, RB.redRight ofH minH (.node b c (.node b1 c1 l1 k1 v1 s1 r1) kk vv s (.node b2 c2 l2 k2 v2 s2 r2)) = t := ⟨_, rfl⟩
  rw [htz]
  have HZ := Lib.hid htz
  clear h hn hT hTn hB htz
  go_enter Try.func116, Try.ntmps116
  go_wp2_with fail
  with_reducible refine (rh_flip b b1 b2 c c1 c2 l1 r1 l2 r2 kk k1 k2 vv v1 v2 s s1 s2 w HS.out.rep HS.out.nodup).mono ?_
  rintro e wa ⟨rfl, hk⟩
  have HA := Lib.hid (HS.out.turn hk (by rintro j (rfl | rfl | rfl) <;> simp [RB.blocks]) (by simp only [RB.blocks]; exact List.Perm.refl _))
  clear hk HS
  have HP : Hid (Blk wa b 138 #[.int .u64 kk.1, .int .i64 kk.2, .int .u64 vv, .int .u64 s.1, .int .i64 s.2, .bool (!c), .pointer (some ⟨b1, 0, none⟩), .pointer (some ⟨b2, 0, none⟩)] ∧ Blk wa b1 138 #[.int .u64 k1.1, .int .i64 k1.2, .int .u64 v1, .int .u64 s1.1, .int .i64 s1.2, .bool (!c1), ptrV l1, ptrV r1] ∧ RepH wa l1 ∧ RepH wa r1) := ⟨HA.out.at.1, (show _ ∧ _ ∧ _ from HA.out.at.2.1)⟩
  have x1 : wa.cell? ⟨b, 6, none⟩ = some (.pointer (some ⟨b1, 0, none⟩)) := HP.out.1.get 6 rfl
  have x2 : wa.cell? ⟨b1, 6, none⟩ = some (ptrV l1) := HP.out.2.1.get 6 rfl
  go_wp2_with fail
  with_reducible refine (rh_is l1 wa HP.out.2.2.1).mono ?_
  rintro e w1 ⟨rfl, rfl⟩
  clear x1 x2
  cases l1 with
  | nil =>
    have hz : RB.redRight ofH minH (.node b c (.node b1 c1 .nil k1 v1 s1 r1) kk vv s (.node b2 c2 l2 k2 v2 s2 r2)) = (.node b (!c) (.node b1 (!c1) .nil k1 v1 s1 r1) kk vv s (.node b2 (!c2) l2 k2 v2 s2 r2)) := rfl
    obtain rfl := hz.symm.trans HZ.out
    go_wp2_with fail
    go_ret
    exact ⟨rfl, HA.out⟩
  | node b3 c3 l3 k3 v3 s3 r3 =>
    cases c3 with
    | false =>
      obtain rfl : (.node b (!c) (.node b1 (!c1) (.node b3 false l3 k3 v3 s3 r3) k1 v1 s1 r1) kk vv s (.node b2 (!c2) l2 k2 v2 s2 r2)) = tz := HZ.out
      go_wp2_with fail
      go_ret
      exact ⟨rfl, HA.out⟩
    | true =>
      clear HP
      go_wp2_with fail
      with_reducible refine (rh_right T b b1 (!c) (!c1) (.node b2 (!c2) l2 k2 v2 s2 r2) (.node b3 true l3 k3 v3 s3 r3) r1 kk k1 vv v1 s s1 wa HA.out.rep HA.out.nodup HA.out.tre HA.out.notin).mono ?_
      rintro e wd ⟨rfl, hk⟩
      have HD := Lib.hid (HA.out.turn hk (by rintro j (rfl | rfl) <;> simp [RB.blocks]) (RB.blocks_rotR _))
      clear hk HA
      rw [RB.rotR_n] at HD
      go_wp2_with fail
      with_reducible refine (rh_flip b1 b3 b (!c) true true _ _ _ _ k1 k3 kk v1 v3 vv _ _ _ wd HD.out.rep HD.out.nodup).mono ?_
      rintro e we ⟨rfl, hk⟩
      have HE := Lib.hid (HD.out.turn hk (by rintro j (rfl | rfl | rfl) <;> simp [RB.blocks]) (by simp only [RB.blocks]; exact List.Perm.refl _))
      clear hk HD
      obtain rfl := HZ.out
      go_wp2_with fail
      go_ret
      exact ⟨rfl, HE.out⟩

end Go.Proofs.Ytjlnbpomncglcaa
