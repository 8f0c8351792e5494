/-
  The document's row of chapter 9: what is put.
-/
import Derived.Test.YtjlnbpomncglcaaProg
import Derived.Test.YtjlnbpomncglcaaJRowB
namespace Go.Proofs.Ytjlnbpomncglcaa
set_option linter.unusedVariables false
set_option linter.unusedSimpArgs false
set_option maxRecDepth 100000
open Go.RowKit

section
variable {P : Program} {t e : TypeId} {i : TypeInfo} {z : Value} {size bytes : Nat}
/-- 'append(append(l[:k], one), others...)': what lies between. -/
theorem more2 (H : RowInfo P t e i z size bytes) (ty : TypeId) {w : World} {B n c k m Br : Nat} {A : Option Addr} {vr : Value} {xs its ys : List Value} (h : w.ownsRow B e size (.slice A n c) n xs) (hk : k ≤ n) (hi : its.length = size) (hr : w.ownsRow Br e size vr m ys) (hne : ∀ j, vr.ownBlock = some j → (Value.slice A n c).ownBlock ≠ some j)
    (h1 : ∀ u ∈ its, u.oneCell' = true) (h2 : ∀ u ∈ ys, u.oneCell' = true) (hn : n + m + 1 ≤ 1000000) (hB : B ≤ w.heap.size) :
    ∃ v1 w1 v2 w2, (Builtin.append_ #[t, t] ty #[.slice A k c, .slice (some ⟨w.heap.size, 0, none⟩) 1 1]).run P (w.alloc (.cells its.toArray e)) = .ok v1 w1 ∧
      (Builtin.append_ #[t, t] ty #[v1, vr]).run P w1 = .ok v2 w2 ∧ w2.ownsRow B e size v2 (k + 1 + m) (xs.take (k * size) ++ its ++ ys) ∧ Fr (fun j => (Value.slice A n c).ownBlock = some j) w w2 ∧ (∀ j, v2.ownBlock = some j → (Value.slice A n c).ownBlock = some j ∨ w.heap.size ≤ j) ∧ Fr (fun j => (Value.slice A n c).ownBlock = some j) w w1 := by
  have hob : (Value.slice A k c).ownBlock = (Value.slice A n c).ownBlock := by cases A <;> rfl
  have hnew : NewsAt (w.alloc (.cells its.toArray e)) (.slice (some ⟨w.heap.size, 0, none⟩) 1 1) 1 size its := Or.inr ⟨_, _, rfl, by omega, fun j x hj => by
    have e2 : (⟨w.heap.size, 0, none⟩ : Addr).add j = ⟨w.heap.size, j, none⟩ := by
      unfold Addr.add
      split
      · rename_i h0
        rw [h0]
      · simp only [Nat.zero_add]
    rw [e2]
    exact (Blk.new w e its.toArray).get j (by simpa using hj)⟩
  obtain ⟨v1, w1, a1, a2, a3, a4⟩ := H.append ty (w.alloc (.cells its.toArray e)) B _ k _ (own_first (h.alloc _) hk) _ _ _ hnew h1 (by omega) (by simp; omega)
  rw [hob] at a3 a4
  have hrk : w1.ownsRow Br e size vr m ys := (hr.alloc (.cells its.toArray e)).kept a3 (by
    rcases hv : vr.ownBlock with _ | j
    · exact Or.inl rfl
    · exact Or.inr (fun e => hne j hv e.symm))
  obtain ⟨v2, w2, b1, b2, b3, b4⟩ := H.append ty w1 B v1 (k + 1) _ a2 vr m ys (own_all hrk) h2 (by omega) (Nat.le_trans hB (Nat.le_trans (by simp) a3.size))
  have f1 : Fr (fun j => (Value.slice A n c).ownBlock = some j) w w1 := ((Fr.refl _ w).alloc _).grown a3 (fun j hj _ => hj)
  refine ⟨v1, w1, v2, w2, a1, b1, b2, ?_, ?_, f1⟩
  · refine f1.grown b3 (fun j hj hlt => ?_)
    rcases a4 with e4 | e4
    · rw [← e4]; exact hj
    · rw [hj] at e4
      simp at e4
      omega
  · intro j hj
    have hz : w.heap.size ≤ w1.heap.size := Nat.le_trans (by simp) a3.size
    rcases b4 with e4 | e4
    · rw [hj] at e4
      rcases a4 with e5 | e5
      · exact Or.inl (by rw [← e5, ← e4])
      · rw [← e4] at e5
        simp at e5
        exact Or.inr (by omega)
    · rw [hj] at e4
      simp at e4
      exact Or.inr (by omega)
end
set_option maxHeartbeats 16000000 in
theorem j_put (r B : Nat) (v : Value) (L : Row) (id key x : Int) (w : World) (h : JRow w r B v L) (hB : B ≤ w.heap.size) (ho : Once L) (hR : Rises L) (hf : L.length ≤ 65535) (S : Nat → Prop) (hS : ∀ j, v.ownBlock = some j → S j) (hSr : S r) :
    Calls Try.prog 59 #[.pointer (some ⟨r, 0, none⟩), .int .i64 id, .int .u64 key, .int .u64 x] w fun e w' => ∃ v', e = .returned (.tuple #[]) ∧ JRow w' r B v' (aput id key x L) ∧ Fr S w w' ∧ ∀ j, v'.ownBlock = some j → S j ∨ w.heap.size ≤ j := by
  have HBB := Lib.hid hB
  have HS := Lib.hid hS
  have HSr := Lib.hid hSr
  have DQ := Lib.hid (j_drop r B v L id w h hB ho hf)
  have HFM : Hid ((dropId id L).length ≤ 65535 ∧ Rises (dropId id L) ∧ (∀ p ∈ dropId id L, p.1.2 ≠ id)) := ⟨Nat.le_trans (dropId_len id L) hf, dropId_rises hR, fun p hp => (mem_dropId.1 hp).2⟩
  obtain ⟨bd, hbd⟩ : ∃ b, agIs id L = b := ⟨_, rfl⟩
  rw [hbd] at DQ
  obtain ⟨M, hM⟩ : ∃ M, dropId id L = M := ⟨_, rfl⟩
  rw [hM] at DQ HFM
  have HME := Lib.hid hM
  clear h hB ho hR hf hS hSr hbd hM
  go_enter Try.func59, Try.ntmps59
  go_wp2_with fail
  with_reducible refine (DQ.out).mono ?_
  rintro e w1 ⟨v1, rfl, hj1, hfr, hown1⟩
  obtain ⟨A, c, rfl, hlc, -⟩ := hj1.form
  obtain ⟨n, hln⟩ : ∃ n, M.length = n := ⟨_, rfl⟩
  have HN := Lib.hid hln
  have hfew := HFM.out.1
  rw [hln] at hj1 hlc hfew hown1
  have H1 := Lib.hid hj1
  have HD := Lib.hid (And.intro hfr hown1)
  have cH := hj1.head.get 0 rfl
  clear hj1 hfr hown1 DQ
  go_wp2
  go_loopg [8] n (fun gk ix wr => ix = .int .i64 (gk : Int) ∧ gk ≤ n ∧ wr = w1 ∧ ∀ hj : gk < M.length, klt (key, id) (M[gk]).1 = true)
  case atStart => exact ⟨by first | rfl | (congr 1), Nat.le_refl _, rfl, fun hj => absurd hj (by omega)⟩
  case round =>
    obtain ⟨rfl, hgn, rfl, hab⟩ := hrel
    have HAB := Lib.hid hab
    clear hab
    have hc : gk = 0 ∨ ∃ (m : Nat) (y : RK) (z : Int), gk = m + 1 ∧ M[m]? = some (y, z) := by
      rcases Nat.eq_zero_or_pos gk with h | h
      · exact Or.inl h
      · obtain ⟨y, z, q1, -⟩ := k_lookup (L := M) (i := gk - 1) (by omega)
        exact Or.inr ⟨gk - 1, y, z, by omega, q1⟩
    rcases hc with h0 | ⟨m, y, z, hgm, q1⟩
    · have HP : Hid (∀ j, (hj : j < M.length) → j < gk → klt (key, id) (M[j]).1 = false) := fun j hj hjg => absurd hjg (by omega)
      have d1 : decide ((0 : Int) < (gk : Int)) = false := decide_eq_false (by omega)
      have d3 : decide (0 < gk) = false := decide_eq_false (by omega)
      clear h0 cH
      have cH := H1.out.head.get 0 rfl
      go_upto_region 4 with (fail)
      clear d1 d3
      obtain ⟨A', hA'⟩ : ∃ z, (if c = gk then A else A.map (·.add (gk * 3))) = z := ⟨_, rfl⟩
      obtain ⟨i0, hi0⟩ := jrow_info
      have hX := H1.out
      have hown := hX.own
      rw [HN.out] at hown
      obtain ⟨vr, w2, r1, oR, b2⟩ := hi0.copy_last 93 hown hgn (flatJ_one M) (by omega)
      obtain ⟨v1, w3, v2, w4, r2, r3, o4, F4, hb4, F3⟩ := more2 hi0 93 (own_next hown b2) hgn (its := [.int .i64 id, .int .u64 key, .int .u64 x]) rfl oR (fun j hj e => by have := (hown.lt j e).2; have := (oR.lt j hj).1; omega) (fun u hu => by simp at hu; rcases hu with rfl | rfl | rfl <;> rfl) (fun u hu => flatJ_one M u (List.mem_of_mem_drop hu)) (by omega) (Nat.le_trans HBB.out (Nat.le_trans HD.out.1.size b2.size))
      rw [show gk + 1 + (n - gk) = n + 1 by omega] at o4
      obtain ⟨A2, c2, rfl⟩ := own_slice o4
      rw [hA'] at r1
      have bR2 := hX.head.next b2
      have bR4 := bR2.fr F4 (fun e => hX.apart e rfl)
      have cB := bR4.get 0 rfl
      have fB := bR4.frozen 0
      have cH2 := hX.head.get 0 rfl
      have cH3 := bR2.get 0 rfl
      have rlt := hX.head.lt
      have rlt2 := bR2.lt
      have HR1 := Lib.hid r1
      have HR2 := Lib.hid r2
      have HR3 := Lib.hid r3
      have HO := Lib.hid (And.intro b2 (And.intro o4 (And.intro hb4 (And.intro bR4 F4))))
      have HAP := Lib.hid (fun (e : (Value.slice A n c).ownBlock = some r) => hX.apart e rfl)
      clear r1 r2 r3 b2 o4 F4 F3 hb4 bR4 oR hown hi0 bR2 hX
      have q0 : (0 : Int) ≤ (gk : Int) := by omega
      have q1 : (gk : Int) ≤ (n : Int) := by omega
      have q2 : (n : Int) ≤ (c : Int) := by omega
      have q3 : (gk : Int) ≤ (c : Int) := by omega
      go_wp2_with (first | (at_builtin; refine wpList_append_known rfl (.tmp 61) (.tmp 67) 93 rfl _ _ _ rfl rfl HR1.out ?_) | (at_builtin; refine wpList_append_known rfl (.tmp 75) (.tmp 80) 93 rfl _ _ _ rfl rfl HR2.out ?_) | (at_builtin; refine wpList_append_known rfl (.tmp 81) (.tmp 82) 93 rfl _ _ _ rfl rfl HR3.out ?_))
      refine bodyPost_end (results_none rfl _ _ _) rfl ?_
      have hp : aput id key x L = M.take gk ++ ((key, id), x) :: M.drop gk := by
        show ins (key, id) x (dropId id L) = _
        rw [HME.out]
        exact ins_at gk (by rw [HN.out]; exact hgn) HP.out HAB.out
      have hlen : (aput id key x L).length = n + 1 := by rw [hp, List.length_append, List.length_cons, List.length_take, List.length_drop, HN.out]; omega
      have hfl : flatJ (aput id key x L) = (flatJ M).take (gk * 3) ++ [.int .i64 id, .int .u64 key, .int .u64 x] ++ (flatJ M).drop (gk * 3) := by
        rw [hp, flatJ_append, flatJ_take, flatJ_drop, List.append_assoc]
        rfl
      have hS1 : ∀ j, (Value.slice A n c).ownBlock = some j → S j ∨ w.heap.size ≤ j := fun j hj => (HD.out.2 j hj).imp (HS.out j) (fun x => x)
      first | refine ⟨rfl, .slice A2 (n + 1) c2, ⟨HO.out.2.2.2.1.put 0 _, ?_⟩, ?_, fun j hj => ?_⟩ | refine ⟨.slice A2 (n + 1) c2, rfl, ⟨HO.out.2.2.2.1.put 0 _, ?_⟩, ?_, fun j hj => ?_⟩
      · rw [hlen, hfl]
        refine ownsRow_setCell_other HO.out.2.1 (fun e => ?_) _
        rcases HO.out.2.2.1 r e with h | h
        · exact HAP.out h
        · have := HO.out.1.size
          have := H1.out.head.lt
          omega
      · refine Fr.setCell (p := ⟨r, 0, none⟩) ?_ (fun _ => HSr.out) _
        refine (HD.out.1.mono fun j _ hj => by subst hj; exact HSr.out).then (S' := fun j => (Value.slice A n c).ownBlock = some j) ((Fr.of_new HO.out.1).trans HO.out.2.2.2.2) (fun j hj e => ?_)
        rcases hS1 j e with e | e
        · exact e
        · omega
      · rcases HO.out.2.2.1 j hj with h | h
        · exact hS1 j h
        · have := HD.out.1.size; have := HO.out.1.size; exact Or.inr (by omega)
    · have e5 : wrap64 ((gk : Int) - 1) = (m : Int) := by unfold wrap64; omega
      have e6 : IntKind.i64.wrap ((gk : Int) - 1) = (m : Int) := by rw [IntKind.wrap_i64]; omega
      have p0 : (0 : Int) ≤ (m : Int) := by omega
      have p1 : (m : Int) < (n : Int) := by omega
      have d1 : decide ((0 : Int) < (gk : Int)) = true := decide_eq_true (by omega)
      have d3 : decide (0 < gk) = true := decide_eq_true (by omega)
      obtain ⟨g, hg0, hg, cj, ci, -⟩ := H1.out.cells q1
      dsimp only at ci cj
      have hmL : m < M.length := (List.getElem?_eq_some_iff.1 q1).1
      have hmy : (M[m]).1 = y := by
        have e := q1
        rw [List.getElem?_eq_getElem hmL] at e
        exact congrArg Prod.fst (Option.some.inj e)
      have HMY := Lib.hid hmy
      have HGM := Lib.hid (And.intro hgm (And.intro q1 hmL))
      have HNE : Hid (y.2 ≠ id) := HFM.out.2.2 (y, z) (List.mem_of_getElem? q1)
      subst hg0
      obtain ⟨y1, y2⟩ := y
      dsimp only at ci cj
      clear hg q1 hmy hgm
      have hcase : (klt (key, id) (y1, y2) = true ∧ (key < y1 ∨ (y1 = key ∧ id < y2))) ∨ (klt (key, id) (y1, y2) = false ∧ ¬ key < y1 ∧ (y1 = key → ¬ id < y2)) := by
        cases hh : klt (key, id) (y1, y2) with
        | true =>
          have := klt_iff.1 hh
          have e1 : ((key, id) : RK).1 = key := rfl
          exact Or.inl ⟨rfl, this.imp (fun x => x) fun ⟨a, b⟩ => ⟨a.symm, b⟩⟩
        | false =>
          refine Or.inr ⟨rfl, fun h => ?_, fun h h2 => ?_⟩
          · rw [klt_iff.2 (Or.inl h)] at hh; cases hh
          · rw [klt_iff.2 (Or.inr ⟨h.symm, h2⟩)] at hh; cases hh
      rcases hcase with ⟨hh, h2⟩ | ⟨hh, h2, h3⟩
      · have HH3 := Lib.hid hh
        rcases h2 with h2 | ⟨h2, h3⟩
        · have d4 : decide (key < y1) = true := decide_eq_true h2
          clear hh h2
          go_wp2
          go_roundg m
          case rel => exact ⟨rfl, by have := HGM.out.1; omega, rfl, fun hj => by rw [HMY.out]; exact HH3.out⟩
          case measure => have := HGM.out.1; omega
        · have d4 : decide (id < y2) = true := decide_eq_true h3
          have d5 : decide (key < y1) = false := decide_eq_false (by omega)
          have d6 : (y1 == key) = true := beq_iff_eq.2 h2
          clear hh h2 h3
          go_wp2
          go_roundg m
          case rel => exact ⟨rfl, by have := HGM.out.1; omega, rfl, fun hj => by rw [HMY.out]; exact HH3.out⟩
          case measure => have := HGM.out.1; omega
      · have HP : Hid (∀ j, (hj : j < M.length) → j < gk → klt (key, id) (M[j]).1 = false) := fun j hj hjg => by
          have hyk : klt (y1, y2) (key, id) = true := by
            cases hk : klt (y1, y2) (key, id) with
            | true => rfl
            | false =>
              have := klt_tri hh hk
              have e : id = y2 := congrArg Prod.snd this
              exact absurd e.symm HNE.out
          by_cases hjm : j = m
          · subst hjm
            rw [HMY.out]
            exact hh
          · have hlt : klt (M[j]).1 (M[m]'HGM.out.2.2).1 = true := List.pairwise_iff_getElem.1 HFM.out.2.1 j m hj HGM.out.2.2 (by have := HGM.out.1; omega)
            rw [HMY.out] at hlt
            exact klt_asymm (klt_trans hlt hyk)
        have d4 : decide (key < y1) = false := decide_eq_false h2
        by_cases hy : y1 = key
        · have d5 : decide (id < y2) = false := decide_eq_false (h3 hy)
          have d6 : (y1 == key) = true := beq_iff_eq.2 hy
          clear hh h2 h3 hy
          go_upto_region 4 with (fail)
          clear d1 d3 d4 d5 d6 e5 e6 p0 p1 ci cj cH
          generalize hA : (some (⟨g, 0, none⟩ : Addr)) = A at *
          clear hA
          obtain ⟨A', hA'⟩ : ∃ z, (if c = gk then A else A.map (·.add (gk * 3))) = z := ⟨_, rfl⟩
          obtain ⟨i0, hi0⟩ := jrow_info
          have hX := H1.out
          have hown := hX.own
          rw [HN.out] at hown
          obtain ⟨vr, w2, r1, oR, b2⟩ := hi0.copy_last 93 hown hgn (flatJ_one M) (by omega)
          obtain ⟨v1, w3, v2, w4, r2, r3, o4, F4, hb4, F3⟩ := more2 hi0 93 (own_next hown b2) hgn (its := [.int .i64 id, .int .u64 key, .int .u64 x]) rfl oR (fun j hj e => by have := (hown.lt j e).2; have := (oR.lt j hj).1; omega) (fun u hu => by simp at hu; rcases hu with rfl | rfl | rfl <;> rfl) (fun u hu => flatJ_one M u (List.mem_of_mem_drop hu)) (by omega) (Nat.le_trans HBB.out (Nat.le_trans HD.out.1.size b2.size))
          rw [show gk + 1 + (n - gk) = n + 1 by omega] at o4
          obtain ⟨A2, c2, rfl⟩ := own_slice o4
          rw [hA'] at r1
          have bR2 := hX.head.next b2
          have bR4 := bR2.fr F4 (fun e => hX.apart e rfl)
          have cB := bR4.get 0 rfl
          have fB := bR4.frozen 0
          have cH2 := hX.head.get 0 rfl
          have cH3 := bR2.get 0 rfl
          have rlt := hX.head.lt
          have rlt2 := bR2.lt
          have HR1 := Lib.hid r1
          have HR2 := Lib.hid r2
          have HR3 := Lib.hid r3
          have HO := Lib.hid (And.intro b2 (And.intro o4 (And.intro hb4 (And.intro bR4 F4))))
          have HAP := Lib.hid (fun (e : (Value.slice A n c).ownBlock = some r) => hX.apart e rfl)
          clear r1 r2 r3 b2 o4 F4 F3 hb4 bR4 oR hown hi0 bR2 hX
          have q0 : (0 : Int) ≤ (gk : Int) := by omega
          have q1 : (gk : Int) ≤ (n : Int) := by omega
          have q2 : (n : Int) ≤ (c : Int) := by omega
          have q3 : (gk : Int) ≤ (c : Int) := by omega
          go_wp2_with (first | (at_builtin; refine wpList_append_known rfl (.tmp 61) (.tmp 67) 93 rfl _ _ _ rfl rfl HR1.out ?_) | (at_builtin; refine wpList_append_known rfl (.tmp 75) (.tmp 80) 93 rfl _ _ _ rfl rfl HR2.out ?_) | (at_builtin; refine wpList_append_known rfl (.tmp 81) (.tmp 82) 93 rfl _ _ _ rfl rfl HR3.out ?_))
          refine bodyPost_end (results_none rfl _ _ _) rfl ?_
          have hp : aput id key x L = M.take gk ++ ((key, id), x) :: M.drop gk := by
            show ins (key, id) x (dropId id L) = _
            rw [HME.out]
            exact ins_at gk (by rw [HN.out]; exact hgn) HP.out HAB.out
          have hlen : (aput id key x L).length = n + 1 := by rw [hp, List.length_append, List.length_cons, List.length_take, List.length_drop, HN.out]; omega
          have hfl : flatJ (aput id key x L) = (flatJ M).take (gk * 3) ++ [.int .i64 id, .int .u64 key, .int .u64 x] ++ (flatJ M).drop (gk * 3) := by
            rw [hp, flatJ_append, flatJ_take, flatJ_drop, List.append_assoc]
            rfl
          have hS1 : ∀ j, (Value.slice A n c).ownBlock = some j → S j ∨ w.heap.size ≤ j := fun j hj => (HD.out.2 j hj).imp (HS.out j) (fun x => x)
          first | refine ⟨rfl, .slice A2 (n + 1) c2, ⟨HO.out.2.2.2.1.put 0 _, ?_⟩, ?_, fun j hj => ?_⟩ | refine ⟨.slice A2 (n + 1) c2, rfl, ⟨HO.out.2.2.2.1.put 0 _, ?_⟩, ?_, fun j hj => ?_⟩
          · rw [hlen, hfl]
            refine ownsRow_setCell_other HO.out.2.1 (fun e => ?_) _
            rcases HO.out.2.2.1 r e with h | h
            · exact HAP.out h
            · have := HO.out.1.size
              have := H1.out.head.lt
              omega
          · refine Fr.setCell (p := ⟨r, 0, none⟩) ?_ (fun _ => HSr.out) _
            refine (HD.out.1.mono fun j _ hj => by subst hj; exact HSr.out).then (S' := fun j => (Value.slice A n c).ownBlock = some j) ((Fr.of_new HO.out.1).trans HO.out.2.2.2.2) (fun j hj e => ?_)
            rcases hS1 j e with e | e
            · exact e
            · omega
          · rcases HO.out.2.2.1 j hj with h | h
            · exact hS1 j h
            · have := HD.out.1.size; have := HO.out.1.size; exact Or.inr (by omega)
        · have d5 : (y1 == key) = false := beq_eq_false_iff_ne.2 hy
          clear hh h2 h3 hy
          go_upto_region 4 with (fail)
          clear d1 d3 d4 d5 e5 e6 p0 p1 ci cj cH
          generalize hA : (some (⟨g, 0, none⟩ : Addr)) = A at *
          clear hA
          obtain ⟨A', hA'⟩ : ∃ z, (if c = gk then A else A.map (·.add (gk * 3))) = z := ⟨_, rfl⟩
          obtain ⟨i0, hi0⟩ := jrow_info
          have hX := H1.out
          have hown := hX.own
          rw [HN.out] at hown
          obtain ⟨vr, w2, r1, oR, b2⟩ := hi0.copy_last 93 hown hgn (flatJ_one M) (by omega)
          obtain ⟨v1, w3, v2, w4, r2, r3, o4, F4, hb4, F3⟩ := more2 hi0 93 (own_next hown b2) hgn (its := [.int .i64 id, .int .u64 key, .int .u64 x]) rfl oR (fun j hj e => by have := (hown.lt j e).2; have := (oR.lt j hj).1; omega) (fun u hu => by simp at hu; rcases hu with rfl | rfl | rfl <;> rfl) (fun u hu => flatJ_one M u (List.mem_of_mem_drop hu)) (by omega) (Nat.le_trans HBB.out (Nat.le_trans HD.out.1.size b2.size))
          rw [show gk + 1 + (n - gk) = n + 1 by omega] at o4
          obtain ⟨A2, c2, rfl⟩ := own_slice o4
          rw [hA'] at r1
          have bR2 := hX.head.next b2
          have bR4 := bR2.fr F4 (fun e => hX.apart e rfl)
          have cB := bR4.get 0 rfl
          have fB := bR4.frozen 0
          have cH2 := hX.head.get 0 rfl
          have cH3 := bR2.get 0 rfl
          have rlt := hX.head.lt
          have rlt2 := bR2.lt
          have HR1 := Lib.hid r1
          have HR2 := Lib.hid r2
          have HR3 := Lib.hid r3
          have HO := Lib.hid (And.intro b2 (And.intro o4 (And.intro hb4 (And.intro bR4 F4))))
          have HAP := Lib.hid (fun (e : (Value.slice A n c).ownBlock = some r) => hX.apart e rfl)
          clear r1 r2 r3 b2 o4 F4 F3 hb4 bR4 oR hown hi0 bR2 hX
          have q0 : (0 : Int) ≤ (gk : Int) := by omega
          have q1 : (gk : Int) ≤ (n : Int) := by omega
          have q2 : (n : Int) ≤ (c : Int) := by omega
          have q3 : (gk : Int) ≤ (c : Int) := by omega
          go_wp2_with (first | (at_builtin; refine wpList_append_known rfl (.tmp 61) (.tmp 67) 93 rfl _ _ _ rfl rfl HR1.out ?_) | (at_builtin; refine wpList_append_known rfl (.tmp 75) (.tmp 80) 93 rfl _ _ _ rfl rfl HR2.out ?_) | (at_builtin; refine wpList_append_known rfl (.tmp 81) (.tmp 82) 93 rfl _ _ _ rfl rfl HR3.out ?_))
          refine bodyPost_end (results_none rfl _ _ _) rfl ?_
          have hp : aput id key x L = M.take gk ++ ((key, id), x) :: M.drop gk := by
            show ins (key, id) x (dropId id L) = _
            rw [HME.out]
            exact ins_at gk (by rw [HN.out]; exact hgn) HP.out HAB.out
          have hlen : (aput id key x L).length = n + 1 := by rw [hp, List.length_append, List.length_cons, List.length_take, List.length_drop, HN.out]; omega
          have hfl : flatJ (aput id key x L) = (flatJ M).take (gk * 3) ++ [.int .i64 id, .int .u64 key, .int .u64 x] ++ (flatJ M).drop (gk * 3) := by
            rw [hp, flatJ_append, flatJ_take, flatJ_drop, List.append_assoc]
            rfl
          have hS1 : ∀ j, (Value.slice A n c).ownBlock = some j → S j ∨ w.heap.size ≤ j := fun j hj => (HD.out.2 j hj).imp (HS.out j) (fun x => x)
          first | refine ⟨rfl, .slice A2 (n + 1) c2, ⟨HO.out.2.2.2.1.put 0 _, ?_⟩, ?_, fun j hj => ?_⟩ | refine ⟨.slice A2 (n + 1) c2, rfl, ⟨HO.out.2.2.2.1.put 0 _, ?_⟩, ?_, fun j hj => ?_⟩
          · rw [hlen, hfl]
            refine ownsRow_setCell_other HO.out.2.1 (fun e => ?_) _
            rcases HO.out.2.2.1 r e with h | h
            · exact HAP.out h
            · have := HO.out.1.size
              have := H1.out.head.lt
              omega
          · refine Fr.setCell (p := ⟨r, 0, none⟩) ?_ (fun _ => HSr.out) _
            refine (HD.out.1.mono fun j _ hj => by subst hj; exact HSr.out).then (S' := fun j => (Value.slice A n c).ownBlock = some j) ((Fr.of_new HO.out.1).trans HO.out.2.2.2.2) (fun j hj e => ?_)
            rcases hS1 j e with e | e
            · exact e
            · omega
          · rcases HO.out.2.2.1 j hj with h | h
            · exact hS1 j h
            · have := HD.out.1.size; have := HO.out.1.size; exact Or.inr (by omega)

end Go.Proofs.Ytjlnbpomncglcaa
