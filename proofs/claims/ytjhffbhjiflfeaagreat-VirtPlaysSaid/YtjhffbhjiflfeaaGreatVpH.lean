/-
  A family beside the document's, plainly.
-/
import Derived.Test.YtjhffbhjiflfeaaGreatVpD
import Derived.Test.YtjhffbhjiflfeaaGreatRunC
namespace Go.Proofs.YtjhffbhjiflfeaaGreat
set_option linter.unusedVariables false
set_option linter.unusedSimpArgs false

def keyM (x : Mem) : Int × Int × Int × Bool := (x.id, x.T, x.v, x.up)
def keyD (d : DM) : Int × Int × Int × Bool := (d.id, d.T, d.v, d.up)
theorem key_eq {x : Mem} {d : DM} : keyM x = keyD d ↔ x.id = d.id ∧ x.T = d.T ∧ x.v = d.v ∧ x.up = d.up := by
  unfold keyM keyD
  constructor
  · intro h
    injection h with h1 h
    injection h with h2 h
    injection h with h3 h4
    exact ⟨h1, h2, h3, h4⟩
  · rintro ⟨h1, h2, h3, h4⟩
    rw [h1, h2, h3, h4]
structure Beside (Ms : List Mem) (Ds : List DM) : Prop where
  keys : (Ms.map keyM).Perm (Ds.map keyD)
  nm : (Ms.map (·.id)).Nodup
  nd : (Ds.map (·.id)).Nodup
  run : ∀ x ∈ Ms, ∀ d ∈ Ds, x.id = d.id → RunRel x.s d.F d.L d.R d.A
section
variable {Ms : List Mem} {Ds : List DM}
theorem Beside.nil : Beside [] [] := ⟨List.Perm.refl _, List.nodup_nil, List.nodup_nil, fun x hx => by cases hx⟩
theorem Beside.len (h : Beside Ms Ds) : Ds.length = Ms.length := by
  have := h.keys.length_eq
  rw [List.length_map, List.length_map] at this
  exact this.symm
theorem Beside.there (h : Beside Ms Ds) {x : Mem} (hx : x ∈ Ms) : ∃ d ∈ Ds, keyM x = keyD d := by
  obtain ⟨d, hd, e⟩ := List.mem_map.1 (h.keys.subset (List.mem_map.2 ⟨x, hx, rfl⟩))
  exact ⟨d, hd, e.symm⟩
theorem Beside.here (h : Beside Ms Ds) {d : DM} (hd : d ∈ Ds) : ∃ x ∈ Ms, keyM x = keyD d := by
  obtain ⟨x, hx, e⟩ := List.mem_map.1 (h.keys.symm.subset (List.mem_map.2 ⟨d, hd, rfl⟩))
  exact ⟨x, hx, e⟩
theorem fnd_not {id : Int} : ∀ {Ms : List Mem}, fnd id Ms = none → ∀ x ∈ Ms, x.id ≠ id
  | [], _, x, hx => by cases hx
  | y :: Ms, h, x, hx => by
    unfold fnd at h
    split at h
    · cases h
    · rename_i hy
      rcases List.mem_cons.1 hx with rfl | hx
      · exact hy
      · exact fnd_not h x hx
theorem Beside.has (h : Beside Ms Ds) {id : Int} {x : Mem} (hf : fnd id Ms = some x) : ∃ d, dfnd id Ds = some d ∧ d ∈ Ds ∧ keyM x = keyD d ∧ RunRel x.s d.F d.L d.R d.A := by
  obtain ⟨hx, hid⟩ := fnd_mem hf
  obtain ⟨d, hd, e⟩ := h.there hx
  have e1 := (key_eq.1 e).1
  refine ⟨d, ?_, hd, e, h.run x hx d hd e1⟩
  rw [← hid, e1]
  exact dfnd_of_mem h.nd hd
theorem Beside.nobody (h : Beside Ms Ds) {id : Int} (hf : fnd id Ms = Option.none) : dfnd id Ds = Option.none := by
  cases hd : dfnd id Ds with
  | none => rfl
  | some d =>
    obtain ⟨h1, h2⟩ := dfnd_mem hd
    obtain ⟨x, hx, e⟩ := h.here h1
    exact absurd ((key_eq.1 e).1.trans h2) (fnd_not hf x hx)
theorem Beside.v (h : Beside Ms Ds) (id : Int) : dV id Ds = vOf id Ms := by
  cases hf : fnd id Ms with
  | none => unfold dV vOf; rw [hf, h.nobody hf]
  | some x =>
    obtain ⟨d, hd, -, e, -⟩ := h.has hf
    unfold dV vOf
    rw [hf, hd]
    exact (key_eq.1 e).2.2.1.symm
theorem Beside.t (h : Beside Ms Ds) (id : Int) : dT id Ds = tOf id Ms := by
  cases hf : fnd id Ms with
  | none => unfold dT tOf; rw [hf, h.nobody hf]
  | some x =>
    obtain ⟨d, hd, -, e, -⟩ := h.has hf
    unfold dT tOf
    rw [hf, hd]
    exact (key_eq.1 e).2.1.symm
theorem Beside.u (h : Beside Ms Ds) (id : Int) : dU id Ds = upOf id Ms := by
  cases hf : fnd id Ms with
  | none => unfold dU upOf; rw [hf, h.nobody hf]
  | some x =>
    obtain ⟨d, hd, -, e, -⟩ := h.has hf
    unfold dU upOf
    rw [hf, hd]
    exact (key_eq.1 e).2.2.2.symm
theorem fnd_cut {id : Int} {x : Mem} : ∀ {Ms : List Mem}, fnd id Ms = some x → ∃ L1 L2, Ms = L1 ++ x :: L2 ∧ dropM id Ms = L1 ++ L2 ∧ ∀ y : Mem, y.id = id → setM y Ms = L1 ++ y :: L2
  | [], h => by cases h
  | z :: Ms, h => by
    unfold fnd at h
    split at h
    · rename_i hz
      cases h
      refine ⟨[], Ms, rfl, ?_, fun y hy => ?_⟩
      · unfold dropM; rw [if_pos hz]; rfl
      · unfold setM; rw [if_pos (by rw [hz, hy])]; rfl
    · rename_i hz
      obtain ⟨L1, L2, rfl, h2, h3⟩ := fnd_cut h
      refine ⟨z :: L1, L2, rfl, ?_, fun y hy => ?_⟩
      · conv => lhs; unfold dropM
        rw [if_neg hz, h2]
        rfl
      · conv => lhs; unfold setM
        rw [if_neg (by rw [hy]; exact hz), h3 y hy]
        rfl
theorem at_cut {id : Int} {i : Nat} {d : DM} (h : AtIs id Ds i d) : Ds = Ds.take i ++ d :: Ds.drop (i + 1) ∧ ∀ e, Ds.set i e = Ds.take i ++ e :: Ds.drop (i + 1) := by
  have hi := atIs_pos h
  have he : Ds[i] = d := (List.getElem?_eq_some_iff.1 h.1).2
  constructor
  · conv => lhs; rw [← List.take_append_drop i Ds]
    rw [List.drop_eq_getElem_cons hi, he]
  · intro e
    rw [List.set_eq_take_append_cons_drop, if_pos hi]
theorem perm_put {α : Type} {A B C D : List α} {a b : α} (h : (A ++ a :: B).Perm (C ++ a :: D)) : (A ++ B).Perm (C ++ D) ∧ (A ++ b :: B).Perm (C ++ b :: D) := by
  have h1 : (A ++ B).Perm (C ++ D) := ((List.perm_middle.symm.trans h).trans List.perm_middle).cons_inv
  exact ⟨h1, List.perm_middle.trans ((h1.cons b).trans List.perm_middle.symm)⟩
theorem Beside.cuts (h : Beside Ms Ds) {id : Int} {x : Mem} {i : Nat} {d : DM} (hf : fnd id Ms = Option.some x) (hd : AtIs id Ds i d) : keyM x = keyD d ∧ RunRel x.s d.F d.L d.R d.A ∧ d ∈ Ds := by
  obtain ⟨d', h1, h2, h3, h4⟩ := h.has hf
  rw [hd.fnd h.nd] at h1
  cases h1
  exact ⟨h3, h4, h2⟩
theorem Beside.set (h : Beside Ms Ds) {id : Int} {x y : Mem} {i : Nat} {d e : DM} (hf : fnd id Ms = Option.some x) (hd : AtIs id Ds i d) (hy : y.id = id) (hk : keyM y = keyD e) (hr : RunRel y.s e.F e.L e.R e.A) : Beside (setM y Ms) (Ds.set i e) := by
  obtain ⟨L1, L2, hM, -, hS⟩ := fnd_cut hf
  obtain ⟨hD, hT⟩ := at_cut hd
  have hkx := (h.cuts hf hd).1
  have hxid := (fnd_mem hf).2
  have eid : e.id = id := by rw [← (key_eq.1 hk).1, hy]
  rw [hS y hy, hT e]
  have hk0 := h.keys
  have hm0 := h.nm
  have hd0 := h.nd
  have hr0 := h.run
  obtain ⟨D1, hD1⟩ : ∃ z, Ds.take i = z := ⟨_, rfl⟩
  obtain ⟨D2, hD2⟩ : ∃ z, Ds.drop (i + 1) = z := ⟨_, rfl⟩
  rw [hD1, hD2] at hD ⊢
  rw [hM, hD, List.map_append, List.map_cons, List.map_append, List.map_cons, hkx] at hk0
  rw [hM, List.map_append, List.map_cons, hxid] at hm0
  rw [hD, List.map_append, List.map_cons, hd.2] at hd0
  have nm : ∀ z, z ∈ L1 ∨ z ∈ L2 → z.id ≠ id := by
    have := (List.perm_middle.nodup_iff.1 hm0)
    rw [List.nodup_cons, List.mem_append] at this
    exact fun z hz e => this.1 (hz.elim (fun h => Or.inl (List.mem_map.2 ⟨z, h, e⟩)) (fun h => Or.inr (List.mem_map.2 ⟨z, h, e⟩)))
  have nd : ∀ z, z ∈ D1 ∨ z ∈ D2 → z.id ≠ id := by
    have := (List.perm_middle.nodup_iff.1 hd0)
    rw [List.nodup_cons, List.mem_append] at this
    exact fun z hz e => this.1 (hz.elim (fun h => Or.inl (List.mem_map.2 ⟨z, h, e⟩)) (fun h => Or.inr (List.mem_map.2 ⟨z, h, e⟩)))
  refine ⟨?_, ?_, ?_, fun z hz u hu hzu => ?_⟩
  · rw [List.map_append, List.map_cons, List.map_append, List.map_cons, hk]
    exact (perm_put hk0).2
  · rw [List.map_append, List.map_cons, hy]; exact hm0
  · rw [List.map_append, List.map_cons, eid]; exact hd0
  · have hz' : z = y ∨ (z ∈ L1 ∨ z ∈ L2) := by
      rcases List.mem_append.1 hz with hz | hz
      · exact Or.inr (Or.inl hz)
      · exact (List.mem_cons.1 hz).imp (fun h => h) Or.inr
    have hu' : u = e ∨ (u ∈ D1 ∨ u ∈ D2) := by
      rcases List.mem_append.1 hu with hu | hu
      · exact Or.inr (Or.inl hu)
      · exact (List.mem_cons.1 hu).imp (fun h => h) Or.inr
    rcases hz' with rfl | hz'
    · rcases hu' with rfl | hu'
      · exact hr
      · exact absurd (hzu.symm.trans hy) (nd u hu')
    · rcases hu' with rfl | hu'
      · exact absurd (hzu.trans eid) (nm z hz')
      · refine hr0 z ?_ u ?_ hzu
        · rw [hM]; exact hz'.elim (fun h => List.mem_append_left _ h) (fun h => List.mem_append_right _ (List.mem_cons_of_mem _ h))
        · rw [hD]; exact hu'.elim (fun h => List.mem_append_left _ h) (fun h => List.mem_append_right _ (List.mem_cons_of_mem _ h))
theorem Beside.drop (h : Beside Ms Ds) {id : Int} {x : Mem} {i : Nat} {d : DM} (hf : fnd id Ms = Option.some x) (hd : AtIs id Ds i d) : Beside (dropM id Ms) (Ds.take i ++ Ds.drop (i + 1)) := by
  obtain ⟨L1, L2, hM, hS, -⟩ := fnd_cut hf
  obtain ⟨hD, -⟩ := at_cut hd
  have hkx := (h.cuts hf hd).1
  have hk0 := h.keys
  have sM : (dropM id Ms).Sublist Ms := dropM_sub id Ms
  have sD : (Ds.take i ++ Ds.drop (i + 1)).Sublist Ds := by
    conv => rhs; rw [hD]
    exact List.Sublist.append (List.Sublist.refl _) (List.sublist_cons_self ..)
  refine ⟨?_, h.nm.sublist (sM.map _), h.nd.sublist (sD.map _), fun z hz u hu => h.run z (sM.subset hz) u (sD.subset hu)⟩
  rw [hS, List.map_append, List.map_append]
  obtain ⟨D1, hD1⟩ : ∃ z, Ds.take i = z := ⟨_, rfl⟩
  obtain ⟨D2, hD2⟩ : ∃ z, Ds.drop (i + 1) = z := ⟨_, rfl⟩
  rw [hD1, hD2] at hD ⊢
  rw [hM, hD, List.map_append, List.map_cons, List.map_append, List.map_cons, hkx] at hk0
  exact (perm_put (b := keyD d) hk0).1
theorem Beside.add (h : Beside Ms Ds) {id F L R : Int} (m p q r : Nat) (hf : fnd id Ms = Option.none) (hm : May F L R) : Beside (Ms ++ [newM id m p q F L R]) (Ds ++ [newD id r F L R]) := by
  have hd := h.nobody hf
  refine ⟨?_, ?_, dfnd_absent hd rfl h.nd, fun z hz u hu hzu => ?_⟩
  · rw [List.map_append, List.map_append]
    exact h.keys.append (List.Perm.refl _)
  · rw [List.map_append, List.nodup_append]
    refine ⟨h.nm, by simp, fun a ha b hb => ?_⟩
    obtain ⟨e, he, rfl⟩ := List.mem_map.1 ha
    simp only [List.map_cons, List.map_nil, List.mem_singleton] at hb
    rw [hb]
    exact fnd_not hf e he
  · rcases List.mem_append.1 hz with hz | hz
    · rcases List.mem_append.1 hu with hu | hu
      · exact h.run z hz u hu hzu
      · rw [List.mem_singleton.1 hu] at hzu
        exact absurd hzu (fnd_not hf z hz)
    · rw [List.mem_singleton.1 hz] at hzu ⊢
      rcases List.mem_append.1 hu with hu | hu
      · exact absurd hzu.symm (dfnd_not hd u hu)
      · rw [List.mem_singleton.1 hu]
        exact RunRel.new hm
theorem Beside.core {Ms' : List Mem} (h : Beside Ms Ds) (hp : (Ms'.map coreM).Perm (Ms.map coreM)) : Beside Ms' Ds := by
  have hk : (Ms'.map keyM).Perm (Ms.map keyM) := by
    have := hp.map (fun c => (c.1, c.2.1, c.2.2.1, c.2.2.2.1))
    rw [List.map_map, List.map_map] at this
    exact this
  refine ⟨hk.trans h.keys, (core_id hp).nodup_iff.2 h.nm, h.nd, fun z hz u hu hzu => ?_⟩
  obtain ⟨x, hx, e⟩ := List.mem_map.1 (hp.subset (List.mem_map.2 ⟨z, hz, rfl⟩))
  unfold coreM at e
  injection e with e1 e
  injection e with e2 e
  injection e with e3 e
  injection e with e4 e5
  rw [← e5]
  exact h.run x hx u hu (e1.trans hzu)
theorem Beside.awake (h : Beside Ms Ds) : ((ups Ms).map keyM).Perm ((upsD Ds).map keyD) := by
  have := h.keys.filter (fun k => k.2.2.2)
  rw [List.filter_map, List.filter_map] at this
  exact this
def klt (a b : Int × Int × Int × Bool) : Prop := a.2.2.1 < b.2.2.1 ∨ (a.2.2.1 = b.2.2.1 ∧ a.1 < b.1)
/-- Both tell the same ids. -/
theorem Beside.ids (h : Beside Ms Ds) {L : List Mem} {E : List DM} (hL : IdsOf Ms L) (hE : DIds Ds E) : L.map keyM = E.map keyD := by
  have hp : (L.map keyM).Perm (E.map keyD) := ((hL.1.map keyM).trans h.awake).trans (hE.1.map keyD).symm
  have hsub : ((L.map keyM).map (·.1)).Nodup := by
    have h1 : ((ups Ms).map (·.id)).Nodup := h.nm.sublist (List.filter_sublist.map _)
    have h2 := (hL.1.map (·.id)).nodup_iff.2 h1
    rw [List.map_map]
    exact h2
  refine hp.eq_of_pairwise (le := fun a b => ¬ klt b a) (fun a b ha hb h1 h2 => ?_) ?_ ?_
  · have hb' := hp.symm.subset hb
    obtain ⟨i, hi, rfl⟩ := List.getElem_of_mem ha
    obtain ⟨j, hj, rfl⟩ := List.getElem_of_mem hb'
    have e1 : ((L.map keyM)[i]).1 = ((L.map keyM)[j]).1 := by unfold klt at h1 h2; omega
    have hn := List.pairwise_iff_getElem.1 hsub
    have key : i = j := by
      rcases Nat.lt_trichotomy i j with hlt | e | hlt
      · have := hn i j (by simpa using hi) (by simpa using hj) hlt
        exact absurd (by rw [List.getElem_map (f := fun k : Int × Int × Int × Bool => k.1) (l := L.map keyM), List.getElem_map (f := fun k : Int × Int × Int × Bool => k.1) (l := L.map keyM)]; exact e1) (hn i j (by simpa using hi) (by simpa using hj) hlt)
      · exact e
      · have := hn j i (by simpa using hj) (by simpa using hi) hlt
        exact absurd (by rw [List.getElem_map (f := fun k : Int × Int × Int × Bool => k.1) (l := L.map keyM), List.getElem_map (f := fun k : Int × Int × Int × Bool => k.1) (l := L.map keyM)]; exact e1.symm) (hn j i (by simpa using hj) (by simpa using hi) hlt)
    subst key
    rfl
  · rw [List.pairwise_map]
    exact hL.2
  · rw [List.pairwise_map]
    refine hE.2.imp ?_
    intro a b hab
    show ¬ klt (keyD b) (keyD a)
    unfold dlt at hab
    unfold klt keyD
    dsimp only
    omega
/-- Where one would wake, as the document says. -/
def startE (k : Int) (E : List DM) (v : Int) : Int := match E[0]?, E[E.length - 1]? with
  | some a, some b => max (a.v / 2 + b.v / 2 + (a.v % 2 + b.v % 2) / 2) v
  | _, _ => max k v
theorem Beside.start (h : Beside Ms Ds) (hv : Vok Ms) {E : List DM} (hE : DIds Ds E) (k v : Int) : startE k E v = startV k (ups Ms) v := by
  have hp : (E.map keyD).Perm ((ups Ms).map keyM) := (hE.1.map keyD).trans h.awake.symm
  have tow : ∀ e ∈ E, ∃ x ∈ ups Ms, x.v = e.v := fun e he => by
    obtain ⟨x, hx, e'⟩ := List.mem_map.1 (hp.subset (List.mem_map.2 ⟨e, he, rfl⟩))
    exact ⟨x, hx, (key_eq.1 e').2.2.1⟩
  have from' : ∀ x ∈ ups Ms, ∃ e ∈ E, x.v = e.v := fun x hx => by
    obtain ⟨e, he, e'⟩ := List.mem_map.1 (hp.symm.subset (List.mem_map.2 ⟨x, hx, rfl⟩))
    exact ⟨e, he, (key_eq.1 e'.symm).2.2.1⟩
  have hvu : ∀ x ∈ ups Ms, 0 ≤ x.v ∧ x.v ≤ 9223372036854775808 := fun x hx => hv x (List.mem_filter.1 hx).1
  rcases Nat.eq_zero_or_pos E.length with h0 | hpos
  · have hE0 := List.length_eq_zero_iff.1 h0
    subst hE0
    have : ups Ms = [] := List.map_eq_nil_iff.1 (List.nil_perm.1 hp)
    rw [this]
    show max k v = (if (0 : Int) < 9223372036854775808 then max v k else _)
    rw [if_pos (by decide)]
    omega
  · have hpw := List.pairwise_iff_getElem.1 hE.2
    have e0 : E[0]? = some E[0] := List.getElem?_eq_getElem _
    have e1 : E[E.length - 1]? = some (E[E.length - 1]'(by omega)) := List.getElem?_eq_getElem _
    have lo : lowOf (ups Ms) = E[0].v := by
      obtain ⟨x, hx, ex⟩ := tow _ (List.getElem_mem hpos)
      have h1 := (low_le hx).1
      rcases (low_is (D := ups Ms)).1 with e | ⟨y, hy, e⟩
      · have := hvu x hx; omega
      · obtain ⟨d, hd, ed⟩ := from' y hy
        obtain ⟨j, hj, rfl⟩ := List.getElem_of_mem hd
        rcases Nat.eq_zero_or_pos j with rfl | hj0
        · omega
        · have := hpw 0 j hpos hj hj0
          unfold dlt at this
          omega
    have hi : highOf (ups Ms) = (E[E.length - 1]'(by omega)).v := by
      obtain ⟨x, hx, ex⟩ := tow _ (List.getElem_mem (show E.length - 1 < E.length by omega))
      have h1 := (low_le hx).2
      rcases (low_is (D := ups Ms)).2 with e | ⟨y, hy, e⟩
      · have := hvu x hx; omega
      · obtain ⟨d, hd, ed⟩ := from' y hy
        obtain ⟨j, hj, rfl⟩ := List.getElem_of_mem hd
        by_cases hj1 : j = E.length - 1
        · subst hj1; omega
        · have := hpw j (E.length - 1) hj (by omega) (by omega)
          unfold dlt at this
          omega
    have hle : E[0].v ≤ (E[E.length - 1]'(by omega)).v := by
      by_cases h1 : E.length - 1 = 0
      · have : ∀ (j : Nat) (hj : j < E.length), j = 0 → E[0] = E[j] := fun j hj e => by subst e; rfl
        rw [← this (E.length - 1) (by omega) h1]
        omega
      · have := hpw 0 (E.length - 1) hpos (by omega) (by omega)
        unfold dlt at this
        omega
    have h2 : 0 ≤ E[0].v := by
      obtain ⟨x, hx, ex⟩ := tow _ (List.getElem_mem hpos)
      have := hvu x hx
      omega
    unfold startE startV
    rw [e0, e1, lo, hi]
    dsimp only
    rw [if_neg (by omega)]
    omega
end

end Go.Proofs.YtjhffbhjiflfeaaGreat

/-!
  Both families in one memory: what the one does leaves the other one; a copy's elder is turned alone.
-/
namespace Go.Proofs.YtjhffbhjiflfeaaGreat
set_option linter.unusedVariables false
set_option linter.unusedSimpArgs false
set_option maxRecDepth 100000
open Go.RowKit Go.Shelf

/-! ### The family turned, the document's stays -/
theorem own_spare {w w' : World} {B n size : Nat} {e : TypeId} {v : Value} {xs : List Value} (h : w.ownsRow B e size v n xs) (hs : Spares w w') (t1 : e ≠ 43) (t2 : e ≠ 70) (t3 : e ≠ 120) (t4 : e ≠ 123) : w'.ownsRow B e size v n xs := by
  refine ⟨h.1, ?_⟩
  rcases h.2 with h2 | ⟨g, cap, cur, h1, h2, h3, h4⟩
  · exact Or.inl h2
  · exact Or.inr ⟨g, cap, cur, h1, h2, hs g e cur t1 t2 t3 t4 h3, h4⟩
theorem RunD.spare {w w' : World} {B r : Nat} {F L R : Int} {vx vy : Value} {A : List (Int × Int)} (h : RunD w B r F L R vx vy A) (hs : Spares w w') : RunD w' B r F L R vx vy A :=
  ⟨h.lr, hs _ _ _ (by decide) (by decide) (by decide) (by decide) h.blk, own_spare h.ox hs (by decide) (by decide) (by decide) (by decide), own_spare h.oy hs (by decide) (by decide) (by decide) (by decide), h.ap⟩
theorem FamD.spare {w w' : World} {B f : Nat} {k : Int} {vL : Value} {Ds : List DM} (h : FamD w B f k vL Ds) (hs : Spares w w') : FamD w' B f k vL Ds :=
  ⟨h.lf, hs _ _ _ (by decide) (by decide) (by decide) (by decide) h.blk, own_spare h.own hs (by decide) (by decide) (by decide) (by decide), fun d hd => (h.mem d hd).spare hs, h.ap, h.ids⟩

/-! ### The document's turned, the family stays -/
theorem not_doc {w : World} {g : Nat} {t : TypeId} {cs : Array Value} (h : Blk w g t cs) (t1 : t ≠ 30) (t2 : t ≠ 75) (t3 : t ≠ 106) (t4 : t ≠ 28) : ¬ DocB w g := by
  rintro ⟨t', cs', hb, e⟩
  have key : t = t' := by
    unfold Blk at h hb
    rw [h] at hb
    injection hb with hb
    injection hb with _ e
  subst key
  rcases e with e | e | e | e
  · exact t1 e
  · exact t2 e
  · exact t3 e
  · exact t4 e
theorem FamIn.doc {B B' : Nat} {w0 w w' : World} {f mb : Nat} {S : FS} (h : FamIn B w0 w f mb S) (hd : DFr B' w w') (hB : B ≤ B') : FamIn B w0 w' f mb S := by
  have hf := h.fam
  have nd : ∀ {g : Nat} {t : TypeId} {cs : Array Value}, Blk w g t cs → t ≠ 30 → t ≠ 75 → t ≠ 106 → t ≠ 28 → ¬ (B' ≤ g ∧ DocB w g) := fun hb t1 t2 t3 t4 hs => not_doc hb t1 t2 t3 t4 hs.2
  refine ⟨⟨hf.blk.fr hd (nd hf.blk (by decide) (by decide) (by decide) (by decide)), hf.map.fr hd ?_, fun x hx => ?_, hf.nm, hf.nq⟩, h.lf, h.lm, h.mem, h.below.trans (Fr.below hd (Nat.le_trans h.size h.below.size) (fun k hk hs => by have := hs.1; omega)), h.size⟩
  · rintro ⟨-, t, cs, hb, -⟩
    exact hf.map.ne hb rfl
  · have hx := hf.mem x hx
    refine ⟨hx.1.fr hd (nd hx.1 (by decide) (by decide) (by decide) (by decide)), hx.2.fr hd ?_ ?_ ?_⟩
    · obtain ⟨c, hc⟩ := hx.2.parts.1
      exact nd hc (by decide) (by decide) (by decide) (by decide)
    · rcases hx.2.parts.2 with ⟨c, hc⟩ | ⟨c, hc⟩
      · exact nd hc (by decide) (by decide) (by decide) (by decide)
      · exact nd hc (by decide) (by decide) (by decide) (by decide)
    · intro b c hc
      exact nd hc (by decide) (by decide) (by decide) (by decide)

/-! ### A copy's elder -/
def Of (f mb : Nat) (L : List Mem) (k : Nat) : Prop := k = f ∨ k = mb ∨ ∃ x ∈ L, k = x.m ∨ k = x.q
theorem FamAt.spared {w : World} {f mb : Nat} {k : Int} {L : List Mem} (h : FamAt w f mb k L) {g : Nat} {t : TypeId} {cs : Array Value} (hb : Blk w g t cs) (t1 : t ≠ 43) (t2 : t ≠ 70) (t3 : t ≠ 120) (t4 : t ≠ 123) : ¬ Of f mb L g := by
  rintro (e | e | ⟨x, hx, e | e⟩)
  · exact Blk.ne_of_type hb h.blk t1 e
  · exact h.map.ne hb e.symm
  · exact Blk.ne_of_type hb (h.mem x hx).1 t2 e
  · rcases (h.mem x hx).2.parts.2 with ⟨c', hc⟩ | ⟨c', hc⟩
    · exact Blk.ne_of_type hb hc t3 e
    · exact Blk.ne_of_type hb hc t4 e
structure Turned (w w' : World) (f mb : Nat) (S S' : FS) : Prop where
  fam : FamAt w' f mb S'.k S'.L
  fr : Fr (Of f mb S.L) w w'
  sub : ∀ k, Of f mb S'.L k → Of f mb S.L k
theorem Turned.refl {w : World} {f mb : Nat} {S : FS} (h : FamAt w f mb S.k S.L) : Turned w w f mb S S := ⟨h, Fr.refl _ _, fun _ h => h⟩
theorem Turned.trans {w w1 w2 : World} {f mb : Nat} {S S1 S2 : FS} (h : Turned w w1 f mb S S1) (k : Turned w1 w2 f mb S1 S2) : Turned w w2 f mb S S2 :=
  ⟨k.fam, h.fr.trans (k.fr.mono fun g _ hg => h.sub g hg), fun g hg => h.sub g (k.sub g hg)⟩
theorem of_set {f mb : Nat} {L : List Mem} {x y : Mem} (hx : x ∈ L) (hm : y.m = x.m) (hq : y.q = x.q) : ∀ k, Of f mb (setM y L) k → Of f mb L k := by
  rintro k (e | e | ⟨z, hz, e⟩)
  · exact Or.inl e
  · exact Or.inr (Or.inl e)
  · rcases mem_set hz with rfl | hz
    · exact Or.inr (Or.inr ⟨x, hx, by rw [← hm, ← hq]; exact e⟩)
    · exact Or.inr (Or.inr ⟨z, hz, e⟩)
theorem old_gain {w : World} {f mb : Nat} {S : FS} (id g : Int) {N : Nat} (h : FamAt w f mb S.k S.L) (ok : S.ok N) (hN : N ≤ 1000000) (hg : Word g) :
    Calls Tryz.prog 17 #[.pointer (some ⟨f, 0, none⟩), .int .i64 id, .int .u64 g] w fun e w' => e = .returned (.tuple #[]) ∧ Turned w w' f mb S (S.gain id g) := by
  unfold FS.gain
  cases hf : fnd id S.L with
  | none => exact (vgain_none f mb S.k id g S.L w h hf).mono (by rintro e w' ⟨rfl, rfl⟩; exact ⟨rfl, Turned.refl h⟩)
  | some x =>
    have hin := (fnd_mem hf).1
    have hx := ok.mem x hin
    refine (vgain_some f mb S.k id g S.L x w h hf (hx.memOk hN) hg).mono ?_
    rintro e w' ⟨rfl, h1, h2⟩
    refine ⟨rfl, ?_⟩
    have hT : ∀ k, (k = f ∨ k = x.m) → Of f mb S.L k := by
      rintro k (e | e)
      · exact Or.inl e
      · exact Or.inr (Or.inr ⟨x, hin, Or.inl e⟩)
    dsimp only
    split at h1
    · rename_i hu
      rw [if_pos hu]
      exact ⟨h1, h2.mono fun k _ hk => hT k hk, of_set hin rfl rfl⟩
    · rename_i hu
      rw [if_neg hu]
      exact ⟨h1, h2.mono fun k _ hk => hT k hk, of_set hin rfl rfl⟩
theorem old_wake {w : World} {f mb : Nat} {S : FS} (id : Int) {N : Nat} (h : FamAt w f mb S.k S.L) (ok : S.ok N) (hN : N ≤ 1000000) :
    Calls Tryz.prog 13 #[.pointer (some ⟨f, 0, none⟩), .int .i64 id] w fun e w' => e = .returned (.tuple #[]) ∧ Turned w w' f mb S (S.wake id) := by
  unfold FS.wake
  cases hf : fnd id S.L with
  | none => exact (vwake_none f mb S.k id S.L w h hf).mono (by rintro e w' ⟨rfl, rfl⟩; exact ⟨rfl, Turned.refl h⟩)
  | some x =>
    have hin := (fnd_mem hf).1
    have hx := ok.mem x hin
    dsimp only
    rcases Bool.eq_false_or_eq_true x.up with hu | hu
    · exact (vwake_up f mb S.k id S.L x w h hf hu).mono (by rintro e w' ⟨rfl, rfl⟩; exact ⟨rfl, by rw [if_pos hu]; exact Turned.refl h⟩)
    · refine (vwake_some f mb S.k id S.L x w h hf hu ok.vok (hx.memOk hN) ⟨ok.k0, ok.k1⟩).mono ?_
      rintro e w' ⟨rfl, h1, h2⟩
      refine ⟨rfl, ?_⟩
      rw [if_neg (by rw [hu]; decide)]
      refine ⟨h1, h2.mono ?_, of_set hin rfl rfl⟩
      rintro k _ (e | e | e)
      · exact Or.inl e
      · exact Or.inr (Or.inr ⟨x, hin, Or.inl e⟩)
      · exact Or.inr (Or.inr ⟨x, hin, Or.inr e⟩)
theorem old_sleep {w : World} {f mb : Nat} {S : FS} (id : Int) (h : FamAt w f mb S.k S.L) :
    Calls Tryz.prog 15 #[.pointer (some ⟨f, 0, none⟩), .int .i64 id] w fun e w' => e = .returned (.tuple #[]) ∧ Turned w w' f mb S (S.sleep id) := by
  refine (vsleep_any f mb S.k id S.L w h).mono ?_
  rintro e w' ⟨rfl, h1⟩
  refine ⟨rfl, ?_⟩
  unfold FS.sleep
  cases hf : fnd id S.L with
  | none => rw [hf] at h1; subst h1; exact Turned.refl h
  | some x =>
    rw [hf] at h1
    have hin := (fnd_mem hf).1
    exact ⟨h1.1, h1.2.mono fun k _ e => Or.inr (Or.inr ⟨x, hin, Or.inl e⟩), of_set hin rfl rfl⟩
theorem old_drop {w : World} {f mb : Nat} {S : FS} (id : Int) (h : FamAt w f mb S.k S.L) :
    Calls Tryz.prog 11 #[.pointer (some ⟨f, 0, none⟩), .int .i64 id] w fun e w' => e = .returned (.bool (fnd id S.L).isSome) ∧ Turned w w' f mb S (S.drop id) := by
  unfold FS.drop
  cases hf : fnd id S.L with
  | none => exact (vdrop_none f mb S.k id S.L w h hf).mono (by rintro e w' ⟨rfl, rfl⟩; rw [drop_absent hf]; exact ⟨rfl, Turned.refl h⟩)
  | some x =>
    refine (vdrop_some f mb S.k id S.L x w h hf).mono ?_
    rintro e w' ⟨rfl, h1, h2⟩
    refine ⟨rfl, h1, h2.mono fun k _ e => Or.inr (Or.inl e), ?_⟩
    rintro k (e | e | ⟨z, hz, e⟩)
    · exact Or.inl e
    · exact Or.inr (Or.inl e)
    · exact Or.inr (Or.inr ⟨z, (dropM_sub id S.L).subset hz, e⟩)
theorem FamAt.apart {w w' : World} {f mb out m2 n : Nat} {k k' : Int} {L L' : List Mem} (h : FamAt w out m2 k' L') (hold : FamAt w f mb k L) (hf : Fr (Of f mb L) w w') (hn : ∀ g, Of f mb L g → g < n) (ho : n ≤ out) (hm : n ≤ m2) (hx : ∀ x ∈ L', n ≤ x.m ∧ n ≤ x.q) : FamAt w' out m2 k' L' := by
  have nn : ∀ g, n ≤ g → ¬ Of f mb L g := fun g hg hk => by have := hn g hk; omega
  refine ⟨h.blk.fr hf (nn _ ho), h.map.fr hf (nn _ hm), fun x hx' => ?_, h.nm, h.nq⟩
  have hxm := h.mem x hx'
  refine ⟨hxm.1.fr hf (nn _ (hx x hx').1), hxm.2.fr hf ?_ (nn _ (hx x hx').2) ?_⟩
  · obtain ⟨c, hc⟩ := hxm.2.parts.1
    exact hold.spared hc (by decide) (by decide) (by decide) (by decide)
  · intro b c hc
    exact hold.spared hc (by decide) (by decide) (by decide) (by decide)
theorem Turned.spares {w w' : World} {f mb : Nat} {S S' : FS} (h : Turned w w' f mb S S') (h0 : FamAt w f mb S.k S.L) : Spares w w' := fun g t cs a b c d hb => hb.fr h.fr (h0.spared hb a b c d)
theorem FamIn.of_lt {B : Nat} {w0 w : World} {f mb : Nat} {S : FS} (h : FamIn B w0 w f mb S) {k : Nat} (hk : Of f mb S.L k) : B ≤ k ∧ k < w.heap.size := by
  rcases hk with rfl | rfl | ⟨x, hx, rfl | rfl⟩
  · exact ⟨h.lf, h.fam.blk.lt⟩
  · exact ⟨h.lm, h.fam.map.lt⟩
  · exact ⟨(h.mem x hx).1, (h.fam.mem x hx).1.lt⟩
  · refine ⟨(h.mem x hx).2, ?_⟩
    rcases (h.fam.mem x hx).2.parts.2 with ⟨c, hc⟩ | ⟨c, hc⟩
    · exact hc.lt
    · exact hc.lt
theorem FS.ok.core {N : Nat} {S : FS} {L' : List Mem} (h : S.ok N) (hp : (L'.map coreM).Perm (S.L.map coreM)) : (FS.mk S.k L').ok N := by
  refine ⟨h.k0, h.k1, ?_, fun x hx => ?_⟩
  · have := hp.length_eq
    rw [List.length_map, List.length_map] at this
    have := h.len
    show L'.length ≤ N
    omega
  · obtain ⟨y, hy, e⟩ := List.mem_map.1 (hp.subset (List.mem_map.2 ⟨x, hx, rfl⟩))
    have hy := h.mem y hy
    unfold coreM at e
    injection e with e1 e
    injection e with e2 e
    injection e with e3 e
    injection e with e4 e5
    exact ⟨by rw [← e2]; exact hy.t0, by rw [← e2]; exact hy.t1, by rw [← e5]; exact hy.ok, by rw [← e5]; exact hy.many, by rw [← e3]; exact hy.v0, by rw [← e3]; exact hy.v1, by rw [← e4, ← e5]; exact hy.one, by rw [← e4, ← e5, ← e3, ← e2]; exact hy.reach⟩

theorem FamIn.turn {B : Nat} {w0 w w' : World} {f mb : Nat} {S S' : FS} (h : FamIn B w0 w f mb S) (t : Turned w w' f mb S S') : FamIn B w0 w' f mb S' := by
  refine ⟨t.fam, h.lf, h.lm, fun x hx => ?_, h.below.trans (t.fr.below (Nat.le_trans h.size h.below.size) (fun k hk ht => by have := (h.of_lt ht).1; omega)), h.size⟩
  exact ⟨(h.of_lt (t.sub _ (Or.inr (Or.inr ⟨x, hx, Or.inl rfl⟩)))).1, (h.of_lt (t.sub _ (Or.inr (Or.inr ⟨x, hx, Or.inr rfl⟩)))).1⟩
/-- What came in lies as it lay. -/
def ActKept (w w' : World) : Prop := Fr (fun k => ∀ cs, ¬ Blk w k 34 cs) w w'
theorem ActKept.refl (w : World) : ActKept w w := Fr.refl _ w
theorem ActKept.of_below {w w' : World} (h : Below w.heap.size w w') : ActKept w w' := Fr.of_new h
theorem ActKept.act {w w' : World} {g : Nat} {cs : Array Value} (h : ActKept w w') (hb : Blk w g 34 cs) : Blk w' g 34 cs := hb.fr h fun hn => hn cs hb
theorem Turned.kept {w w' : World} {f mb : Nat} {S S' : FS} (t : Turned w w' f mb S S') (h : FamAt w f mb S.k S.L) : ActKept w w' := t.fr.mono fun k _ hk cs hb => h.spared hb (by decide) (by decide) (by decide) (by decide) hk
theorem DFr.kept {B : Nat} {w w' : World} (h : DFr B w w') : ActKept w w' := Fr.mono h fun k _ hk cs hb => not_doc hb (by decide) (by decide) (by decide) (by decide) hk.2
/-- All but one block may be turned. -/
theorem ActKept.fr {w w' : World} {g : Nat} {cs : Array Value} (h : ActKept w w') (hb : Blk w g 34 cs) : Fr (fun k => k ≠ g) w w' := Fr.mono h fun k _ hk e => hk cs (by rw [e]; exact hb)

/-! ### Both -/
structure Two2 (B : Nat) (w0 w : World) (f mb fd : Nat) (vL : Value) (S : FS) (Ds : List DM) (N : Nat) : Prop where
  fam : FamIn B w0 w f mb S
  doc : FamD w B fd S.k vL Ds
  ok : S.ok N
  bes : Beside S.L Ds
/-- The family has done its part; the document's has not yet. -/
structure Half2 (B : Nat) (w0 w : World) (f mb fd : Nat) (vL : Value) (S S' : FS) (Ds : List DM) (N : Nat) : Prop where
  fam : FamIn B w0 w f mb S'
  doc : FamD w B fd S.k vL Ds
  ok : S.ok N
  bes : Beside S.L Ds
section
variable {B : Nat} {w0 w w' : World} {f mb fd : Nat} {vL : Value} {S : FS} {Ds : List DM} {N : Nat}
theorem Two2.next (h : Two2 B w0 w f mb fd vL S Ds N) (hb : Below w.heap.size w w') : Two2 B w0 w' f mb fd vL S Ds N := ⟨h.fam.next hb, h.doc.next hb, h.ok, h.bes⟩
theorem Two2.len (h : Two2 B w0 w f mb fd vL S Ds N) : Ds.length ≤ N := by
  have := h.ok.len
  have := h.bes.len
  omega
theorem Two2.hB (h : Two2 B w0 w f mb fd vL S Ds N) : B ≤ w.heap.size := Nat.le_trans h.fam.size h.fam.below.size
theorem Two2.more (h : Two2 B w0 w f mb fd vL S Ds N) {N' : Nat} (hN : N ≤ N') : Two2 B w0 w f mb fd vL S Ds N' := ⟨h.fam, h.doc, h.ok.more hN, h.bes⟩
theorem Half2.next {S' : FS} (h : Half2 B w0 w f mb fd vL S S' Ds N) (hb : Below w.heap.size w w') : Half2 B w0 w' f mb fd vL S S' Ds N := ⟨h.fam.next hb, h.doc.next hb, h.ok, h.bes⟩
theorem Half2.len {S' : FS} (h : Half2 B w0 w f mb fd vL S S' Ds N) : Ds.length ≤ N := by
  have := h.ok.len
  have := h.bes.len
  omega
theorem Half2.hB {S' : FS} (h : Half2 B w0 w f mb fd vL S S' Ds N) : B ≤ w.heap.size := Nat.le_trans h.fam.size h.fam.below.size
theorem Two2.half {S' : FS} (h : Two2 B w0 w f mb fd vL S Ds N) (t : Turned w w' f mb S S') : Half2 B w0 w' f mb fd vL S S' Ds N ∧ ActKept w w' :=
  ⟨⟨h.fam.turn t, h.doc.spare (t.spares h.fam.fam), h.ok, h.bes⟩, t.kept h.fam.fam⟩
theorem p_add1 (id F L R : Int) (h : Two2 B w0 w f mb fd vL S Ds N) (wF : Word F) (wL : Word L) (wR : Word R) :
    Calls Tryz.prog 9 #[.pointer (some ⟨f, 0, none⟩), .int .i64 id, .agg #[.int .u64 F, .int .u64 L, .int .u64 R]] w fun e w' => e = .returned (.bool (addR id F L R S)) ∧ ∃ S', Added id F L R S S' ∧ Half2 B w0 w' f mb fd vL S S' Ds N ∧ ActKept w w' := by
  have hf0 := h.fam
  unfold addR Added
  cases hf : fnd id S.L with
  | some x =>
    refine (vadd_here f mb S.k id S.L x F L R w hf0.fam hf).mono ?_
    rintro e w' ⟨rfl, hb⟩
    exact ⟨rfl, S, Or.inr ⟨by unfold addR; rw [hf]; rfl, rfl⟩, ⟨hf0.next hb, h.doc.next hb, h.ok, h.bes⟩, .of_below hb⟩
  | none =>
    cases hm : mayB F L R with
    | false =>
      refine (vadd_bad f mb S.k id S.L F L R w hf0.fam hf wF wL wR hm).mono ?_
      rintro e w' ⟨rfl, hb⟩
      exact ⟨rfl, S, Or.inr ⟨by unfold addR; rw [hf, hm]; rfl, rfl⟩, ⟨hf0.next hb, h.doc.next hb, h.ok, h.bes⟩, .of_below hb⟩
    | true =>
      refine (vadd_some f mb S.k id S.L F L R w hf0.fam hf wF wL wR hm).mono ?_
      rintro e w' ⟨rfl, ⟨m, p, q, h1, h2, h3⟩, h4⟩
      have hs := Nat.le_trans hf0.size hf0.below.size
      have ht := hf0.to (S' := S.add id m p q F L R) h3 h4 (fun k e => Or.inr (Or.inl e)) (fun x hx => by
        rcases List.mem_append.1 hx with hx | hx
        · exact hf0.mem x hx
        · rw [List.mem_singleton.1 hx]
          exact ⟨Nat.le_trans hs h1, Nat.le_trans hs h2⟩)
      exact ⟨rfl, S.add id m p q F L R, Or.inl ⟨by unfold addR; rw [hf, hm]; rfl, may_of wF wL wR hm, m, p, q, rfl⟩, ⟨ht.1, h.doc.spare ht.2, h.ok, h.bes⟩, h4.mono fun k _ e cs hb => hf0.fam.map.ne hb e.symm⟩
theorem fnd_iff (h : Beside S.L Ds) (id : Int) : (dfnd id Ds).isNone = (fnd id S.L).isNone := by
  cases hf : fnd id S.L with
  | none => rw [h.nobody hf]; rfl
  | some x =>
    obtain ⟨d, hd, -⟩ := h.has hf
    rw [hd]
    rfl
theorem p_add2 (id F L R : Int) {S' : FS} (h : Half2 B w0 w f mb fd vL S S' Ds N) (ha : Added id F L R S S') (hN : N ≤ 65535) (wL : Word L) :
    Calls Tryz.prog 10 #[.pointer (some ⟨fd, 0, none⟩), .int .i64 id, .agg #[.int .u64 F, .int .u64 L, .int .u64 R]] w fun e w' => e = .returned (.bool (addR id F L R S)) ∧ (∃ vL' Ds', Two2 B w0 w' f mb fd vL' S' Ds' (N + 1)) ∧ ActKept w w' := by
  refine (d_add B fd S.k vL Ds id F L R w h.doc h.hB (Nat.le_trans h.len hN) wL).mono ?_
  rintro e w' ⟨b, rfl, hb, h1, h2⟩
  have eb : addR id F L R S = b := by
    unfold addR
    rw [← fnd_iff h.bes id]
    exact hb
  refine ⟨by rw [eb], ?_, h2.kept⟩
  have hf := h.fam.doc h2 (Nat.le_refl _)
  rcases ha with ⟨a1, hm, m, p, q, rfl⟩ | ⟨a1, rfl⟩
  · rw [a1] at eb
    subst eb
    rw [if_pos rfl] at h1
    obtain ⟨r, vL', h1⟩ := h1
    have hn : fnd id S.L = none := by
      unfold addR at a1
      cases e : fnd id S.L with
      | none => rfl
      | some x => rw [e] at a1; cases a1
    exact ⟨vL', _, hf, h1, h.ok.add id m p q hm, h.bes.add m p q r hn hm⟩
  · rw [a1] at eb
    subst eb
    rw [if_neg (by decide)] at h1
    exact ⟨vL, Ds, hf, h1, h.ok.more (Nat.le_succ _), h.bes⟩
theorem p_drop1 (id : Int) (h : Two2 B w0 w f mb fd vL S Ds N) :
    Calls Tryz.prog 11 #[.pointer (some ⟨f, 0, none⟩), .int .i64 id] w fun e w' => e = .returned (.bool (fnd id S.L).isSome) ∧ Half2 B w0 w' f mb fd vL S (S.drop id) Ds N ∧ ActKept w w' :=
  (old_drop id h.fam.fam).mono (by rintro e w' ⟨rfl, t⟩; exact ⟨rfl, h.half t⟩)
theorem p_drop2 (id : Int) (h : Half2 B w0 w f mb fd vL S (S.drop id) Ds N) (hN : N ≤ 65535) :
    Calls Tryz.prog 12 #[.pointer (some ⟨fd, 0, none⟩), .int .i64 id] w fun e w' => e = .returned (.bool (fnd id S.L).isSome) ∧ (∃ vL' Ds', Two2 B w0 w' f mb fd vL' (S.drop id) Ds' N) ∧ ActKept w w' := by
  refine (d_drop B fd S.k vL Ds id w h.doc h.hB (Nat.le_trans h.len hN)).mono ?_
  have hiff := fnd_iff h.bes id
  rintro e w' (⟨hd, rfl, rfl⟩ | ⟨i, d, vL', hi, rfl, h1, h2⟩)
  · rw [hd] at hiff
    have hn : fnd id S.L = none := by
      cases e : fnd id S.L with
      | none => rfl
      | some x => rw [e] at hiff; cases hiff
    refine ⟨by rw [hn]; rfl, ⟨vL, Ds, h.fam, h.doc, h.ok.drop id, ?_⟩, .refl _⟩
    show Beside (dropM id S.L) Ds
    rw [drop_absent hn]
    exact h.bes
  · have hd := hi.fnd h.doc.ids
    rw [hd] at hiff
    cases e : fnd id S.L with
    | none => rw [e] at hiff; cases hiff
    | some x => exact ⟨rfl, ⟨vL', _, h.fam.doc h2 (Nat.le_refl _), h1, h.ok.drop id, h.bes.drop e hi⟩, h2.kept⟩
theorem p_sleep1 (id : Int) (h : Two2 B w0 w f mb fd vL S Ds N) :
    Calls Tryz.prog 15 #[.pointer (some ⟨f, 0, none⟩), .int .i64 id] w fun e w' => e = .returned (.tuple #[]) ∧ Half2 B w0 w' f mb fd vL S (S.sleep id) Ds N ∧ ActKept w w' :=
  (old_sleep id h.fam.fam).mono (by rintro e w' ⟨rfl, t⟩; exact ⟨rfl, h.half t⟩)
theorem p_sleep2 (id : Int) (h : Half2 B w0 w f mb fd vL S (S.sleep id) Ds N) (hN : N ≤ 65535) :
    Calls Tryz.prog 16 #[.pointer (some ⟨fd, 0, none⟩), .int .i64 id] w fun e w' => e = .returned (.tuple #[]) ∧ (∃ vL' Ds', Two2 B w0 w' f mb fd vL' (S.sleep id) Ds' N) ∧ ActKept w w' := by
  refine (d_sleep B fd S.k vL Ds id w h.doc (Nat.le_trans h.len hN)).mono ?_
  have hfam := h.fam
  have hok := h.ok.sleep id
  have hiff := fnd_iff h.bes id
  rintro e w' ⟨rfl, ⟨hd, rfl⟩ | ⟨i, d, hi, h1, h2⟩⟩
  · rw [hd] at hiff
    have hn : fnd id S.L = none := by
      cases e : fnd id S.L with
      | none => rfl
      | some x => rw [e] at hiff; cases hiff
    have eS : S.sleep id = S := by unfold FS.sleep; rw [hn]
    rw [eS] at hfam hok ⊢
    exact ⟨rfl, ⟨vL, Ds, hfam, h.doc, hok, h.bes⟩, .refl _⟩
  · have hd := hi.fnd h.doc.ids
    rw [hd] at hiff
    cases e : fnd id S.L with
    | none => rw [e] at hiff; cases hiff
    | some x =>
      have eS : S.sleep id = ⟨S.k, setM { x with up := false } S.L⟩ := by unfold FS.sleep; rw [e]
      rw [eS] at hfam hok ⊢
      obtain ⟨k1, k2, k3⟩ := h.bes.cuts e hi
      have k1 := key_eq.1 k1
      exact ⟨rfl, ⟨vL, _, hfam.doc h2 (Nat.le_refl _), h1, hok, h.bes.set (y := { x with up := false }) e hi (fnd_mem e).2 (key_eq.2 ⟨k1.1, k1.2.1, k1.2.2.1, rfl⟩) k2⟩, h2.kept⟩
theorem p_gain1 (id g : Int) (h : Two2 B w0 w f mb fd vL S Ds N) (hN : N ≤ 65535) (hg : Word g) :
    Calls Tryz.prog 17 #[.pointer (some ⟨f, 0, none⟩), .int .i64 id, .int .u64 g] w fun e w' => e = .returned (.tuple #[]) ∧ Half2 B w0 w' f mb fd vL S (S.gain id g) Ds N ∧ ActKept w w' :=
  (old_gain id g h.fam.fam h.ok (by omega) hg).mono (by rintro e w' ⟨rfl, t⟩; exact ⟨rfl, h.half t⟩)
theorem p_wake1 (id : Int) (h : Two2 B w0 w f mb fd vL S Ds N) (hN : N ≤ 65535) :
    Calls Tryz.prog 13 #[.pointer (some ⟨f, 0, none⟩), .int .i64 id] w fun e w' => e = .returned (.tuple #[]) ∧ Half2 B w0 w' f mb fd vL S (S.wake id) Ds N ∧ ActKept w w' :=
  (old_wake id h.fam.fam h.ok (by omega)).mono (by rintro e w' ⟨rfl, t⟩; exact ⟨rfl, h.half t⟩)
end

/-! ### A copy, and its elder -/
structure Elder (B : Nat) (w0 w : World) (f mb : Nat) (So : FS) (No out m2 fd : Nat) (vL : Value) (S : FS) (Ds : List DM) (N : Nat) : Prop where
  old : FamAt w f mb So.k So.L
  oko : So.ok No
  ofs : ∃ n, (∀ g, Of f mb So.L g → B ≤ g ∧ g < n) ∧ n ≤ out ∧ n ≤ m2 ∧ ∀ x ∈ S.L, n ≤ x.m ∧ n ≤ x.q
  two : Two2 B w0 w out m2 fd vL S Ds N
section
variable {B : Nat} {w0 w w' : World} {f mb out m2 fd : Nat} {vL : Value} {So S : FS} {Ds : List DM} {No N : Nat}
theorem Elder.next (h : Elder B w0 w f mb So No out m2 fd vL S Ds N) (hb : Below w.heap.size w w') : Elder B w0 w' f mb So No out m2 fd vL S Ds N := ⟨h.old.next hb, h.oko, h.ofs, h.two.next hb⟩
theorem Elder.turn {So' : FS} {No' : Nat} (h : Elder B w0 w f mb So No out m2 fd vL S Ds N) (t : Turned w w' f mb So So') (ok' : So'.ok No') : Elder B w0 w' f mb So' No' out m2 fd vL S Ds N ∧ ActKept w w' := by
  obtain ⟨n, h1, h2, h3, h4⟩ := h.ofs
  have hf := h.two.fam
  refine ⟨⟨t.fam, ok', ⟨n, fun g hg => h1 g (t.sub g hg), h2, h3, h4⟩, ⟨⟨hf.fam.apart h.old t.fr (fun g hg => (h1 g hg).2) h2 h3 h4, hf.lf, hf.lm, hf.mem, hf.below.trans (t.fr.below (Nat.le_trans hf.size hf.below.size) (fun k hk ht => by have := (h1 k ht).1; omega)), hf.size⟩, h.two.doc.spare (t.spares h.old), h.two.ok, h.two.bes⟩⟩, t.kept h.old⟩
theorem el_copy (h : Two2 B w0 w f mb fd vL S Ds N) (hN : N ≤ 65535) :
    Calls Tryz.prog 19 #[.pointer (some ⟨f, 0, none⟩)] w fun e w' => ∃ out m2 S', e = .returned (.pointer (some ⟨out, 0, none⟩)) ∧ Elder B w0 w' f mb S N out m2 fd vL S' Ds N ∧ ActKept w w' := by
  have hf := h.fam
  refine (vcopy_any f mb S.k S.L w hf.fam (fun x hx => ⟨(h.ok.mem x hx).ok, by have := (h.ok.mem x hx).many; omega⟩)).mono ?_
  rintro e w' ⟨out, Ms', rfl, ho, hx, hp, ⟨m2, hm, hfam⟩, hb⟩
  have hB := h.hB
  refine ⟨out, m2, ⟨S.k, Ms'⟩, rfl, ⟨hf.fam.next hb, h.ok, ⟨w.heap.size, fun g hg => hf.of_lt hg, ho, hm, hx⟩, ⟨⟨hfam, Nat.le_trans hB ho, Nat.le_trans hB hm, fun x hx' => ⟨Nat.le_trans hB (hx x hx').1, Nat.le_trans hB (hx x hx').2⟩, hf.below.trans (hb.mono hB), hf.size⟩, h.doc.next hb, h.ok.core hp, h.bes.core hp⟩⟩, .of_below hb⟩
theorem el_gain (id g : Int) (h : Elder B w0 w f mb So No out m2 fd vL S Ds N) (hN : No ≤ 65535) (hg : Word g) :
    Calls Tryz.prog 17 #[.pointer (some ⟨f, 0, none⟩), .int .i64 id, .int .u64 g] w fun e w' => e = .returned (.tuple #[]) ∧ Elder B w0 w' f mb (So.gain id g) No out m2 fd vL S Ds N ∧ ActKept w w' :=
  (old_gain id g h.old h.oko (by omega) hg).mono (by rintro e w' ⟨rfl, t⟩; exact ⟨rfl, h.turn t (h.oko.gain id hg)⟩)
theorem el_wake (id : Int) (h : Elder B w0 w f mb So No out m2 fd vL S Ds N) (hN : No ≤ 65535) :
    Calls Tryz.prog 13 #[.pointer (some ⟨f, 0, none⟩), .int .i64 id] w fun e w' => e = .returned (.tuple #[]) ∧ Elder B w0 w' f mb (So.wake id) (No + 1) out m2 fd vL S Ds N ∧ ActKept w w' :=
  (old_wake id h.old h.oko (by omega)).mono (by rintro e w' ⟨rfl, t⟩; exact ⟨rfl, h.turn t (h.oko.wake id)⟩)
theorem el_drop (id : Int) (h : Elder B w0 w f mb So No out m2 fd vL S Ds N) :
    Calls Tryz.prog 11 #[.pointer (some ⟨f, 0, none⟩), .int .i64 id] w fun e w' => (∃ b : Bool, e = .returned (.bool b)) ∧ Elder B w0 w' f mb (So.drop id) No out m2 fd vL S Ds N ∧ ActKept w w' :=
  (old_drop id h.old).mono (by rintro e w' ⟨rfl, t⟩; exact ⟨⟨_, rfl⟩, h.turn t (h.oko.drop id)⟩)
end

end Go.Proofs.YtjhffbhjiflfeaaGreat
