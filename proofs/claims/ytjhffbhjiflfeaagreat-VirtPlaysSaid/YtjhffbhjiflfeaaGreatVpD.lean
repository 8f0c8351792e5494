/-
  The document's family in memory; where a member stands, what it has.
-/
import Derived.Test.YtjhffbhjiflfeaaGreatVpA
import Derived.Test.YtjhffbhjiflfeaaGreatVirtP
namespace Go.Proofs.YtjhffbhjiflfeaaGreat
set_option linter.unusedVariables false
set_option linter.unusedSimpArgs false
set_option maxRecDepth 100000
open Go.RowKit Go.Shelf

/-- A member of the document's family: what is told of it, and where its run lies. -/
structure DM where
  id : Int
  T : Int
  v : Int
  up : Bool
  r : Nat
  F : Int
  L : Int
  R : Int
  vx : Value
  vy : Value
  A : List (Int × Int)
def cellsD (d : DM) : List Value := [.int .i64 d.id, .int .u64 d.T, .int .u64 d.v, .pointer (some ⟨d.r, 0, none⟩), .bool d.up]
def flatD (Ds : List DM) : List Value := Ds.flatMap cellsD
theorem flatD_cons (d : DM) (Ds : List DM) : flatD (d :: Ds) = .int .i64 d.id :: .int .u64 d.T :: .int .u64 d.v :: .pointer (some ⟨d.r, 0, none⟩) :: .bool d.up :: flatD Ds := rfl
theorem flatD_length (Ds : List DM) : (flatD Ds).length = Ds.length * 5 := by
  induction Ds with
  | nil => rfl
  | cons d Ds ih => rw [flatD_cons]; simp only [List.length_cons, ih]; omega
theorem flatD_at : ∀ {Ds : List DM} {i : Nat} {d : DM}, Ds[i]? = some d → ∀ k u, (cellsD d)[k]? = some u → (flatD Ds)[i * 5 + k]? = some u
  | [], i, d, h, _, _, _ => by simp at h
  | e :: Ds, 0, d, h, k, u, hu => by
    simp only [List.getElem?_cons_zero, Option.some.injEq] at h
    subst h
    have hk : k < 5 := (List.getElem?_eq_some_iff.1 hu).1
    show (cellsD e ++ flatD Ds)[0 * 5 + k]? = some u
    rw [Nat.zero_mul, Nat.zero_add, List.getElem?_append_left hk]
    exact hu
  | e :: Ds, i + 1, d, h, k, u, hu => by
    simp only [List.getElem?_cons_succ] at h
    have ih := flatD_at h k u hu
    rw [flatD_cons, show (i + 1) * 5 + k = (i * 5 + k) + 1 + 1 + 1 + 1 + 1 by omega]
    exact ih
theorem flatD_append (L M : List DM) : flatD (L ++ M) = flatD L ++ flatD M := List.flatMap_append
theorem flatD_take (L : List DM) : ∀ a, (flatD L).take (a * 5) = flatD (L.take a) := by
  induction L with
  | nil => intro a; simp [flatD]
  | cons d L ih =>
    intro a
    cases a with
    | zero => simp [flatD]
    | succ a =>
      rw [flatD_cons, show (a + 1) * 5 = a * 5 + 1 + 1 + 1 + 1 + 1 by omega, List.take_succ_cons, List.take_succ_cons, List.take_succ_cons, List.take_succ_cons, List.take_succ_cons, ih, List.take_succ_cons]
      rfl
theorem flatD_drop (L : List DM) : ∀ a, (flatD L).drop (a * 5) = flatD (L.drop a) := by
  induction L with
  | nil => intro a; simp [flatD]
  | cons d L ih =>
    intro a
    cases a with
    | zero => simp
    | succ a => rw [flatD_cons, show (a + 1) * 5 = a * 5 + 1 + 1 + 1 + 1 + 1 by omega, List.drop_succ_cons, List.drop_succ_cons, List.drop_succ_cons, List.drop_succ_cons, List.drop_succ_cons, ih, List.drop_succ_cons]
theorem flatD_one : ∀ (L : List DM), ∀ u ∈ flatD L, u.oneCell' = true
  | [], u, h => by cases h
  | d :: L, u, h => by
    rw [flatD_cons] at h
    simp only [List.mem_cons] at h
    rcases h with rfl | rfl | rfl | rfl | rfl | h
    · rfl
    · rfl
    · rfl
    · rfl
    · rfl
    · exact flatD_one L u h
/-- One cell turned. -/
theorem flatD_set : ∀ {Ds : List DM} {i : Nat} {d d' : DM} {k : Nat} {u : Value}, Ds[i]? = some d → k < 5 → cellsD d' = (cellsD d).set k u → flatD (Ds.set i d') = (flatD Ds).set (i * 5 + k) u
  | [], i, d, d', k, u, h, _, _ => by simp at h
  | e :: Ds, 0, d, d', k, u, h, hk, hc => by
    simp only [List.getElem?_cons_zero, Option.some.injEq] at h
    subst h
    show cellsD d' ++ flatD Ds = (cellsD e ++ flatD Ds).set (0 * 5 + k) u
    rw [Nat.zero_mul, Nat.zero_add, hc, List.set_append_left _ _ hk]
  | e :: Ds, i + 1, d, d', k, u, h, hk, hc => by
    simp only [List.getElem?_cons_succ] at h
    have ih := flatD_set h hk hc
    show cellsD e ++ flatD (Ds.set i d') = (cellsD e ++ flatD Ds).set ((i + 1) * 5 + k) u
    rw [ih, List.set_append_right _ _ (by show 5 ≤ _; omega), show (i + 1) * 5 + k - (cellsD e).length = i * 5 + k by show (i + 1) * 5 + k - 5 = _; omega]
/-- A run's blocks: its own, its rows'. -/
def inB (p : Nat × Value × Value) (g : Nat) : Prop := g = p.1 ∨ p.2.1.ownBlock = some g ∨ p.2.2.ownBlock = some g
def bk (d : DM) : Nat × Value × Value := (d.r, d.vx, d.vy)
structure FamD (w : World) (B f : Nat) (k : Int) (vL : Value) (Ds : List DM) : Prop where
  lf : B ≤ f
  blk : Blk w f 30 #[vL, .int .u64 k]
  own : w.ownsRow B 75 5 vL Ds.length (flatD Ds)
  mem : ∀ d ∈ Ds, RunD w B d.r d.F d.L d.R d.vx d.vy d.A
  ap : (Ds.map bk).Pairwise fun p q => ∀ g, inB p g → ¬ inB q g
  ids : (Ds.map (·.id)).Nodup
/-- A block of the document's family. -/
def DocB (w : World) (k : Nat) : Prop := ∃ t cs, Blk w k t cs ∧ (t = 30 ∨ t = 75 ∨ t = 106 ∨ t = 28)
/-- Old blocks turned are the document's, from B on. -/
def DFr (B : Nat) (w w' : World) : Prop := Fr (fun k => B ≤ k ∧ DocB w k) w w'
theorem DFr.trans {B : Nat} {w w1 w2 : World} (h : DFr B w w1) (k : DFr B w1 w2) : DFr B w w2 := by
  unfold DFr at h k ⊢
  refine h.then k fun i hi hs => ?_
  refine ⟨hs.1, ?_⟩
  obtain ⟨t, cs, hb, ht⟩ := hs.2
  by_cases hd : B ≤ i ∧ DocB w i
  · exact hd.2
  · exact ⟨t, cs, (h.block i hi hd).symm.trans hb, ht⟩
theorem DFr.of_new {B : Nat} {w w' : World} (h : Below w.heap.size w w') : DFr B w w' := Fr.of_new h
theorem DFr.refl (B : Nat) (w : World) : DFr B w w := Fr.refl _ w
theorem own_doc {w : World} {B g n size : Nat} {e : TypeId} {v : Value} {xs : List Value} (h : w.ownsRow B e size v n xs) (hg : v.ownBlock = some g) : B ≤ g ∧ ∃ cs, Blk w g e cs := by
  rcases h.2 with ⟨rfl, _⟩ | ⟨g', cap, cur, rfl, hb, hh, _⟩
  · cases hg
  · cases hg
    exact ⟨hb, cur, hh⟩
/-- Where the member with an id stands, the first one. -/
def AtIs (id : Int) (Ds : List DM) (i : Nat) (d : DM) : Prop := Ds[i]? = some d ∧ d.id = id
def dfnd (id : Int) : List DM → Option DM
  | [] => none
  | d :: Ds => if d.id = id then some d else dfnd id Ds
theorem dfnd_none {id : Int} : ∀ {Ds : List DM}, (∀ (j : Nat) (d : DM), Ds[j]? = some d → d.id ≠ id) → dfnd id Ds = none
  | [], _ => rfl
  | d :: Ds, h => by
    unfold dfnd
    rw [if_neg (h 0 d rfl)]
    exact dfnd_none fun j e hj => h (j + 1) e (by simpa using hj)
theorem dfnd_mem {id : Int} {d : DM} : ∀ {Ds : List DM}, dfnd id Ds = some d → d ∈ Ds ∧ d.id = id
  | [], h => by cases h
  | e :: Ds, h => by
    unfold dfnd at h
    split at h
    · rename_i he
      cases h
      exact ⟨List.mem_cons_self .., he⟩
    · exact ⟨List.mem_cons_of_mem _ (dfnd_mem h).1, (dfnd_mem h).2⟩
theorem dfnd_not {id : Int} : ∀ {Ds : List DM}, dfnd id Ds = none → ∀ d ∈ Ds, d.id ≠ id
  | [], _, d, hd => by cases hd
  | e :: Ds, h, d, hd => by
    unfold dfnd at h
    split at h
    · cases h
    · rename_i he
      rcases List.mem_cons.1 hd with rfl | hd
      · exact he
      · exact dfnd_not h d hd
theorem dfnd_of_mem {d : DM} : ∀ {Ds : List DM}, (Ds.map (·.id)).Nodup → d ∈ Ds → dfnd d.id Ds = some d
  | [], _, h => by cases h
  | e :: Ds, hn, h => by
    rw [List.map_cons, List.nodup_cons] at hn
    unfold dfnd
    rcases List.mem_cons.1 h with rfl | h
    · rw [if_pos rfl]
    · rw [if_neg (fun e' => hn.1 (by rw [e']; exact List.mem_map.2 ⟨d, h, rfl⟩))]
      exact dfnd_of_mem hn.2 h
theorem AtIs.fnd {id : Int} {Ds : List DM} {i : Nat} {d : DM} (h : AtIs id Ds i d) (hn : (Ds.map (·.id)).Nodup) : dfnd id Ds = some d := by
  rw [← h.2]
  exact dfnd_of_mem hn (List.mem_of_getElem? h.1)
section
variable {w w' : World} {B f : Nat} {k : Int} {vL : Value} {Ds : List DM}
theorem FamD.next (h : FamD w B f k vL Ds) (hb : Below w.heap.size w w') : FamD w' B f k vL Ds :=
  ⟨h.lf, h.blk.next hb, own_next h.own hb, fun d hd => (h.mem d hd).next hb, h.ap, h.ids⟩
theorem FamD.form (h : FamD w B f k vL Ds) : ∃ A c, vL = .slice A Ds.length c ∧ Ds.length ≤ c ∧ c ≤ maxLen ∧
    (∀ i d, Ds[i]? = some d → ∃ g, A = some ⟨g, 0, none⟩ ∧ B ≤ g ∧ g < w.heap.size ∧ (∃ cs, Blk w g 75 cs) ∧ w.cell? ⟨g, i * 5, none⟩ = some (.int .i64 d.id) ∧ w.cell? ⟨g, i * 5 + 1, none⟩ = some (.int .u64 d.T) ∧ w.cell? ⟨g, i * 5 + 2, none⟩ = some (.int .u64 d.v) ∧ w.cell? ⟨g, i * 5 + 3, none⟩ = some (.pointer (some ⟨d.r, 0, none⟩)) ∧ w.cell? ⟨g, i * 5 + 4, none⟩ = some (.bool d.up)) := by
  have hadd : ∀ (g j : Nat), (⟨g, 0, none⟩ : Addr).add j = ⟨g, j, none⟩ := by
    intro g j
    unfold Addr.add
    split
    · rename_i h0
      rw [h0]
    · simp only [Nat.zero_add]
  rcases h.own.2 with ⟨rfl, hn⟩ | ⟨g, cap, cur, rfl, hb, hg, hle, hm, r⟩
  · exact ⟨none, 0, by rw [hn], by omega, by decide, fun i d e => by have := (List.getElem?_eq_some_iff.1 e).1; omega⟩
  · refine ⟨_, cap, rfl, hle, hm, fun i d e => ⟨g, rfl, hb, (Array.getElem?_eq_some_iff.1 hg).1, ⟨cur, hg⟩, ?_⟩⟩
    have c := fun k u hu => h.own.cells (g := g) rfl _ _ (flatD_at e k u hu)
    have c0 := c 0 _ rfl
    have c1 := c 1 _ rfl
    have c2 := c 2 _ rfl
    have c3 := c 3 _ rfl
    have c4 := c 4 _ rfl
    rw [hadd] at c0 c1 c2 c3 c4
    exact ⟨c0, c1, c2, c3, c4⟩
/-- A cell of a member turned: of it what is told, not where its run lies. -/
theorem FamD.store {g n c i j : Nat} {d d' : DM} {u : Value} (h : FamD w B f k (.slice (some ⟨g, 0, none⟩) n c) Ds) (hi : Ds[i]? = some d) (hj : j < 5) (hc : cellsD d' = (cellsD d).set j u) (h1 : d'.id = d.id) (h3 : bk d' = bk d) (h4 : RunD w B d.r d.F d.L d.R d.vx d.vy d.A → RunD w B d'.r d'.F d'.L d'.R d'.vx d'.vy d'.A) :
    FamD (w.setCell ⟨g, i * 5 + j, none⟩ u) B f k (.slice (some ⟨g, 0, none⟩) n c) (Ds.set i d') ∧ DFr B w (w.setCell ⟨g, i * 5 + j, none⟩ u) := by
  obtain ⟨hBg, cs, hg⟩ := own_doc h.own (g := g) rfl
  have hil := (List.getElem?_eq_some_iff.1 hi).1
  have hn : n = Ds.length := by
    obtain ⟨A, c', e, _⟩ := h.form
    cases e
    rfl
  have hfr : Fr (fun k => k = g) w (w.setCell ⟨g, i * 5 + j, none⟩ u) := (Fr.refl (fun k => k = g) w).setCell (p := ⟨g, i * 5 + j, none⟩) (fun _ => rfl) u
  have hm : ∀ {α : Type} (F : DM → α), F d' = F d → (Ds.set i d').map F = Ds.map F := by
    intro α F hF
    rw [List.map_set, hF]
    have e : (Ds.map F)[i]? = some (F d) := by rw [List.getElem?_map, hi]; rfl
    obtain ⟨hl, e⟩ := List.getElem?_eq_some_iff.1 e
    rw [← e, List.set_getElem_self]
  refine ⟨⟨h.lf, h.blk.fr hfr (Blk.ne_of_type h.blk hg (by decide)), ?_, fun x hx => ?_, ?_, ?_⟩, hfr.mono fun q _ e => ?_⟩
  · rw [List.length_set, flatD_set hi hj hc]
    have ho := h.own
    subst hn
    exact own_set ho (by omega) u
  · have still : ∀ y : DM, RunD w B y.r y.F y.L y.R y.vx y.vy y.A → RunD (w.setCell ⟨g, i * 5 + j, none⟩ u) B y.r y.F y.L y.R y.vx y.vy y.A := fun y hy => hy.fr hfr (Blk.ne_of_type hy.blk hg (by decide)) fun q hq e => by
      rcases hq with hq | hq
      · obtain ⟨_, cs', hc'⟩ := own_doc hy.ox hq
        exact Blk.ne_of_type hc' hg (by decide) e
      · obtain ⟨_, cs', hc'⟩ := own_doc hy.oy hq
        exact Blk.ne_of_type hc' hg (by decide) e
    rcases List.mem_or_eq_of_mem_set hx with hx | rfl
    · exact still x (h.mem x hx)
    · exact still _ (h4 (h.mem d (List.mem_of_getElem? hi)))
  · rw [hm _ h3]; exact h.ap
  · rw [hm _ h1]; exact h.ids
  · subst e
    exact ⟨hBg, _, cs, hg, Or.inr (Or.inl rfl)⟩
end
/-- Two members' blocks. -/
theorem FamD.apart {w : World} {B f : Nat} {k : Int} {vL : Value} {Ds : List DM} (h : FamD w B f k vL Ds) {i j : Nat} {d e : DM} (hi : Ds[i]? = some d) (hj : Ds[j]? = some e) (hne : i ≠ j) {g : Nat} (hg : inB (bk d) g) : ¬ inB (bk e) g := by
  have hp := List.pairwise_iff_getElem.1 h.ap
  obtain ⟨hi1, hi2⟩ := List.getElem?_eq_some_iff.1 hi
  obtain ⟨hj1, hj2⟩ := List.getElem?_eq_some_iff.1 hj
  have li : i < (Ds.map bk).length := by rw [List.length_map]; exact hi1
  have lj : j < (Ds.map bk).length := by rw [List.length_map]; exact hj1
  have ei : (Ds.map bk)[i] = bk d := by rw [List.getElem_map, hi2]
  have ej : (Ds.map bk)[j] = bk e := by rw [List.getElem_map, hj2]
  rcases Nat.lt_or_ge i j with hlt | hge
  · have := hp i j li lj hlt g
    rw [ei, ej] at this
    exact this hg
  · have := hp j i lj li (by omega) g
    rw [ei, ej] at this
    exact fun hg2 => this hg2 hg
theorem RunD.doc {w : World} {B r : Nat} {F L R : Int} {vx vy : Value} {A : List (Int × Int)} (h : RunD w B r F L R vx vy A) {g : Nat} (hg : inB (r, vx, vy) g) : B ≤ g ∧ g < w.heap.size ∧ DocB w g := by
  rcases hg with rfl | hg | hg
  · exact ⟨h.lr, h.blk.lt, _, _, h.blk, Or.inr (Or.inr (Or.inl rfl))⟩
  · obtain ⟨h1, cs, h2⟩ := own_doc h.ox hg
    exact ⟨h1, h2.lt, _, cs, h2, Or.inr (Or.inr (Or.inr rfl))⟩
  · obtain ⟨h1, cs, h2⟩ := own_doc h.oy hg
    exact ⟨h1, h2.lt, _, cs, h2, Or.inr (Or.inr (Or.inr rfl))⟩
theorem set_get {Ds : List DM} {i j : Nat} {d' x : DM} (h : (Ds.set i d')[j]? = some x) : (j = i ∧ x = d') ∨ (j ≠ i ∧ Ds[j]? = some x) := by
  rw [List.getElem?_set] at h
  split at h
  · rename_i e
    split at h
    · cases h; exact Or.inl ⟨e.symm, rfl⟩
    · cases h
  · rename_i e
    exact Or.inr ⟨fun k => e k.symm, h⟩
/-- A member's run has started once more. -/
theorem FamD.started {w w' : World} {B f : Nat} {k : Int} {vL : Value} {Ds : List DM} (h : FamD w B f k vL Ds) {i : Nat} {d d' : DM} (hi : Ds[i]? = some d) (hc : cellsD d' = cellsD d) (hid : d'.id = d.id) (hr : d'.r = d.r)
    (hR : RunD w' B d'.r d'.F d'.L d'.R d'.vx d'.vy d'.A) (hnew : ∀ g, d'.vx.ownBlock = some g ∨ d'.vy.ownBlock = some g → (d.vx.ownBlock = some g ∨ d.vy.ownBlock = some g) ∨ w.heap.size ≤ g) (hf : Fr (fun k => k = d.r ∨ d.vx.ownBlock = some k ∨ d.vy.ownBlock = some k) w w') :
    FamD w' B f k vL (Ds.set i d') ∧ DFr B w w' := by
  have hd := h.mem d (List.mem_of_getElem? hi)
  have hS : ∀ g, (g = d.r ∨ d.vx.ownBlock = some g ∨ d.vy.ownBlock = some g) → B ≤ g ∧ g < w.heap.size ∧ DocB w g := fun g hg => hd.doc hg
  have hT : ∀ g, (g = d.r ∨ d.vx.ownBlock = some g ∨ d.vy.ownBlock = some g) → ∀ t cs, Blk w g t cs → t = 106 ∨ t = 28 := by
    intro g hg t cs hb
    have key : ∀ t' cs', Blk w g t' cs' → t = t' := fun t' cs' hb' => by
      unfold Blk at hb hb'
      rw [hb] at hb'
      injection hb' with hb'
      injection hb' with _ e
    rcases hg with rfl | hg | hg
    · exact Or.inl (key _ _ hd.blk)
    · obtain ⟨_, cs', hc'⟩ := own_doc hd.ox hg
      exact Or.inr (key _ _ hc')
    · obtain ⟨_, cs', hc'⟩ := own_doc hd.oy hg
      exact Or.inr (key _ _ hc')
  have ndec : ∀ {t : TypeId}, (t = 106 ∨ t = 28) → t ≠ 30 ∧ t ≠ 75 := by
    rintro t (rfl | rfl) <;> decide
  have hm : ∀ {α : Type} (F : DM → α), F d' = F d → (Ds.set i d').map F = Ds.map F := by
    intro α F hF
    rw [List.map_set, hF]
    have e : (Ds.map F)[i]? = some (F d) := by rw [List.getElem?_map, hi]; rfl
    obtain ⟨hl, e⟩ := List.getElem?_eq_some_iff.1 e
    rw [← e, List.set_getElem_self]
  refine ⟨⟨h.lf, h.blk.fr hf (fun e => (ndec (hT f e _ _ h.blk)).1 rfl), ?_, fun x hx => ?_, ?_, by rw [hm _ hid]; exact h.ids⟩, hf.mono fun g _ hg => ⟨(hS g hg).1, (hS g hg).2.2⟩⟩
  · have e : flatD (Ds.set i d') = flatD Ds := by
      unfold flatD
      rw [List.flatMap_def, List.flatMap_def, hm _ hc]
    rw [e, List.length_set]
    refine ownsRow_fr h.own hf fun g hg e => ?_
    obtain ⟨_, cs, hb⟩ := own_doc h.own hg
    exact (ndec (hT g e _ _ hb)).2 rfl
  · obtain ⟨j, hj, e⟩ := List.getElem_of_mem hx
    rcases set_get (List.getElem?_eq_some_iff.2 ⟨hj, e⟩) with ⟨-, rfl⟩ | ⟨hne, hx⟩
    · exact hR
    · refine (h.mem x (List.mem_of_getElem? hx)).fr hf (fun e => h.apart hi hx (fun e => hne e.symm) (g := x.r) e (Or.inl rfl)) fun g hg e => h.apart hi hx (fun e => hne e.symm) (g := g) e (Or.inr hg)
  · rw [List.pairwise_iff_getElem]
    intro a b ha hb hab g
    rw [List.getElem_map, List.getElem_map]
    rw [List.length_map] at ha hb
    have ea := set_get (List.getElem?_eq_getElem ha)
    have eb := set_get (List.getElem?_eq_getElem hb)
    have fresh : ∀ g, inB (bk d') g → inB (bk d) g ∨ w.heap.size ≤ g := by
      rintro g (hg | hg)
      · exact Or.inl (Or.inl (by rw [hg]; exact hr))
      · rcases hnew g hg with e | e
        · exact Or.inl (Or.inr e)
        · exact Or.inr e
    rcases ea with ⟨ia, ea⟩ | ⟨ia, ea⟩ <;> rcases eb with ⟨ib, eb⟩ | ⟨ib, eb⟩
    · omega
    · rw [ea]
      intro hg hg2
      rcases fresh g hg with e | e
      · exact h.apart hi eb (fun e => ib e.symm) e hg2
      · have := ((h.mem _ (List.mem_of_getElem? eb)).doc hg2).2.1; omega
    · rw [eb]
      intro hg hg2
      rcases fresh g hg2 with e | e
      · exact h.apart hi ea (fun e => ia e.symm) e hg
      · have := ((h.mem _ (List.mem_of_getElem? ea)).doc hg).2.1; omega
    · exact fun hg => h.apart ea eb (by omega) hg
/-- The mark turned. -/
theorem FamD.mark {w : World} {B f : Nat} {k : Int} {vL : Value} {Ds : List DM} (h : FamD w B f k vL Ds) (v : Int) : FamD (w.setCell ⟨f, 1, none⟩ (.int .u64 v)) B f v vL Ds ∧ DFr B w (w.setCell ⟨f, 1, none⟩ (.int .u64 v)) := by
  have hf : Fr (fun k => k = f) w (w.setCell ⟨f, 1, none⟩ (.int .u64 v)) := (Fr.refl (fun k => k = f) w).setCell (p := ⟨f, 1, none⟩) (fun _ => rfl) _
  refine ⟨⟨h.lf, h.blk.put 1 _, ownsRow_fr h.own hf fun g hg e => ?_, fun d hd => (h.mem d hd).fr hf (Blk.ne_of_type (h.mem d hd).blk h.blk (by decide)) fun g hg e => ?_, h.ap, h.ids⟩, hf.mono fun g _ e => by subst e; exact ⟨h.lf, _, _, h.blk, Or.inl rfl⟩⟩
  · obtain ⟨_, cs, hb⟩ := own_doc h.own hg
    exact Blk.ne_of_type hb h.blk (by decide) e
  · obtain ⟨-, -, t, cs, hb, -⟩ := (h.mem d hd).doc (Or.inr hg)
    rcases hg with hg | hg
    · obtain ⟨_, cs, hb⟩ := own_doc (h.mem d hd).ox hg
      exact Blk.ne_of_type hb h.blk (by decide) e
    · obtain ⟨_, cs, hb⟩ := own_doc (h.mem d hd).oy hg
      exact Blk.ne_of_type hb h.blk (by decide) e
theorem atIs_pos {id : Int} {Ds : List DM} {i : Nat} {d : DM} (h : AtIs id Ds i d) : i < Ds.length := (List.getElem?_eq_some_iff.1 h.1).1

set_option maxHeartbeats 4000000 in
theorem d_at (B f : Nat) (k : Int) (vL : Value) (Ds : List DM) (id : Int) (w : World) (h : FamD w B f k vL Ds) (hf : Ds.length ≤ 65535) :
    Calls Tryz.prog 35 #[.pointer (some ⟨f, 0, none⟩), .int .i64 id] w fun e w' => w = w' ∧ ∃ q : Int, e = .returned (.int .i64 q) ∧ ((q = -1 ∧ dfnd id Ds = none) ∨ ∃ (i : Nat) (d : DM), q = i ∧ AtIs id Ds i d) := by
  obtain ⟨A, c, rfl, hlc, hcm, hcells⟩ := h.form
  have HC := Lib.hid hcells
  obtain ⟨l, hl⟩ : ∃ l, Ds.length = l := ⟨_, rfl⟩
  have HLL := Lib.hid hl
  have c0 := h.blk.get 0 rfl
  rw [hl] at c0 hf hlc
  clear h hcells hl hcm hlc
  go_enter Tryz.func35, Tryz.ntmps35
  go_wp2_with fail
  go_loopg [5] l (fun gk ix wr => ∃ j : Nat, j + gk = l ∧ ix = .int .i64 j ∧ wr = w ∧ ∀ (j' : Nat) (d : DM), j' < j → Ds[j']? = some d → d.id ≠ id)
  case atStart => exact ⟨0, by omega, rfl, rfl, fun j p hj => absurd hj (by omega)⟩
  case round =>
    obtain ⟨j, hj, rfl, rfl, hn⟩ := hrel
    have HNO := Lib.hid hn
    clear hn
    by_cases hlt : j < l
    · obtain ⟨gm, rfl⟩ : ∃ gm, gk = gm + 1 := ⟨gk - 1, by omega⟩
      obtain ⟨d, hd⟩ : ∃ d, Ds[j]? = some d := ⟨Ds[j]'(by rw [HLL.out]; exact hlt), List.getElem?_eq_getElem _⟩
      obtain ⟨g, rfl, hg1, hg2, -, c1, -⟩ := HC.out j d hd
      have HQ := Lib.hid hd
      have p0 : (0 : Int) ≤ (j : Int) := by omega
      have p1 : (j : Int) < (l : Int) := by omega
      have e5 : wrap64 ((j : Int) + 1) = ((j + 1 : Nat) : Int) := by unfold wrap64; omega
      clear hd hg1 hg2
      by_cases hid : d.id = id
      · have HID := Lib.hid hid
        have hb : (d.id == id) = true := by rw [hid]; exact beq_self_eq_true _
        clear hid
        go_wp2_with fail
        go_ret
        exact ⟨rfl, _, rfl, Or.inr ⟨j, d, by simp, HQ.out, HID.out⟩⟩
      · have HID := Lib.hid hid
        have hb : (d.id == id) = false := beq_eq_false_iff_ne.2 hid
        clear hid
        go_wp2_with fail
        go_roundg gm
        case rel => exact ⟨j + 1, by omega, by go_num, rfl, fun j' d' hj' e => by
          by_cases hji : j' = j
          · subst hji
            rw [HQ.out] at e
            cases e
            exact HID.out
          · exact HNO.out j' d' (by omega) e⟩
        case measure => omega
    · obtain rfl : gk = 0 := by omega
      obtain rfl : j = l := by omega
      go_wp2_with fail
      go_ret
      exact ⟨rfl, _, rfl, Or.inl ⟨rfl, dfnd_none fun j d e => HNO.out j d (by have := (List.getElem?_eq_some_iff.1 e).1; have := HLL.out; omega) e⟩⟩

def dV (id : Int) (Ds : List DM) : Int := match dfnd id Ds with
  | none => 0
  | some d => d.v
def dT (id : Int) (Ds : List DM) : Int := match dfnd id Ds with
  | none => 0
  | some d => d.T
def dU (id : Int) (Ds : List DM) : Bool := match dfnd id Ds with
  | none => false
  | some d => d.up

set_option maxHeartbeats 4000000 in
theorem d_v (B f : Nat) (k : Int) (vL : Value) (Ds : List DM) (id v : Int) (w : World) (h : FamD w B f k vL Ds) (hf : Ds.length ≤ 65535) (hv : dV id Ds = v) :
    Calls Tryz.prog 42 #[.pointer (some ⟨f, 0, none⟩), .int .i64 id] w fun e w' => e = .returned (.int .u64 v) ∧ w = w' := by
  have AT := Lib.hid (d_at B f k vL Ds id w h hf)
  have H := Lib.hid h
  obtain ⟨A, c, rfl, hlc, hcm, hcells⟩ := h.form
  have HC := Lib.hid hcells
  have c0 := h.blk.get 0 rfl
  obtain ⟨l, hl⟩ : ∃ l, Ds.length = l := ⟨_, rfl⟩
  have HLL := Lib.hid hl
  rw [hl] at c0 hlc hf
  have HV := Lib.hid hv
  clear h hcells hcm hv hl
  go_enter Tryz.func42, Tryz.ntmps42
  go_wp2_with fail
  with_reducible refine (AT.out).mono ?_
  rintro e w1 ⟨rfl, q, rfl, hk⟩
  rcases hk with ⟨rfl, hn⟩ | ⟨i, d, rfl, hi⟩
  · have e1 : v = 0 := by rw [← HV.out]; unfold dV; rw [hn]
    subst e1
    clear hn
    go_wp2_with fail
    go_ret
    exact ⟨rfl, rfl⟩
  · have e1 : d.v = v := by rw [← HV.out]; unfold dV; rw [hi.fnd H.out.ids]
    obtain ⟨g, rfl, hg1, hg2, -, -, -, c2, -⟩ := HC.out i d hi.1
    have p0 : (0 : Int) ≤ (i : Int) := by omega
    have p1 : (i : Int) < (l : Int) := by have := atIs_pos hi; have := HLL.out; omega
    have d1 : decide ((i : Int) < 0) = false := decide_eq_false (by omega)
    rw [e1] at c2
    clear e1 hi hg1 hg2
    go_wp2_with fail
    go_ret
    exact ⟨rfl, rfl⟩

set_option maxHeartbeats 4000000 in
theorem d_total (B f : Nat) (k : Int) (vL : Value) (Ds : List DM) (id v : Int) (w : World) (h : FamD w B f k vL Ds) (hf : Ds.length ≤ 65535) (hv : dT id Ds = v) :
    Calls Tryz.prog 49 #[.pointer (some ⟨f, 0, none⟩), .int .i64 id] w fun e w' => e = .returned (.int .u64 v) ∧ w = w' := by
  have AT := Lib.hid (d_at B f k vL Ds id w h hf)
  have H := Lib.hid h
  obtain ⟨A, c, rfl, hlc, hcm, hcells⟩ := h.form
  have HC := Lib.hid hcells
  have c0 := h.blk.get 0 rfl
  obtain ⟨l, hl⟩ : ∃ l, Ds.length = l := ⟨_, rfl⟩
  have HLL := Lib.hid hl
  rw [hl] at c0 hlc hf
  have HV := Lib.hid hv
  clear h hcells hcm hv hl
  go_enter Tryz.func49, Tryz.ntmps49
  go_wp2_with fail
  with_reducible refine (AT.out).mono ?_
  rintro e w1 ⟨rfl, q, rfl, hk⟩
  rcases hk with ⟨rfl, hn⟩ | ⟨i, d, rfl, hi⟩
  · have e1 : v = 0 := by rw [← HV.out]; unfold dT; rw [hn]
    subst e1
    clear hn
    go_wp2_with fail
    go_ret
    exact ⟨rfl, rfl⟩
  · have e1 : d.T = v := by rw [← HV.out]; unfold dT; rw [hi.fnd H.out.ids]
    obtain ⟨g, rfl, hg1, hg2, -, -, c2, -⟩ := HC.out i d hi.1
    have p0 : (0 : Int) ≤ (i : Int) := by omega
    have p1 : (i : Int) < (l : Int) := by have := atIs_pos hi; have := HLL.out; omega
    have d1 : decide ((i : Int) < 0) = false := decide_eq_false (by omega)
    rw [e1] at c2
    clear e1 hi hg1 hg2
    go_wp2_with fail
    go_ret
    exact ⟨rfl, rfl⟩

set_option maxHeartbeats 4000000 in
theorem d_awake (B f : Nat) (k : Int) (vL : Value) (Ds : List DM) (id : Int) (v : Bool) (w : World) (h : FamD w B f k vL Ds) (hf : Ds.length ≤ 65535) (hv : dU id Ds = v) :
    Calls Tryz.prog 50 #[.pointer (some ⟨f, 0, none⟩), .int .i64 id] w fun e w' => e = .returned (.bool v) ∧ w = w' := by
  have AT := Lib.hid (d_at B f k vL Ds id w h hf)
  have H := Lib.hid h
  obtain ⟨A, c, rfl, hlc, hcm, hcells⟩ := h.form
  have HC := Lib.hid hcells
  have c0 := h.blk.get 0 rfl
  obtain ⟨l, hl⟩ : ∃ l, Ds.length = l := ⟨_, rfl⟩
  have HLL := Lib.hid hl
  rw [hl] at c0 hlc hf
  have HV := Lib.hid hv
  clear h hcells hcm hv hl
  go_enter Tryz.func50, Tryz.ntmps50
  go_wp2_with fail
  with_reducible refine (AT.out).mono ?_
  rintro e w1 ⟨rfl, q, rfl, hk⟩
  rcases hk with ⟨rfl, hn⟩ | ⟨i, d, rfl, hi⟩
  · have e1 : v = false := by rw [← HV.out]; unfold dU; rw [hn]
    subst e1
    clear hn
    go_wp2_with fail
    go_ret
    exact ⟨rfl, rfl⟩
  · have e1 : d.up = v := by rw [← HV.out]; unfold dU; rw [hi.fnd H.out.ids]
    obtain ⟨g, rfl, hg1, hg2, -, -, -, -, -, c2⟩ := HC.out i d hi.1
    have p0 : (0 : Int) ≤ (i : Int) := by omega
    have p1 : (i : Int) < (l : Int) := by have := atIs_pos hi; have := HLL.out; omega
    have d1 : decide ((0 : Int) ≤ (i : Int)) = true := decide_eq_true (by omega)
    rw [e1] at c2
    clear e1 hi hg1 hg2
    go_wp2_with fail
    go_ret
    exact ⟨rfl, rfl⟩

end Go.Proofs.YtjhffbhjiflfeaaGreat

/-!
  The document's family: who sleeps, what is set, who gains.
-/
namespace Go.Proofs.YtjhffbhjiflfeaaGreat
set_option linter.unusedVariables false
set_option linter.unusedSimpArgs false
set_option maxRecDepth 100000
open Go.RowKit Go.Shelf

def dsleep (id : Int) (Ds : List DM) (i : Nat) (d : DM) : List DM := Ds.set i { d with up := false }
set_option maxHeartbeats 4000000 in
theorem d_sleep (B f : Nat) (k : Int) (vL : Value) (Ds : List DM) (id : Int) (w : World) (h : FamD w B f k vL Ds) (hf : Ds.length ≤ 65535) :
    Calls Tryz.prog 16 #[.pointer (some ⟨f, 0, none⟩), .int .i64 id] w fun e w' => e = .returned (.tuple #[]) ∧ ((dfnd id Ds = none ∧ w = w') ∨ ∃ (i : Nat) (d : DM), AtIs id Ds i d ∧ FamD w' B f k vL (Ds.set i { d with up := false }) ∧ DFr B w w') := by
  have AT := Lib.hid (d_at B f k vL Ds id w h hf)
  have H := Lib.hid h
  obtain ⟨A, c, rfl, hlc, hcm, hcells⟩ := h.form
  have HC := Lib.hid hcells
  have c0 := h.blk.get 0 rfl
  obtain ⟨l, hl⟩ : ∃ l, Ds.length = l := ⟨_, rfl⟩
  have HLL := Lib.hid hl
  rw [hl] at c0 hlc hf
  clear h hcells hcm hl
  go_enter Tryz.func16, Tryz.ntmps16
  go_wp2_with fail
  with_reducible refine (AT.out).mono ?_
  rintro e w1 ⟨rfl, q, rfl, hk⟩
  rcases hk with ⟨rfl, hn⟩ | ⟨i, d, rfl, hi⟩
  · have HN := Lib.hid hn
    clear hn
    go_wp2_with fail
    try go_end0
    exact ⟨rfl, Or.inl ⟨HN.out, rfl⟩⟩
  · obtain ⟨g, rfl, hg1, hg2, ⟨cs, hcs⟩, -, -, -, -, c4⟩ := HC.out i d hi.1
    have p0 : (0 : Int) ≤ (i : Int) := by omega
    have p1 : (i : Int) < (l : Int) := by have := atIs_pos hi; have := HLL.out; omega
    have d1 : decide ((0 : Int) ≤ (i : Int)) = true := decide_eq_true (by omega)
    have f4 := hcs.frozen (i * 5 + 4)
    have HI := Lib.hid hi
    clear hi hg1 hg2 hcs
    go_wp2_with fail
    try go_end0
    have hs := H.out.store (j := 4) (d' := { d with up := false }) (u := .bool false) HI.out.1 (by decide) rfl rfl rfl (fun h => h)
    exact ⟨rfl, Or.inr ⟨i, d, HI.out, hs.1, hs.2⟩⟩

set_option maxHeartbeats 4000000 in
theorem d_set (B f : Nat) (k : Int) (vL : Value) (Ds : List DM) (i : Nat) (d : DM) (ii v : Int) (w : World) (h : FamD w B f k vL Ds) (hf : Ds.length ≤ 65535) (hi : Ds[i]? = some d) (ei : (i : Int) = ii) :
    Calls Tryz.prog 43 #[.pointer (some ⟨f, 0, none⟩), .int .i64 ii, .int .u64 v] w fun e w' => e = .returned (.tuple #[]) ∧ FamD w' B f (max k v) vL (Ds.set i { d with v := v }) ∧ DFr B w w' := by
  subst ei
  have H := Lib.hid h
  obtain ⟨A, c, rfl, hlc, hcm, hcells⟩ := h.form
  have c0 := h.blk.get 0 rfl
  have c1 := h.blk.get 1 rfl
  have f1 := h.blk.frozen 1
  obtain ⟨g, rfl, hg1, hg2, ⟨cs, hcs⟩, -, -, c2, -, -⟩ := hcells i d hi
  have hne : f ≠ g := Blk.ne_of_type h.blk hcs (by decide)
  have hne2 : g ≠ f := hne.symm
  obtain ⟨l, hl⟩ : ∃ l, Ds.length = l := ⟨_, rfl⟩
  have HLL := Lib.hid hl
  have p0 : (0 : Int) ≤ (i : Int) := by omega
  have p1 : (i : Int) < (l : Int) := by have := (List.getElem?_eq_some_iff.1 hi).1; omega
  have f2 := hcs.frozen (i * 5 + 2)
  have HI := Lib.hid hi
  rw [hl] at c0 hlc hf
  have st := h.store (j := 2) (d' := { d with v := v }) (u := .int .u64 v) hi (by decide) rfl rfl rfl (fun h => h)
  rw [hl] at st
  obtain ⟨w1, hw1⟩ : ∃ z, w.setCell ⟨g, i * 5 + 2, none⟩ (.int .u64 v) = z := ⟨_, rfl⟩
  rw [hw1] at st
  have x1 := st.1.blk.get 1 rfl
  have y1 := st.1.blk.frozen 1
  have HS := Lib.hid st
  have HW := Lib.hid hw1
  clear h hcells hcm hl hi hg1 hg2 hcs st hw1
  by_cases hv : k < v
  · have em : max k v = v := by omega
    rw [em]
    have hv2 : decide (k < v) = true := decide_eq_true hv
    clear em
    go_enter Tryz.func43, Tryz.ntmps43
    go_upto_region 1 with (fail)
    rw [HW.out]
    go_wp2_with fail
    try go_end0
    have hm := HS.out.1.mark v
    rw [HLL.out]
    exact ⟨rfl, hm.1, HS.out.2.trans hm.2⟩
  · have em : max k v = k := by omega
    rw [em]
    have hv2 : decide (k < v) = false := decide_eq_false hv
    clear em
    go_enter Tryz.func43, Tryz.ntmps43
    go_upto_region 1 with (fail)
    rw [HW.out]
    go_wp2_with fail
    try go_end0
    rw [HLL.out]
    exact ⟨rfl, HS.out.1, HS.out.2⟩

/-- What is gained, stopped. -/
def gT (T g : Int) : Int := min (T + g) 4611686018427387904
def gainK (s : RS) (k : Int) (d : DM) (g : Int) : Int := if d.up = true then max k (s.reach (gT d.T g)) else k
def gainD (s : RS) (d : DM) (g : Int) : DM := if d.up = true then { d with T := gT d.T g, v := s.reach (gT d.T g) } else { d with T := gT d.T g }
set_option maxHeartbeats 8000000 in
theorem d_gain (B f : Nat) (k : Int) (vL : Value) (Ds : List DM) (i : Nat) (d : DM) (id g : Int) (s : RS) (w : World) (h : FamD w B f k vL Ds) (hf : Ds.length ≤ 65535) (hi : dfnd id Ds = some d) (hs : RunRel s d.F d.L d.R d.A) (ok : s.ok) (hn : d.A.length ≤ 1000000) (hT : 0 ≤ d.T ∧ d.T ≤ 4611686018427387904) (wg : Word g) :
    Calls Tryz.prog 18 #[.pointer (some ⟨f, 0, none⟩), .int .i64 id, .int .u64 g] w fun e w' => e = .returned (.tuple #[]) ∧ ∃ i, AtIs id Ds i d ∧
      FamD w' B f (gainK s k d g) vL (Ds.set i (gainD s d g)) ∧ DFr B w w' := by
  have AT := Lib.hid (d_at B f k vL Ds id w h hf)
  have H := Lib.hid h
  have HID := Lib.hid hi
  obtain ⟨A, c, rfl, hlc, hcm, hcells⟩ := h.form
  have HC := Lib.hid hcells
  have c0 := h.blk.get 0 rfl
  obtain ⟨l, hl⟩ : ∃ l, Ds.length = l := ⟨_, rfl⟩
  have HLL := Lib.hid hl
  have HT := Lib.hid (And.intro hT wg)
  have HR := Lib.hid (And.intro hs (And.intro ok hn))
  rw [hl] at c0 hlc hf
  clear h hcells hcm hl hs ok hn hi
  go_enter Tryz.func18, Tryz.ntmps18
  go_wp2_with fail
  with_reducible refine (AT.out).mono ?_
  rintro e w1 ⟨rfl, q, rfl, hk⟩
  rcases hk with ⟨rfl, hn⟩ | ⟨i, d0, rfl, hi⟩
  · rw [HID.out] at hn
    cases hn
  · obtain rfl : d = d0 := by
      have := hi.fnd H.out.ids
      rw [HID.out] at this
      cases this
      rfl
    obtain ⟨b, rfl, hg1, hg2, ⟨cs, hcs⟩, -, c1, -, c3, c4⟩ := HC.out i d hi.1
    have p0 : (0 : Int) ≤ (i : Int) := by omega
    have p1 : (i : Int) < (l : Int) := by have := atIs_pos hi; have := HLL.out; omega
    have d1 : decide ((i : Int) < 0) = false := decide_eq_false (by omega)
    have f1 := hcs.frozen (i * 5 + 1)
    have HI := Lib.hid hi
    obtain ⟨T, eT⟩ : ∃ T, d.T = T := ⟨_, rfl⟩
    rw [eT] at c1 hT
    have ET := Lib.hid eT
    obtain ⟨m, em⟩ : ∃ m, 4611686018427387904 - T = m := ⟨_, rfl⟩
    have e3 : IntKind.u64.wrap (4611686018427387904 - T) = m := by rw [IntKind.wrap_u64]; omega
    have EM := Lib.hid em
    clear em
    have st := H.out.store (j := 1) (d' := { d with T := gT T g }) (u := .int .u64 (gT T g)) hi.1 (by decide) rfl rfl rfl (fun h => h)
    rw [HLL.out] at st
    obtain ⟨wn, hwn⟩ : ∃ z, w.setCell ⟨b, i * 5 + 1, none⟩ (.int .u64 (gT T g)) = z := ⟨_, rfl⟩
    rw [hwn] at st
    have HS := Lib.hid st
    have HW := Lib.hid hwn
    clear hi hg1 hg2 hcs st hwn eT
    obtain ⟨bb, hbb⟩ : ∃ bb : Bool, decide (m < g) = bb := ⟨_, rfl⟩
    go_upto_if 22 with (fail)
    have HBB := Lib.hid hbb
    clear hbb
    go_cut [] (fun wc => FamD wc B f k (.slice (some ⟨b, 0, none⟩) l c) (Ds.set i { d with T := gT T g }) ∧ DFr B w wc)
    case first =>
      cases bb with
      | true =>
        have hv : m < g := of_decide_eq_true HBB.out
        have e4 : gT T g = 4611686018427387904 := by have := EM.out; unfold gT; omega
        rw [e4] at HS HW
        go_wp2_with fail
        rw [HW.out]
        go_meet
        rw [e4]
        exact HS.out
      | false =>
        have hv : ¬ m < g := of_decide_eq_false HBB.out
        have e4 : gT T g = T + g := by have := EM.out; unfold gT; omega
        have e5 : IntKind.u64.wrap (T + g) = T + g := by rw [IntKind.wrap_u64]; have := EM.out; have := wg.1; omega
        rw [e4] at HS HW
        clear hv
        go_wp2_with fail
        go_region
        go_wp2_with fail
        rw [HW.out]
        go_meet
        rw [e4]
        have hd : Below wn.heap.size wn wn.drew := below_of_drew (Below.refl _ _)
        exact ⟨HS.out.1.next hd, HS.out.2.trans (DFr.of_new hd)⟩
    case rest =>
      obtain ⟨hfm, hdf⟩ := hcut
      have hi' : (Ds.set i { d with T := gT T g })[i]? = some { d with T := gT T g } := by rw [List.getElem?_set_self (atIs_pos HI.out)]
      have x0 := hfm.blk.get 0 rfl
      obtain ⟨A', c', eA, -, -, hc'⟩ := hfm.form
      obtain ⟨b', eb, -, hbl, -, -, z1, -, z3, z4⟩ := hc' i _ hi'
      obtain rfl : b = b' := by
        rw [eb] at eA
        injection eA with eA
        injection eA with eA
        injection eA
      have HF := Lib.hid (And.intro hfm (And.intro hdf (And.intro hbl (And.intro z1 z3))))
      have HI2 := Lib.hid hi'
      obtain ⟨D2, eD2⟩ : ∃ z, Ds.set i { d with T := gT T g } = z := ⟨_, rfl⟩
      have hlen : D2.length = l := by rw [← eD2, List.length_set]; exact HLL.out
      rw [eD2] at HF HI2
      have HD2 := Lib.hid eD2
      have HLN := Lib.hid hlen
      clear eA eb hfm hdf hbl hi' hc' c0 c1 c3 c4 HS HW eD2 hlen
      cases hup : d.up with
      | false =>
        rw [hup] at z4
        have HUP := Lib.hid hup
        clear z1 z3 hup
        go_wp2_with fail
        try go_end0
        refine ⟨rfl, i, HI.out, ?_, HF.out.2.1⟩
        unfold gainK gainD
        rw [if_neg (by rw [HUP.out]; decide), if_neg (by rw [HUP.out]; decide), ET.out, HD2.out, HLL.out]
        exact HF.out.1
      | true =>
        rw [hup] at z4
        have HUP := Lib.hid hup
        have RE := Lib.hid (fun w' (hb : Below wc.heap.size wc w') => rn_reach B d.r d.F d.L d.R d.vx d.vy d.A s (gT T g) _ w' ((HF.out.1.mem _ (List.mem_of_getElem? HI2.out)).next hb) HR.out.1 HR.out.2.1 HR.out.2.2 (by have := HT.out.1; have := HT.out.2.1; rw [← ET.out]; unfold gT; omega) (by unfold gT; omega) rfl)
        have SE := Lib.hid (fun w' (hb : Below wc.heap.size wc w') => d_set B f k _ D2 i _ (i : Int) (s.reach (gT T g)) w' (HF.out.1.next hb) (by rw [HLN.out]; exact hf) HI2.out rfl)
        obtain ⟨vv, evv⟩ : ∃ z, s.reach (gT T g) = z := ⟨_, rfl⟩
        rw [evv] at RE SE
        have EVV := Lib.hid evv
        clear evv hup
        go_upto_region 6 with (fail)
        clear z1 z3 z4 x0
        have KP : Hid (∀ w', Below (wc.heap.size) wc w' → (w'.cell? ⟨f, 0, none⟩ = some (.slice (some ⟨b, 0, none⟩) l c) ∧ w'.cell? ⟨b, i * 5 + 3, none⟩ = some (.pointer (some ⟨d.r, 0, none⟩)) ∧ w'.cell? ⟨b, i * 5 + 1, none⟩ = some (.int .u64 (gT T g))) ∧ Below (wc.heap.size) wc w') := fun w' hb => ⟨⟨(by have := (HF.out.1.blk.next hb).get 0 rfl; exact this), ((hb.cell (p := ⟨b, i * 5 + 3, none⟩) HF.out.2.2.1).trans HF.out.2.2.2.2), ((hb.cell (p := ⟨b, i * 5 + 1, none⟩) HF.out.2.2.1).trans HF.out.2.2.2.1)⟩, hb⟩
        refine wp_region_noPanic ?_
        refine wp_region_Z [19] (fun w' => (w'.cell? ⟨f, 0, none⟩ = some (.slice (some ⟨b, 0, none⟩) l c) ∧ w'.cell? ⟨b, i * 5 + 3, none⟩ = some (.pointer (some ⟨d.r, 0, none⟩)) ∧ w'.cell? ⟨b, i * 5 + 1, none⟩ = some (.int .u64 (gT T g))) ∧ Below (wc.heap.size) wc w') (by kernel_rfl) (KP.out _ (below_of_drew ((Below.refl wc.heap.size wc)))) (fun hH => ?_)
        have hbR := below_of_drew ((Below.refl wc.heap.size wc))
        first | (refine wpAnyZ_takeC (i := 0) (v := undef) rfl ?_ ?_ ?_ ?_ (fun _ _ _ h => h) ?_ ?_ ?_; kernel_rfl; kernel_rfl; kernel_rfl; kernel_rfl; exact Or.inr ⟨by rfl, rfl⟩; exact hH) | (refine wpAnyZ_takeC (i := 0) (v := ?_) rfl ?_ ?_ ?_ ?_ (fun _ _ _ h => h) ?_ ?_ ?_; rotate_left; kernel_rfl; kernel_rfl; kernel_rfl; kernel_rfl; (focus (refine Or.inl ⟨by rfl, ?_⟩; intro w' hSw; (try dsimp only at hSw); go_simp)); exact hH) | (refine wpAnyZ_takeC (i := 0) (v := ?_) rfl ?_ ?_ ?_ ?_ (fun _ _ _ h => h) ?_ ?_ ?_; rotate_left; kernel_rfl; kernel_rfl; kernel_rfl; kernel_rfl; (focus (refine Or.inl ⟨by rfl, ?_⟩; intro w' hSw; (try dsimp only at hSw); go_simp; with_reducible rfl)); exact hH)
        try simp only [Act.put, List.getElem_toArray, List.getElem_cons_succ, List.getElem_cons_zero, List.setIfInBounds_toArray, List.set_cons_zero, List.set_cons_succ]
        first | (refine wpAnyZ_takeC (i := 1) (v := undef) rfl ?_ ?_ ?_ ?_ (fun _ _ _ h => h) ?_ ?_ ?_; kernel_rfl; kernel_rfl; kernel_rfl; kernel_rfl; exact Or.inr ⟨by rfl, rfl⟩; exact hH) | (refine wpAnyZ_takeC (i := 1) (v := ?_) rfl ?_ ?_ ?_ ?_ (fun _ _ _ h => h) ?_ ?_ ?_; rotate_left; kernel_rfl; kernel_rfl; kernel_rfl; kernel_rfl; (focus (refine Or.inl ⟨by rfl, ?_⟩; intro w' hSw; (try dsimp only at hSw); go_simp)); exact hH) | (refine wpAnyZ_takeC (i := 1) (v := ?_) rfl ?_ ?_ ?_ ?_ (fun _ _ _ h => h) ?_ ?_ ?_; rotate_left; kernel_rfl; kernel_rfl; kernel_rfl; kernel_rfl; (focus (refine Or.inl ⟨by rfl, ?_⟩; intro w' hSw; (try dsimp only at hSw); go_simp; with_reducible rfl)); exact hH)
        try simp only [Act.put, List.getElem_toArray, List.getElem_cons_succ, List.getElem_cons_zero, List.setIfInBounds_toArray, List.set_cons_zero, List.set_cons_succ]
        first | (refine wpAnyZ_takeC (i := 2) (v := undef) rfl ?_ ?_ ?_ ?_ (fun _ _ _ h => h) ?_ ?_ ?_; kernel_rfl; kernel_rfl; kernel_rfl; kernel_rfl; exact Or.inr ⟨by rfl, rfl⟩; exact hH) | (refine wpAnyZ_takeC (i := 2) (v := ?_) rfl ?_ ?_ ?_ ?_ (fun _ _ _ h => h) ?_ ?_ ?_; rotate_left; kernel_rfl; kernel_rfl; kernel_rfl; kernel_rfl; (focus (refine Or.inl ⟨by rfl, ?_⟩; intro w' hSw; (try dsimp only at hSw); go_simp)); exact hH) | (refine wpAnyZ_takeC (i := 2) (v := ?_) rfl ?_ ?_ ?_ ?_ (fun _ _ _ h => h) ?_ ?_ ?_; rotate_left; kernel_rfl; kernel_rfl; kernel_rfl; kernel_rfl; (focus (refine Or.inl ⟨by rfl, ?_⟩; intro w' hSw; (try dsimp only at hSw); go_simp; with_reducible rfl)); exact hH)
        try simp only [Act.put, List.getElem_toArray, List.getElem_cons_succ, List.getElem_cons_zero, List.setIfInBounds_toArray, List.set_cons_zero, List.set_cons_succ]
        first | (refine wpAnyZ_takeC (i := 3) (v := undef) rfl ?_ ?_ ?_ ?_ (fun _ _ _ h => h) ?_ ?_ ?_; kernel_rfl; kernel_rfl; kernel_rfl; kernel_rfl; exact Or.inr ⟨by rfl, rfl⟩; exact hH) | (refine wpAnyZ_takeC (i := 3) (v := ?_) rfl ?_ ?_ ?_ ?_ (fun _ _ _ h => h) ?_ ?_ ?_; rotate_left; kernel_rfl; kernel_rfl; kernel_rfl; kernel_rfl; (focus (refine Or.inl ⟨by rfl, ?_⟩; intro w' hSw; (try dsimp only at hSw); go_simp)); exact hH) | (refine wpAnyZ_takeC (i := 3) (v := ?_) rfl ?_ ?_ ?_ ?_ (fun _ _ _ h => h) ?_ ?_ ?_; rotate_left; kernel_rfl; kernel_rfl; kernel_rfl; kernel_rfl; (focus (refine Or.inl ⟨by rfl, ?_⟩; intro w' hSw; (try dsimp only at hSw); go_simp; with_reducible rfl)); exact hH)
        try simp only [Act.put, List.getElem_toArray, List.getElem_cons_succ, List.getElem_cons_zero, List.setIfInBounds_toArray, List.set_cons_zero, List.set_cons_succ]
        first | (refine wpAnyZ_takeC (i := 4) (v := undef) rfl ?_ ?_ ?_ ?_ (fun _ _ _ h => h) ?_ ?_ ?_; kernel_rfl; kernel_rfl; kernel_rfl; kernel_rfl; exact Or.inr ⟨by rfl, rfl⟩; exact hH) | (refine wpAnyZ_takeC (i := 4) (v := ?_) rfl ?_ ?_ ?_ ?_ (fun _ _ _ h => h) ?_ ?_ ?_; rotate_left; kernel_rfl; kernel_rfl; kernel_rfl; kernel_rfl; (focus (refine Or.inl ⟨by rfl, ?_⟩; intro w' hSw; (try dsimp only at hSw); go_simp)); exact hH) | (refine wpAnyZ_takeC (i := 4) (v := ?_) rfl ?_ ?_ ?_ ?_ (fun _ _ _ h => h) ?_ ?_ ?_; rotate_left; kernel_rfl; kernel_rfl; kernel_rfl; kernel_rfl; (focus (refine Or.inl ⟨by rfl, ?_⟩; intro w' hSw; (try dsimp only at hSw); go_simp; with_reducible rfl)); exact hH)
        try simp only [Act.put, List.getElem_toArray, List.getElem_cons_succ, List.getElem_cons_zero, List.setIfInBounds_toArray, List.set_cons_zero, List.set_cons_succ]
        first | (refine wpAnyZ_takeC (i := 5) (v := undef) rfl ?_ ?_ ?_ ?_ (fun _ _ _ h => h) ?_ ?_ ?_; kernel_rfl; kernel_rfl; kernel_rfl; kernel_rfl; exact Or.inr ⟨by rfl, rfl⟩; exact hH) | (refine wpAnyZ_takeC (i := 5) (v := ?_) rfl ?_ ?_ ?_ ?_ (fun _ _ _ h => h) ?_ ?_ ?_; rotate_left; kernel_rfl; kernel_rfl; kernel_rfl; kernel_rfl; (focus (refine Or.inl ⟨by rfl, ?_⟩; intro w' hSw; (try dsimp only at hSw); go_simp)); exact hH) | (refine wpAnyZ_takeC (i := 5) (v := ?_) rfl ?_ ?_ ?_ ?_ (fun _ _ _ h => h) ?_ ?_ ?_; rotate_left; kernel_rfl; kernel_rfl; kernel_rfl; kernel_rfl; (focus (refine Or.inl ⟨by rfl, ?_⟩; intro w' hSw; (try dsimp only at hSw); go_simp; with_reducible rfl)); exact hH)
        try simp only [Act.put, List.getElem_toArray, List.getElem_cons_succ, List.getElem_cons_zero, List.setIfInBounds_toArray, List.set_cons_zero, List.set_cons_succ]
        first | (refine wpAnyZ_takeC (i := 6) (v := undef) rfl ?_ ?_ ?_ ?_ (fun _ _ _ h => h) ?_ ?_ ?_; kernel_rfl; kernel_rfl; kernel_rfl; kernel_rfl; exact Or.inr ⟨by rfl, rfl⟩; exact hH) | (refine wpAnyZ_takeC (i := 6) (v := ?_) rfl ?_ ?_ ?_ ?_ (fun _ _ _ h => h) ?_ ?_ ?_; rotate_left; kernel_rfl; kernel_rfl; kernel_rfl; kernel_rfl; (focus (refine Or.inl ⟨by rfl, ?_⟩; intro w' hSw; (try dsimp only at hSw); go_simp)); exact hH) | (refine wpAnyZ_takeC (i := 6) (v := ?_) rfl ?_ ?_ ?_ ?_ (fun _ _ _ h => h) ?_ ?_ ?_; rotate_left; kernel_rfl; kernel_rfl; kernel_rfl; kernel_rfl; (focus (refine Or.inl ⟨by rfl, ?_⟩; intro w' hSw; (try dsimp only at hSw); go_simp; with_reducible rfl)); exact hH)
        try simp only [Act.put, List.getElem_toArray, List.getElem_cons_succ, List.getElem_cons_zero, List.setIfInBounds_toArray, List.set_cons_zero, List.set_cons_succ]
        first | (refine wpAnyZ_takeC (i := 7) (v := undef) rfl ?_ ?_ ?_ ?_ (fun _ _ _ h => h) ?_ ?_ ?_; kernel_rfl; kernel_rfl; kernel_rfl; kernel_rfl; exact Or.inr ⟨by rfl, rfl⟩; exact hH) | (refine wpAnyZ_takeC (i := 7) (v := ?_) rfl ?_ ?_ ?_ ?_ (fun _ _ _ h => h) ?_ ?_ ?_; rotate_left; kernel_rfl; kernel_rfl; kernel_rfl; kernel_rfl; (focus (refine Or.inl ⟨by rfl, ?_⟩; intro w' hSw; (try dsimp only at hSw); go_simp)); exact hH) | (refine wpAnyZ_takeC (i := 7) (v := ?_) rfl ?_ ?_ ?_ ?_ (fun _ _ _ h => h) ?_ ?_ ?_; rotate_left; kernel_rfl; kernel_rfl; kernel_rfl; kernel_rfl; (focus (refine Or.inl ⟨by rfl, ?_⟩; intro w' hSw; (try dsimp only at hSw); go_simp; with_reducible rfl)); exact hH)
        try simp only [Act.put, List.getElem_toArray, List.getElem_cons_succ, List.getElem_cons_zero, List.setIfInBounds_toArray, List.set_cons_zero, List.set_cons_succ]
        first | (refine wpAnyZ_takeC (i := 8) (v := undef) rfl ?_ ?_ ?_ ?_ (fun _ _ _ h => h) ?_ ?_ ?_; kernel_rfl; kernel_rfl; kernel_rfl; kernel_rfl; exact Or.inr ⟨by rfl, rfl⟩; exact hH) | (refine wpAnyZ_takeC (i := 8) (v := ?_) rfl ?_ ?_ ?_ ?_ (fun _ _ _ h => h) ?_ ?_ ?_; rotate_left; kernel_rfl; kernel_rfl; kernel_rfl; kernel_rfl; (focus (refine Or.inl ⟨by rfl, ?_⟩; intro w' hSw; (try dsimp only at hSw); go_simp)); exact hH) | (refine wpAnyZ_takeC (i := 8) (v := ?_) rfl ?_ ?_ ?_ ?_ (fun _ _ _ h => h) ?_ ?_ ?_; rotate_left; kernel_rfl; kernel_rfl; kernel_rfl; kernel_rfl; (focus (refine Or.inl ⟨by rfl, ?_⟩; intro w' hSw; (try dsimp only at hSw); go_simp; with_reducible rfl)); exact hH)
        try simp only [Act.put, List.getElem_toArray, List.getElem_cons_succ, List.getElem_cons_zero, List.setIfInBounds_toArray, List.set_cons_zero, List.set_cons_succ]
        first | (refine wpAnyZ_takeC (i := 9) (v := undef) rfl ?_ ?_ ?_ ?_ (fun _ _ _ h => h) ?_ ?_ ?_; kernel_rfl; kernel_rfl; kernel_rfl; kernel_rfl; exact Or.inr ⟨by rfl, rfl⟩; exact hH) | (refine wpAnyZ_takeC (i := 9) (v := ?_) rfl ?_ ?_ ?_ ?_ (fun _ _ _ h => h) ?_ ?_ ?_; rotate_left; kernel_rfl; kernel_rfl; kernel_rfl; kernel_rfl; (focus (refine Or.inl ⟨by rfl, ?_⟩; intro w' hSw; (try dsimp only at hSw); go_simp)); exact hH) | (refine wpAnyZ_takeC (i := 9) (v := ?_) rfl ?_ ?_ ?_ ?_ (fun _ _ _ h => h) ?_ ?_ ?_; rotate_left; kernel_rfl; kernel_rfl; kernel_rfl; kernel_rfl; (focus (refine Or.inl ⟨by rfl, ?_⟩; intro w' hSw; (try dsimp only at hSw); go_simp; with_reducible rfl)); exact hH)
        try simp only [Act.put, List.getElem_toArray, List.getElem_cons_succ, List.getElem_cons_zero, List.setIfInBounds_toArray, List.set_cons_zero, List.set_cons_succ]
        first | (refine wpAnyZ_takeC (i := 10) (v := undef) rfl ?_ ?_ ?_ ?_ (fun _ _ _ h => h) ?_ ?_ ?_; kernel_rfl; kernel_rfl; kernel_rfl; kernel_rfl; exact Or.inr ⟨by rfl, rfl⟩; exact hH) | (refine wpAnyZ_takeC (i := 10) (v := ?_) rfl ?_ ?_ ?_ ?_ (fun _ _ _ h => h) ?_ ?_ ?_; rotate_left; kernel_rfl; kernel_rfl; kernel_rfl; kernel_rfl; (focus (refine Or.inl ⟨by rfl, ?_⟩; intro w' hSw; (try dsimp only at hSw); go_simp)); exact hH) | (refine wpAnyZ_takeC (i := 10) (v := ?_) rfl ?_ ?_ ?_ ?_ (fun _ _ _ h => h) ?_ ?_ ?_; rotate_left; kernel_rfl; kernel_rfl; kernel_rfl; kernel_rfl; (focus (refine Or.inl ⟨by rfl, ?_⟩; intro w' hSw; (try dsimp only at hSw); go_simp; with_reducible rfl)); exact hH)
        try simp only [Act.put, List.getElem_toArray, List.getElem_cons_succ, List.getElem_cons_zero, List.setIfInBounds_toArray, List.set_cons_zero, List.set_cons_succ]
        first | (refine wpAnyZ_takeC (i := 11) (v := undef) rfl ?_ ?_ ?_ ?_ (fun _ _ _ h => h) ?_ ?_ ?_; kernel_rfl; kernel_rfl; kernel_rfl; kernel_rfl; exact Or.inr ⟨by rfl, rfl⟩; exact hH) | (refine wpAnyZ_takeC (i := 11) (v := ?_) rfl ?_ ?_ ?_ ?_ (fun _ _ _ h => h) ?_ ?_ ?_; rotate_left; kernel_rfl; kernel_rfl; kernel_rfl; kernel_rfl; (focus (refine Or.inl ⟨by rfl, ?_⟩; intro w' hSw; (try dsimp only at hSw); go_simp)); exact hH) | (refine wpAnyZ_takeC (i := 11) (v := ?_) rfl ?_ ?_ ?_ ?_ (fun _ _ _ h => h) ?_ ?_ ?_; rotate_left; kernel_rfl; kernel_rfl; kernel_rfl; kernel_rfl; (focus (refine Or.inl ⟨by rfl, ?_⟩; intro w' hSw; (try dsimp only at hSw); go_simp; with_reducible rfl)); exact hH)
        try simp only [Act.put, List.getElem_toArray, List.getElem_cons_succ, List.getElem_cons_zero, List.setIfInBounds_toArray, List.set_cons_zero, List.set_cons_succ]
        first | (refine wpAnyZ_takeC (i := 12) (v := undef) rfl ?_ ?_ ?_ ?_ (fun _ _ _ h => h) ?_ ?_ ?_; kernel_rfl; kernel_rfl; kernel_rfl; kernel_rfl; exact Or.inr ⟨by rfl, rfl⟩; exact hH) | (refine wpAnyZ_takeC (i := 12) (v := ?_) rfl ?_ ?_ ?_ ?_ (fun _ _ _ h => h) ?_ ?_ ?_; rotate_left; kernel_rfl; kernel_rfl; kernel_rfl; kernel_rfl; (focus (refine Or.inl ⟨by rfl, ?_⟩; intro w' hSw; (try dsimp only at hSw); go_simp)); exact hH) | (refine wpAnyZ_takeC (i := 12) (v := ?_) rfl ?_ ?_ ?_ ?_ (fun _ _ _ h => h) ?_ ?_ ?_; rotate_left; kernel_rfl; kernel_rfl; kernel_rfl; kernel_rfl; (focus (refine Or.inl ⟨by rfl, ?_⟩; intro w' hSw; (try dsimp only at hSw); go_simp; with_reducible rfl)); exact hH)
        try simp only [Act.put, List.getElem_toArray, List.getElem_cons_succ, List.getElem_cons_zero, List.setIfInBounds_toArray, List.set_cons_zero, List.set_cons_succ]
        first | (refine wpAnyZ_takeC (i := 13) (v := undef) rfl ?_ ?_ ?_ ?_ (fun _ _ _ h => h) ?_ ?_ ?_; kernel_rfl; kernel_rfl; kernel_rfl; kernel_rfl; exact Or.inr ⟨by rfl, rfl⟩; exact hH) | (refine wpAnyZ_takeC (i := 13) (v := ?_) rfl ?_ ?_ ?_ ?_ (fun _ _ _ h => h) ?_ ?_ ?_; rotate_left; kernel_rfl; kernel_rfl; kernel_rfl; kernel_rfl; (focus (refine Or.inl ⟨by rfl, ?_⟩; intro w' hSw; (try dsimp only at hSw); go_simp)); exact hH) | (refine wpAnyZ_takeC (i := 13) (v := ?_) rfl ?_ ?_ ?_ ?_ (fun _ _ _ h => h) ?_ ?_ ?_; rotate_left; kernel_rfl; kernel_rfl; kernel_rfl; kernel_rfl; (focus (refine Or.inl ⟨by rfl, ?_⟩; intro w' hSw; (try dsimp only at hSw); go_simp; with_reducible rfl)); exact hH)
        try simp only [Act.put, List.getElem_toArray, List.getElem_cons_succ, List.getElem_cons_zero, List.setIfInBounds_toArray, List.set_cons_zero, List.set_cons_succ]
        first | (refine wpAnyZ_takeC (i := 14) (v := undef) rfl ?_ ?_ ?_ ?_ (fun _ _ _ h => h) ?_ ?_ ?_; kernel_rfl; kernel_rfl; kernel_rfl; kernel_rfl; exact Or.inr ⟨by rfl, rfl⟩; exact hH) | (refine wpAnyZ_takeC (i := 14) (v := ?_) rfl ?_ ?_ ?_ ?_ (fun _ _ _ h => h) ?_ ?_ ?_; rotate_left; kernel_rfl; kernel_rfl; kernel_rfl; kernel_rfl; (focus (refine Or.inl ⟨by rfl, ?_⟩; intro w' hSw; (try dsimp only at hSw); go_simp)); exact hH) | (refine wpAnyZ_takeC (i := 14) (v := ?_) rfl ?_ ?_ ?_ ?_ (fun _ _ _ h => h) ?_ ?_ ?_; rotate_left; kernel_rfl; kernel_rfl; kernel_rfl; kernel_rfl; (focus (refine Or.inl ⟨by rfl, ?_⟩; intro w' hSw; (try dsimp only at hSw); go_simp; with_reducible rfl)); exact hH)
        try simp only [Act.put, List.getElem_toArray, List.getElem_cons_succ, List.getElem_cons_zero, List.setIfInBounds_toArray, List.set_cons_zero, List.set_cons_succ]
        first | (refine wpAnyZ_takeC (i := 15) (v := undef) rfl ?_ ?_ ?_ ?_ (fun _ _ _ h => h) ?_ ?_ ?_; kernel_rfl; kernel_rfl; kernel_rfl; kernel_rfl; exact Or.inr ⟨by rfl, rfl⟩; exact hH) | (refine wpAnyZ_takeC (i := 15) (v := ?_) rfl ?_ ?_ ?_ ?_ (fun _ _ _ h => h) ?_ ?_ ?_; rotate_left; kernel_rfl; kernel_rfl; kernel_rfl; kernel_rfl; (focus (refine Or.inl ⟨by rfl, ?_⟩; intro w' hSw; (try dsimp only at hSw); go_simp)); exact hH) | (refine wpAnyZ_takeC (i := 15) (v := ?_) rfl ?_ ?_ ?_ ?_ (fun _ _ _ h => h) ?_ ?_ ?_; rotate_left; kernel_rfl; kernel_rfl; kernel_rfl; kernel_rfl; (focus (refine Or.inl ⟨by rfl, ?_⟩; intro w' hSw; (try dsimp only at hSw); go_simp; with_reducible rfl)); exact hH)
        try simp only [Act.put, List.getElem_toArray, List.getElem_cons_succ, List.getElem_cons_zero, List.setIfInBounds_toArray, List.set_cons_zero, List.set_cons_succ]
        first | (refine wpAnyZ_takeC (i := 16) (v := undef) rfl ?_ ?_ ?_ ?_ (fun _ _ _ h => h) ?_ ?_ ?_; kernel_rfl; kernel_rfl; kernel_rfl; kernel_rfl; exact Or.inr ⟨by rfl, rfl⟩; exact hH) | (refine wpAnyZ_takeC (i := 16) (v := ?_) rfl ?_ ?_ ?_ ?_ (fun _ _ _ h => h) ?_ ?_ ?_; rotate_left; kernel_rfl; kernel_rfl; kernel_rfl; kernel_rfl; (focus (refine Or.inl ⟨by rfl, ?_⟩; intro w' hSw; (try dsimp only at hSw); go_simp)); exact hH) | (refine wpAnyZ_takeC (i := 16) (v := ?_) rfl ?_ ?_ ?_ ?_ (fun _ _ _ h => h) ?_ ?_ ?_; rotate_left; kernel_rfl; kernel_rfl; kernel_rfl; kernel_rfl; (focus (refine Or.inl ⟨by rfl, ?_⟩; intro w' hSw; (try dsimp only at hSw); go_simp; with_reducible rfl)); exact hH)
        try simp only [Act.put, List.getElem_toArray, List.getElem_cons_succ, List.getElem_cons_zero, List.setIfInBounds_toArray, List.set_cons_zero, List.set_cons_succ]
        first | (refine wpAnyZ_takeC (i := 17) (v := undef) rfl ?_ ?_ ?_ ?_ (fun _ _ _ h => h) ?_ ?_ ?_; kernel_rfl; kernel_rfl; kernel_rfl; kernel_rfl; exact Or.inr ⟨by rfl, rfl⟩; exact hH) | (refine wpAnyZ_takeC (i := 17) (v := ?_) rfl ?_ ?_ ?_ ?_ (fun _ _ _ h => h) ?_ ?_ ?_; rotate_left; kernel_rfl; kernel_rfl; kernel_rfl; kernel_rfl; (focus (refine Or.inl ⟨by rfl, ?_⟩; intro w' hSw; (try dsimp only at hSw); go_simp)); exact hH) | (refine wpAnyZ_takeC (i := 17) (v := ?_) rfl ?_ ?_ ?_ ?_ (fun _ _ _ h => h) ?_ ?_ ?_; rotate_left; kernel_rfl; kernel_rfl; kernel_rfl; kernel_rfl; (focus (refine Or.inl ⟨by rfl, ?_⟩; intro w' hSw; (try dsimp only at hSw); go_simp; with_reducible rfl)); exact hH)
        try simp only [Act.put, List.getElem_toArray, List.getElem_cons_succ, List.getElem_cons_zero, List.setIfInBounds_toArray, List.set_cons_zero, List.set_cons_succ]
        refine wpAnyZ_ready (rs := [18]) (by kernel_rfl) (by simp) ?_
        refine (AllReadyZ.cons rfl (fun K hK => ?_) AllReadyZ.nil)
        go_simp
        with_reducible refine (RE.out _ hH.2).mono ?_
        rintro e w1 ⟨rfl, hb1'⟩
        have hb1 : Below (wc.heap.size) wc w1 := below_next hH.2 hb1'
        try go_wp2_with fail
        have hH1 := KP.out _ hb1
        refine hK.out _ _ (fun _ => hH1) ?_
        clear hK K hH
        have hH := hH1
        clear hH1
        try simp only [Act.put, List.getElem_toArray, List.getElem_cons_succ, List.getElem_cons_zero, List.setIfInBounds_toArray, List.set_cons_zero, List.set_cons_succ]
        refine wpAnyZ_ready (rs := [19]) (by kernel_rfl) (by simp) ?_
        refine (AllReadyZ.cons rfl (fun K hK => ?_) AllReadyZ.nil)
        go_simp
        with_reducible refine (SE.out _ hH.2).mono ?_
        rintro e w2 ⟨rfl, hfam2, hdf2⟩
        have HG := Lib.hid (And.intro hfam2 (And.intro hdf2 hH.2))
        clear hfam2 hdf2
        refine hK.out _ _ (fun h => absurd (by simp) h) ?_
        clear hK K
        try simp only [Act.put, List.getElem_toArray, List.getElem_cons_succ, List.getElem_cons_zero, List.setIfInBounds_toArray, List.set_cons_zero, List.set_cons_succ]
        refine wpAnyZ_done (by kernel_rfl) ?_ _
        refine NoPanic.normal ?_
        skip
        go_wp2_with fail
        try go_end0
        refine ⟨rfl, i, HI.out, ?_, (HF.out.2.1.trans (DFr.of_new HG.out.2.2)).trans HG.out.2.1⟩
        unfold gainK gainD
        rw [if_pos HUP.out, if_pos HUP.out, ET.out, EVV.out]
        have e := HG.out.1
        rw [← HD2.out, List.set_set] at e
        rw [HLL.out]
        exact e

end Go.Proofs.YtjhffbhjiflfeaaGreat

/-!
  The document's family: who comes, who goes.
-/
namespace Go.Proofs.YtjhffbhjiflfeaaGreat
set_option linter.unusedVariables false
set_option linter.unusedSimpArgs false
set_option maxRecDepth 100000
open Go.RowKit Go.Shelf

theorem mrow_info : ∃ i, RowInfo Tryz.prog 27 75 i (.agg #[.int .i64 0, .int .u64 0, .int .u64 0, .pointer none, .bool false]) 5 40 := by
  obtain ⟨i0, hi, hz0, hz1, hz2⟩ := info_parts (show (Tryz.prog.info? 75).map (fun i => (i.zero, i.size, i.bytes)) = some (some (.agg #[.int .i64 0, .int .u64 0, .int .u64 0, .pointer none, .bool false]), 5, 40) by kernel_rfl)
  exact ⟨i0, Tryz.underlying27, hi, hz0, hz1, hz2, by simp [Value.cells], by decide, by decide⟩
theorem dfnd_absent {id : Int} {Ds : List DM} (h : dfnd id Ds = none) {d : DM} (hid : d.id = id) (hn : (Ds.map (·.id)).Nodup) : ((Ds ++ [d]).map (·.id)).Nodup := by
  rw [List.map_append, List.nodup_append]
  refine ⟨hn, by simp, fun a ha b hb => ?_⟩
  obtain ⟨e, he, rfl⟩ := List.mem_map.1 ha
  simp only [List.map_cons, List.map_nil, List.mem_singleton] at hb
  rw [hb, hid]
  exact dfnd_not h e he

set_option maxHeartbeats 4000000 in
theorem d_drop (B f : Nat) (k : Int) (vL : Value) (Ds : List DM) (id : Int) (w : World) (h : FamD w B f k vL Ds) (hB : B ≤ w.heap.size) (hf : Ds.length ≤ 65535) :
    Calls Tryz.prog 12 #[.pointer (some ⟨f, 0, none⟩), .int .i64 id] w fun e w' => ((dfnd id Ds = none ∧ e = .returned (.bool false) ∧ w = w') ∨ ∃ (i : Nat) (d : DM) (vL' : Value), AtIs id Ds i d ∧ e = .returned (.bool true) ∧ FamD w' B f k vL' (Ds.take i ++ Ds.drop (i + 1)) ∧ DFr B w w') := by
  have AT := Lib.hid (d_at B f k vL Ds id w h hf)
  have H := Lib.hid (And.intro h hB)
  obtain ⟨A, c, rfl, hlc, hcm, -⟩ := h.form
  have c0 := h.blk.get 0 rfl
  obtain ⟨n, hl⟩ : ∃ l, Ds.length = l := ⟨_, rfl⟩
  have HLL := Lib.hid hl
  rw [hl] at c0 hlc hf
  clear h hcm hl hB
  go_enter Tryz.func12, Tryz.ntmps12
  go_wp2_with fail
  with_reducible refine (AT.out).mono ?_
  rintro e w1 ⟨rfl, q, rfl, hk⟩
  rcases hk with ⟨rfl, hn⟩ | ⟨i, d, rfl, hi⟩
  · have HN := Lib.hid hn
    clear hn
    go_wp2_with fail
    go_ret
    exact Or.inl ⟨HN.out, rfl, rfl⟩
  · have hil : i < n := by have := atIs_pos hi; have := HLL.out; omega
    have HI := Lib.hid hi
    obtain ⟨i0, hi0⟩ := mrow_info
    have hown : w.drew.ownsRow B 75 5 (.slice A n c) n (flatD Ds) := by
      have := own_next H.out.1.own (below_of_drew (Below.refl w.heap.size w))
      rw [HLL.out] at this
      exact this
    obtain ⟨v1, wA, v2, wB, r1, bA, r2, bB, oB⟩ := hi0.less 27 hown hil (flatD_one Ds) (by omega)
    obtain ⟨A2, c2, rfl⟩ := own_slice oB
    have HR1 := Lib.hid r1
    have HR2 := Lib.hid r2
    have HO := Lib.hid (And.intro bA (And.intro bB oB))
    clear r1 r2 bA bB oB hown hi0 hi
    have HSZ := Lib.hid (show w.drew.heap.size = w.heap.size from rfl)
    have p0 : (0 : Int) ≤ (i : Int) := by omega
    have p1 : (i : Int) < (n : Int) := by omega
    have p2 : (i : Int) ≤ (n : Int) := by omega
    have p3 : (i : Int) + 1 ≤ (n : Int) := by omega
    have p4 : (n : Int) ≤ (c : Int) := by omega
    have p5 : (i : Int) ≤ (c : Int) := by omega
    have d1 : decide ((i : Int) < 0) = false := decide_eq_false (by omega)
    have e5 : IntKind.i64.wrap ((i : Int) + 1) = ((i + 1 : Nat) : Int) := by rw [IntKind.wrap_i64]; omega
    have p6 : (0 : Int) ≤ (i : Int) + 1 := by omega
    have p7 : ((i + 1 : Nat) : Int) ≤ (n : Int) := by omega
    have KR : Hid (∀ w', Below (w.heap.size) w w' → (w'.cell? ⟨f, 0, none⟩ = some (.slice A n c)) ∧ Below (w.heap.size) w w') := fun w' hb => ⟨(by have := (H.out.1.blk.next hb).get 0 rfl; rw [HLL.out] at this; exact this), hb⟩
    obtain ⟨A', hA'⟩ : ∃ z, (if c = i + 1 then A else A.map (·.add ((i + 1) * 5))) = z := ⟨_, rfl⟩
    rw [hA'] at HR2
    have HA' := Lib.hid hA'
    have hbB : Below w.heap.size w wB := (below_of_drew (Below.refl w.heap.size w)).trans HO.out.2.1
    have HBB2 := Lib.hid hbB
    have bRB := H.out.1.blk.next hbB
    have cB := bRB.get 0 rfl
    have fB := bRB.frozen 0
    rw [HLL.out] at cB
    have HRB := Lib.hid (H.out.1.next hbB)
    clear hbB bRB c0
    go_wp2_with fail
    refine wp_region_noPanic ?_
    refine wp_region_Z [19] (fun w' => (w'.cell? ⟨f, 0, none⟩ = some (.slice A n c)) ∧ Below (w.heap.size) w w') (by kernel_rfl) (KR.out _ (below_of_drew (Below.refl w.heap.size w))) (fun hH => ?_)
    have hbR := below_of_drew (Below.refl w.heap.size w)
    first | (refine wpAnyZ_take (i := 0) (v := undef) rfl ?_ ?_ ?_ ?_ (fun _ _ _ h => h) ?_ ?_ ?_; kernel_rfl; kernel_rfl; kernel_rfl; kernel_rfl; exact Or.inr ⟨by rfl, rfl⟩; exact hH) | (refine wpAnyZ_take (i := 0) (v := ?_) rfl ?_ ?_ ?_ ?_ (fun _ _ _ h => h) ?_ ?_ ?_; rotate_left; kernel_rfl; kernel_rfl; kernel_rfl; kernel_rfl; (focus (refine Or.inl ⟨by rfl, ?_⟩; intro w' hSw; (try dsimp only at hSw); go_simp)); exact hH) | (refine wpAnyZ_take (i := 0) (v := ?_) rfl ?_ ?_ ?_ ?_ (fun _ _ _ h => h) ?_ ?_ ?_; rotate_left; kernel_rfl; kernel_rfl; kernel_rfl; kernel_rfl; (focus (refine Or.inl ⟨by rfl, ?_⟩; intro w' hSw; (try dsimp only at hSw); go_simp; with_reducible rfl)); exact hH)
    try simp only [Act.put, List.getElem_toArray, List.getElem_cons_succ, List.getElem_cons_zero, List.setIfInBounds_toArray, List.set_cons_zero, List.set_cons_succ]
    first | (refine wpAnyZ_take (i := 2) (v := undef) rfl ?_ ?_ ?_ ?_ (fun _ _ _ h => h) ?_ ?_ ?_; kernel_rfl; kernel_rfl; kernel_rfl; kernel_rfl; exact Or.inr ⟨by rfl, rfl⟩; exact hH) | (refine wpAnyZ_take (i := 2) (v := ?_) rfl ?_ ?_ ?_ ?_ (fun _ _ _ h => h) ?_ ?_ ?_; rotate_left; kernel_rfl; kernel_rfl; kernel_rfl; kernel_rfl; (focus (refine Or.inl ⟨by rfl, ?_⟩; intro w' hSw; (try dsimp only at hSw); go_simp)); exact hH) | (refine wpAnyZ_take (i := 2) (v := ?_) rfl ?_ ?_ ?_ ?_ (fun _ _ _ h => h) ?_ ?_ ?_; rotate_left; kernel_rfl; kernel_rfl; kernel_rfl; kernel_rfl; (focus (refine Or.inl ⟨by rfl, ?_⟩; intro w' hSw; (try dsimp only at hSw); go_simp; with_reducible rfl)); exact hH)
    try simp only [Act.put, List.getElem_toArray, List.getElem_cons_succ, List.getElem_cons_zero, List.setIfInBounds_toArray, List.set_cons_zero, List.set_cons_succ]
    first | (refine wpAnyZ_take (i := 3) (v := undef) rfl ?_ ?_ ?_ ?_ (fun _ _ _ h => h) ?_ ?_ ?_; kernel_rfl; kernel_rfl; kernel_rfl; kernel_rfl; exact Or.inr ⟨by rfl, rfl⟩; exact hH) | (refine wpAnyZ_take (i := 3) (v := ?_) rfl ?_ ?_ ?_ ?_ (fun _ _ _ h => h) ?_ ?_ ?_; rotate_left; kernel_rfl; kernel_rfl; kernel_rfl; kernel_rfl; (focus (refine Or.inl ⟨by rfl, ?_⟩; intro w' hSw; (try dsimp only at hSw); go_simp)); exact hH) | (refine wpAnyZ_take (i := 3) (v := ?_) rfl ?_ ?_ ?_ ?_ (fun _ _ _ h => h) ?_ ?_ ?_; rotate_left; kernel_rfl; kernel_rfl; kernel_rfl; kernel_rfl; (focus (refine Or.inl ⟨by rfl, ?_⟩; intro w' hSw; (try dsimp only at hSw); go_simp; with_reducible rfl)); exact hH)
    try simp only [Act.put, List.getElem_toArray, List.getElem_cons_succ, List.getElem_cons_zero, List.setIfInBounds_toArray, List.set_cons_zero, List.set_cons_succ]
    first | (refine wpAnyZ_take (i := 4) (v := undef) rfl ?_ ?_ ?_ ?_ (fun _ _ _ h => h) ?_ ?_ ?_; kernel_rfl; kernel_rfl; kernel_rfl; kernel_rfl; exact Or.inr ⟨by rfl, rfl⟩; exact hH) | (refine wpAnyZ_take (i := 4) (v := ?_) rfl ?_ ?_ ?_ ?_ (fun _ _ _ h => h) ?_ ?_ ?_; rotate_left; kernel_rfl; kernel_rfl; kernel_rfl; kernel_rfl; (focus (refine Or.inl ⟨by rfl, ?_⟩; intro w' hSw; (try dsimp only at hSw); go_simp)); exact hH) | (refine wpAnyZ_take (i := 4) (v := ?_) rfl ?_ ?_ ?_ ?_ (fun _ _ _ h => h) ?_ ?_ ?_; rotate_left; kernel_rfl; kernel_rfl; kernel_rfl; kernel_rfl; (focus (refine Or.inl ⟨by rfl, ?_⟩; intro w' hSw; (try dsimp only at hSw); go_simp; with_reducible rfl)); exact hH)
    try simp only [Act.put, List.getElem_toArray, List.getElem_cons_succ, List.getElem_cons_zero, List.setIfInBounds_toArray, List.set_cons_zero, List.set_cons_succ]
    first | (refine wpAnyZ_take (i := 5) (v := undef) rfl ?_ ?_ ?_ ?_ (fun _ _ _ h => h) ?_ ?_ ?_; kernel_rfl; kernel_rfl; kernel_rfl; kernel_rfl; exact Or.inr ⟨by rfl, rfl⟩; exact hH) | (refine wpAnyZ_take (i := 5) (v := ?_) rfl ?_ ?_ ?_ ?_ (fun _ _ _ h => h) ?_ ?_ ?_; rotate_left; kernel_rfl; kernel_rfl; kernel_rfl; kernel_rfl; (focus (refine Or.inl ⟨by rfl, ?_⟩; intro w' hSw; (try dsimp only at hSw); go_simp)); exact hH) | (refine wpAnyZ_take (i := 5) (v := ?_) rfl ?_ ?_ ?_ ?_ (fun _ _ _ h => h) ?_ ?_ ?_; rotate_left; kernel_rfl; kernel_rfl; kernel_rfl; kernel_rfl; (focus (refine Or.inl ⟨by rfl, ?_⟩; intro w' hSw; (try dsimp only at hSw); go_simp; with_reducible rfl)); exact hH)
    try simp only [Act.put, List.getElem_toArray, List.getElem_cons_succ, List.getElem_cons_zero, List.setIfInBounds_toArray, List.set_cons_zero, List.set_cons_succ]
    first | (refine wpAnyZ_take (i := 6) (v := undef) rfl ?_ ?_ ?_ ?_ (fun _ _ _ h => h) ?_ ?_ ?_; kernel_rfl; kernel_rfl; kernel_rfl; kernel_rfl; exact Or.inr ⟨by rfl, rfl⟩; exact hH) | (refine wpAnyZ_take (i := 6) (v := ?_) rfl ?_ ?_ ?_ ?_ (fun _ _ _ h => h) ?_ ?_ ?_; rotate_left; kernel_rfl; kernel_rfl; kernel_rfl; kernel_rfl; (focus (refine Or.inl ⟨by rfl, ?_⟩; intro w' hSw; (try dsimp only at hSw); go_simp)); exact hH) | (refine wpAnyZ_take (i := 6) (v := ?_) rfl ?_ ?_ ?_ ?_ (fun _ _ _ h => h) ?_ ?_ ?_; rotate_left; kernel_rfl; kernel_rfl; kernel_rfl; kernel_rfl; (focus (refine Or.inl ⟨by rfl, ?_⟩; intro w' hSw; (try dsimp only at hSw); go_simp; with_reducible rfl)); exact hH)
    try simp only [Act.put, List.getElem_toArray, List.getElem_cons_succ, List.getElem_cons_zero, List.setIfInBounds_toArray, List.set_cons_zero, List.set_cons_succ]
    first | (refine wpAnyZ_take (i := 7) (v := undef) rfl ?_ ?_ ?_ ?_ (fun _ _ _ h => h) ?_ ?_ ?_; kernel_rfl; kernel_rfl; kernel_rfl; kernel_rfl; exact Or.inr ⟨by rfl, rfl⟩; exact hH) | (refine wpAnyZ_take (i := 7) (v := ?_) rfl ?_ ?_ ?_ ?_ (fun _ _ _ h => h) ?_ ?_ ?_; rotate_left; kernel_rfl; kernel_rfl; kernel_rfl; kernel_rfl; (focus (refine Or.inl ⟨by rfl, ?_⟩; intro w' hSw; (try dsimp only at hSw); go_simp)); exact hH) | (refine wpAnyZ_take (i := 7) (v := ?_) rfl ?_ ?_ ?_ ?_ (fun _ _ _ h => h) ?_ ?_ ?_; rotate_left; kernel_rfl; kernel_rfl; kernel_rfl; kernel_rfl; (focus (refine Or.inl ⟨by rfl, ?_⟩; intro w' hSw; (try dsimp only at hSw); go_simp; with_reducible rfl)); exact hH)
    try simp only [Act.put, List.getElem_toArray, List.getElem_cons_succ, List.getElem_cons_zero, List.setIfInBounds_toArray, List.set_cons_zero, List.set_cons_succ]
    first | (refine wpAnyZ_take (i := 9) (v := undef) rfl ?_ ?_ ?_ ?_ (fun _ _ _ h => h) ?_ ?_ ?_; kernel_rfl; kernel_rfl; kernel_rfl; kernel_rfl; exact Or.inr ⟨by rfl, rfl⟩; exact hH) | (refine wpAnyZ_take (i := 9) (v := ?_) rfl ?_ ?_ ?_ ?_ (fun _ _ _ h => h) ?_ ?_ ?_; rotate_left; kernel_rfl; kernel_rfl; kernel_rfl; kernel_rfl; (focus (refine Or.inl ⟨by rfl, ?_⟩; intro w' hSw; (try dsimp only at hSw); go_simp)); exact hH) | (refine wpAnyZ_take (i := 9) (v := ?_) rfl ?_ ?_ ?_ ?_ (fun _ _ _ h => h) ?_ ?_ ?_; rotate_left; kernel_rfl; kernel_rfl; kernel_rfl; kernel_rfl; (focus (refine Or.inl ⟨by rfl, ?_⟩; intro w' hSw; (try dsimp only at hSw); go_simp; with_reducible rfl)); exact hH)
    try simp only [Act.put, List.getElem_toArray, List.getElem_cons_succ, List.getElem_cons_zero, List.setIfInBounds_toArray, List.set_cons_zero, List.set_cons_succ]
    first | (refine wpAnyZ_take (i := 10) (v := undef) rfl ?_ ?_ ?_ ?_ (fun _ _ _ h => h) ?_ ?_ ?_; kernel_rfl; kernel_rfl; kernel_rfl; kernel_rfl; exact Or.inr ⟨by rfl, rfl⟩; exact hH) | (refine wpAnyZ_take (i := 10) (v := ?_) rfl ?_ ?_ ?_ ?_ (fun _ _ _ h => h) ?_ ?_ ?_; rotate_left; kernel_rfl; kernel_rfl; kernel_rfl; kernel_rfl; (focus (refine Or.inl ⟨by rfl, ?_⟩; intro w' hSw; (try dsimp only at hSw); go_simp)); exact hH) | (refine wpAnyZ_take (i := 10) (v := ?_) rfl ?_ ?_ ?_ ?_ (fun _ _ _ h => h) ?_ ?_ ?_; rotate_left; kernel_rfl; kernel_rfl; kernel_rfl; kernel_rfl; (focus (refine Or.inl ⟨by rfl, ?_⟩; intro w' hSw; (try dsimp only at hSw); go_simp; with_reducible rfl)); exact hH)
    try simp only [Act.put, List.getElem_toArray, List.getElem_cons_succ, List.getElem_cons_zero, List.setIfInBounds_toArray, List.set_cons_zero, List.set_cons_succ]
    first | (refine wpAnyZ_take (i := 11) (v := undef) rfl ?_ ?_ ?_ ?_ (fun _ _ _ h => h) ?_ ?_ ?_; kernel_rfl; kernel_rfl; kernel_rfl; kernel_rfl; exact Or.inr ⟨by rfl, rfl⟩; exact hH) | (refine wpAnyZ_take (i := 11) (v := ?_) rfl ?_ ?_ ?_ ?_ (fun _ _ _ h => h) ?_ ?_ ?_; rotate_left; kernel_rfl; kernel_rfl; kernel_rfl; kernel_rfl; (focus (refine Or.inl ⟨by rfl, ?_⟩; intro w' hSw; (try dsimp only at hSw); go_simp)); exact hH) | (refine wpAnyZ_take (i := 11) (v := ?_) rfl ?_ ?_ ?_ ?_ (fun _ _ _ h => h) ?_ ?_ ?_; rotate_left; kernel_rfl; kernel_rfl; kernel_rfl; kernel_rfl; (focus (refine Or.inl ⟨by rfl, ?_⟩; intro w' hSw; (try dsimp only at hSw); go_simp; with_reducible rfl)); exact hH)
    try simp only [Act.put, List.getElem_toArray, List.getElem_cons_succ, List.getElem_cons_zero, List.setIfInBounds_toArray, List.set_cons_zero, List.set_cons_succ]
    first | (refine wpAnyZ_take (i := 12) (v := undef) rfl ?_ ?_ ?_ ?_ (fun _ _ _ h => h) ?_ ?_ ?_; kernel_rfl; kernel_rfl; kernel_rfl; kernel_rfl; exact Or.inr ⟨by rfl, rfl⟩; exact hH) | (refine wpAnyZ_take (i := 12) (v := ?_) rfl ?_ ?_ ?_ ?_ (fun _ _ _ h => h) ?_ ?_ ?_; rotate_left; kernel_rfl; kernel_rfl; kernel_rfl; kernel_rfl; (focus (refine Or.inl ⟨by rfl, ?_⟩; intro w' hSw; (try dsimp only at hSw); go_simp)); exact hH) | (refine wpAnyZ_take (i := 12) (v := ?_) rfl ?_ ?_ ?_ ?_ (fun _ _ _ h => h) ?_ ?_ ?_; rotate_left; kernel_rfl; kernel_rfl; kernel_rfl; kernel_rfl; (focus (refine Or.inl ⟨by rfl, ?_⟩; intro w' hSw; (try dsimp only at hSw); go_simp; with_reducible rfl)); exact hH)
    try simp only [Act.put, List.getElem_toArray, List.getElem_cons_succ, List.getElem_cons_zero, List.setIfInBounds_toArray, List.set_cons_zero, List.set_cons_succ]
    first | (refine wpAnyZ_take (i := 13) (v := undef) rfl ?_ ?_ ?_ ?_ (fun _ _ _ h => h) ?_ ?_ ?_; kernel_rfl; kernel_rfl; kernel_rfl; kernel_rfl; exact Or.inr ⟨by rfl, rfl⟩; exact hH) | (refine wpAnyZ_take (i := 13) (v := ?_) rfl ?_ ?_ ?_ ?_ (fun _ _ _ h => h) ?_ ?_ ?_; rotate_left; kernel_rfl; kernel_rfl; kernel_rfl; kernel_rfl; (focus (refine Or.inl ⟨by rfl, ?_⟩; intro w' hSw; (try dsimp only at hSw); go_simp)); exact hH) | (refine wpAnyZ_take (i := 13) (v := ?_) rfl ?_ ?_ ?_ ?_ (fun _ _ _ h => h) ?_ ?_ ?_; rotate_left; kernel_rfl; kernel_rfl; kernel_rfl; kernel_rfl; (focus (refine Or.inl ⟨by rfl, ?_⟩; intro w' hSw; (try dsimp only at hSw); go_simp; with_reducible rfl)); exact hH)
    try simp only [Act.put, List.getElem_toArray, List.getElem_cons_succ, List.getElem_cons_zero, List.setIfInBounds_toArray, List.set_cons_zero, List.set_cons_succ]
    first | (refine wpAnyZ_take (i := 14) (v := undef) rfl ?_ ?_ ?_ ?_ (fun _ _ _ h => h) ?_ ?_ ?_; kernel_rfl; kernel_rfl; kernel_rfl; kernel_rfl; exact Or.inr ⟨by rfl, rfl⟩; exact hH) | (refine wpAnyZ_take (i := 14) (v := ?_) rfl ?_ ?_ ?_ ?_ (fun _ _ _ h => h) ?_ ?_ ?_; rotate_left; kernel_rfl; kernel_rfl; kernel_rfl; kernel_rfl; (focus (refine Or.inl ⟨by rfl, ?_⟩; intro w' hSw; (try dsimp only at hSw); go_simp)); exact hH) | (refine wpAnyZ_take (i := 14) (v := ?_) rfl ?_ ?_ ?_ ?_ (fun _ _ _ h => h) ?_ ?_ ?_; rotate_left; kernel_rfl; kernel_rfl; kernel_rfl; kernel_rfl; (focus (refine Or.inl ⟨by rfl, ?_⟩; intro w' hSw; (try dsimp only at hSw); go_simp; with_reducible rfl)); exact hH)
    try simp only [Act.put, List.getElem_toArray, List.getElem_cons_succ, List.getElem_cons_zero, List.setIfInBounds_toArray, List.set_cons_zero, List.set_cons_succ]
    first | (refine wpAnyZ_take (i := 15) (v := undef) rfl ?_ ?_ ?_ ?_ (fun _ _ _ h => h) ?_ ?_ ?_; kernel_rfl; kernel_rfl; kernel_rfl; kernel_rfl; exact Or.inr ⟨by rfl, rfl⟩; exact hH) | (refine wpAnyZ_take (i := 15) (v := ?_) rfl ?_ ?_ ?_ ?_ (fun _ _ _ h => h) ?_ ?_ ?_; rotate_left; kernel_rfl; kernel_rfl; kernel_rfl; kernel_rfl; (focus (refine Or.inl ⟨by rfl, ?_⟩; intro w' hSw; (try dsimp only at hSw); go_simp)); exact hH) | (refine wpAnyZ_take (i := 15) (v := ?_) rfl ?_ ?_ ?_ ?_ (fun _ _ _ h => h) ?_ ?_ ?_; rotate_left; kernel_rfl; kernel_rfl; kernel_rfl; kernel_rfl; (focus (refine Or.inl ⟨by rfl, ?_⟩; intro w' hSw; (try dsimp only at hSw); go_simp; with_reducible rfl)); exact hH)
    try simp only [Act.put, List.getElem_toArray, List.getElem_cons_succ, List.getElem_cons_zero, List.setIfInBounds_toArray, List.set_cons_zero, List.set_cons_succ]
    refine wpAnyZ_ready (rs := [1]) (by kernel_rfl) (by simp) ?_
    refine (AllReadyZ.cons rfl (fun K hK => ?_) AllReadyZ.nil)
    go_simp
    have E0b1 : Blk (w.drew.alloc (.cells #[] 75)) (w.heap.size) 75 #[] := Blk.new_at (by simp)
    have QGE0 : w.heap.size ≤ w.heap.size := Nat.le_trans (Below.size (hbR)) (Nat.le_of_eq (by simp))
    have hb1 := Below.alloc (hbR) (Below.size (hbR)) (.cells #[] 75)
    have hH1 := KR.out _ hb1
    refine hK.out _ _ (fun _ => hH1) ?_
    clear hK K hH
    have hH := hH1
    clear hH1
    try simp only [Act.put, List.getElem_toArray, List.getElem_cons_succ, List.getElem_cons_zero, List.setIfInBounds_toArray, List.set_cons_zero, List.set_cons_succ]
    refine wpAnyZ_ready (rs := [8]) (by kernel_rfl) (by simp) ?_
    refine (AllReadyZ.cons rfl (fun K hK => ?_) AllReadyZ.nil)
    refine want_yes (by rfl) ?_
    refine wp_append_known _ _ 27 rfl _ _ _ (by rfl) (by rfl) HR1.out ?_
    have hH2 := KR.out _ ((below_of_drew (Below.refl w.heap.size w)).trans HO.out.1)
    refine hK.out _ _ (fun _ => hH2) ?_
    clear hK K hH
    have hH := hH2
    clear hH2
    try simp only [Act.put, List.getElem_toArray, List.getElem_cons_succ, List.getElem_cons_zero, List.setIfInBounds_toArray, List.set_cons_zero, List.set_cons_succ]
    refine wpAnyZ_ready (rs := [16]) (by kernel_rfl) (by simp) ?_
    refine (AllReadyZ.cons rfl (fun K hK => ?_) AllReadyZ.nil)
    refine want_yes (by rfl) ?_
    refine wp_append_known _ _ 27 rfl _ _ _ (by rfl) (by rfl) HR2.out ?_
    have hH3 := KR.out _ HBB2.out
    refine hK.out _ _ (fun _ => hH3) ?_
    clear hK K hH
    have hH := hH3
    clear hH3
    try simp only [Act.put, List.getElem_toArray, List.getElem_cons_succ, List.getElem_cons_zero, List.setIfInBounds_toArray, List.set_cons_zero, List.set_cons_succ]
    refine wpAnyZ_ready (rs := [17]) (by kernel_rfl) (by simp) ?_
    refine (AllReadyZ.cons rfl (fun K hK => ?_) AllReadyZ.nil)
    go_simp
    refine hK.out _ _ (fun _ => hH) ?_
    clear hK K
    try simp only [Act.put, List.getElem_toArray, List.getElem_cons_succ, List.getElem_cons_zero, List.setIfInBounds_toArray, List.set_cons_zero, List.set_cons_succ]
    first | (refine wpAnyZ_take (i := 18) (v := undef) rfl ?_ ?_ ?_ ?_ (fun _ _ _ h => h) ?_ ?_ ?_; kernel_rfl; kernel_rfl; kernel_rfl; kernel_rfl; exact Or.inr ⟨by rfl, rfl⟩; exact hH) | (refine wpAnyZ_take (i := 18) (v := ?_) rfl ?_ ?_ ?_ ?_ (fun _ _ _ h => h) ?_ ?_ ?_; rotate_left; kernel_rfl; kernel_rfl; kernel_rfl; kernel_rfl; (focus (refine Or.inl ⟨by rfl, ?_⟩; intro w' hSw; (try dsimp only at hSw); go_simp)); exact hH) | (refine wpAnyZ_take (i := 18) (v := ?_) rfl ?_ ?_ ?_ ?_ (fun _ _ _ h => h) ?_ ?_ ?_; rotate_left; kernel_rfl; kernel_rfl; kernel_rfl; kernel_rfl; (focus (refine Or.inl ⟨by rfl, ?_⟩; intro w' hSw; (try dsimp only at hSw); go_simp; with_reducible rfl)); exact hH)
    try simp only [Act.put, List.getElem_toArray, List.getElem_cons_succ, List.getElem_cons_zero, List.setIfInBounds_toArray, List.set_cons_zero, List.set_cons_succ]
    refine wpAnyZ_ready (rs := [19]) (by kernel_rfl) (by simp) ?_
    refine (AllReadyZ.cons rfl (fun K hK => ?_) AllReadyZ.nil)
    go_simp
    refine hK.out _ _ (fun h => absurd (by simp) h) ?_
    clear hK K
    try simp only [Act.put, List.getElem_toArray, List.getElem_cons_succ, List.getElem_cons_zero, List.setIfInBounds_toArray, List.set_cons_zero, List.set_cons_succ]
    refine wpAnyZ_done (by kernel_rfl) ?_ _
    refine NoPanic.normal ?_
    clear hH
    go_wp2_with fail
    go_ret
    have hsub : (Ds.take i ++ Ds.drop (i + 1)).Sublist Ds := by
      conv => rhs; rw [← List.take_append_drop i Ds]
      exact List.Sublist.append (List.Sublist.refl _) (by rw [← List.drop_drop (i := 1) (j := i)]; exact List.drop_sublist _ _)
    have hlen : (Ds.take i ++ Ds.drop (i + 1)).length = n - 1 := by
      rw [List.length_append, List.length_take, List.length_drop, HLL.out]
      omega
    have hfB : Fr (fun k => k = f) wB (wB.setCell ⟨f, 0, none⟩ (.slice A2 (n - 1) c2)) := (Fr.refl (fun k => k = f) wB).setCell (p := ⟨f, 0, none⟩) (fun _ => rfl) _
    have hfl : flatD (Ds.take i ++ Ds.drop (i + 1)) = (flatD Ds).take (i * 5) ++ (flatD Ds).drop ((i + 1) * 5) := by rw [flatD_append, flatD_take, flatD_drop]
    have fW : Fr (fun k => k = f) w (wB.setCell ⟨f, 0, none⟩ (.slice A2 (n - 1) c2)) := (Fr.of_new HBB2.out).trans hfB
    refine Or.inr ⟨i, d, .slice A2 (n - 1) c2, HI.out, by simp, ⟨H.out.1.lf, HRB.out.blk.put 0 _, ?_, fun x hx => ?_, HRB.out.ap.sublist (hsub.map _), HRB.out.ids.sublist (hsub.map _)⟩, fW.mono fun g _ e => ?_⟩
    · rw [hlen, hfl]
      refine ownsRow_setCell_other (own_base HO.out.2.2 (Nat.le_trans H.out.2 (Nat.le_of_eq HSZ.out.symm))) (fun e => ?_) _
      have := (HO.out.2.2.lt f e).1
      have := H.out.1.blk.lt
      have := HSZ.out
      omega
    · have hx' := HRB.out.mem x (hsub.subset hx)
      refine hx'.fr hfB (Blk.ne_of_type hx'.blk HRB.out.blk (by decide)) fun g hg e => ?_
      rcases hg with hg | hg
      · obtain ⟨_, cs', hc'⟩ := own_doc hx'.ox hg
        exact Blk.ne_of_type hc' HRB.out.blk (by decide) e
      · obtain ⟨_, cs', hc'⟩ := own_doc hx'.oy hg
        exact Blk.ne_of_type hc' HRB.out.blk (by decide) e
    · subst e
      exact ⟨H.out.1.lf, _, _, H.out.1.blk, Or.inl rfl⟩

theorem news_one (w : World) (e : TypeId) (its : List Value) {size : Nat} (h : its.length = size) : NewsAt (w.alloc (.cells its.toArray e)) (.slice (some ⟨w.heap.size, 0, none⟩) 1 1) 1 size its := Or.inr ⟨_, _, rfl, by omega, fun j x hj => by
  have e2 : (⟨w.heap.size, 0, none⟩ : Addr).add j = ⟨w.heap.size, j, none⟩ := by
    unfold Addr.add
    split
    · rename_i h0
      rw [h0]
    · simp only [Nat.zero_add]
  rw [e2]
  exact (Blk.new w e its.toArray).get j (by simpa using hj)⟩
/-- Who comes. -/
def newD (id : Int) (r : Nat) (F L R : Int) : DM := ⟨id, 0, 0, false, r, F, L, R, .slice none 0 0, .slice none 0 0, []⟩
set_option maxHeartbeats 4000000 in
theorem d_add (B f : Nat) (k : Int) (vL : Value) (Ds : List DM) (id F L R : Int) (w : World) (h : FamD w B f k vL Ds) (hB : B ≤ w.heap.size) (hf : Ds.length ≤ 65535) (wL : Word L) :
    Calls Tryz.prog 10 #[.pointer (some ⟨f, 0, none⟩), .int .i64 id, .agg #[.int .u64 F, .int .u64 L, .int .u64 R]] w fun e w' =>
      ∃ b : Bool, e = .returned (.bool b) ∧ (((dfnd id Ds).isNone && mayB F L R) = b) ∧ (if b = true then ∃ (r : Nat) (vL' : Value), FamD w' B f k vL' (Ds ++ [newD id r F L R]) else FamD w' B f k vL Ds) ∧ DFr B w w' := by
  have H := Lib.hid (And.intro h hB)
  obtain ⟨w0, hw0⟩ : ∃ z, w.alloc (.cells #[.int .u64 F, .int .u64 L, .int .u64 R] 32) = z := ⟨_, rfl⟩
  have hb0 : Below w.heap.size w w0 := by rw [← hw0]; go_grown
  have kb : Blk w0 w.heap.size 32 #[.int .u64 F, .int .u64 L, .int .u64 R] := by rw [← hw0]; exact Blk.new w _ _
  have AT := Lib.hid (d_at B f k vL Ds id w0 (h.next hb0) hf)
  have H0 := Lib.hid (And.intro (h.next hb0) (And.intro hb0 kb))
  have HW0 := Lib.hid hw0
  have x0 := kb.get 0 rfl
  have x1 := kb.get 1 rfl
  have x2 := kb.get 2 rfl
  clear h hB hb0 kb hw0
  go_enter Tryz.func10, Tryz.ntmps10
  go_upto_region 1 with (fail)
  rw [HW0.out]
  go_wp2_with fail
  with_reducible refine (AT.out).mono ?_
  rintro e w1 ⟨rfl, q, rfl, hk⟩
  rcases hk with ⟨rfl, hn⟩ | ⟨i, d, rfl, hi⟩
  rotate_left
  · have d1 : decide ((0 : Int) ≤ (i : Int)) = true := decide_eq_true (by omega)
    have p0 : (0 : Int) ≤ (i : Int) := by omega
    have HI := Lib.hid hi
    clear hi
    go_wp2_with fail
    go_ret
    have := HI.out.fnd H0.out.1.ids
    refine ⟨false, by simp, by rw [this]; rfl, ?_, DFr.of_new H0.out.2.1⟩
    rw [if_neg (by decide)]
    exact H0.out.1
  · have HN := Lib.hid hn
    clear hn
    cases hm : mayB F L R with
    | false =>
      have MA := Lib.hid (fun w => refmay_val F L R false w wL hm)
      have HM := Lib.hid hm
      clear hm
      go_wp2_with fail
      with_reducible refine (MA.out _).mono ?_
      rintro e w2 ⟨rfl, hb2⟩
      have HB2 := Lib.hid hb2
      clear hb2
      go_wp2_with fail
      go_ret
      refine ⟨false, by simp, by rw [HN.out, HM.out]; rfl, ?_, DFr.of_new (below_next H0.out.2.1 HB2.out)⟩
      rw [if_neg (by decide)]
      exact H0.out.1.next HB2.out
    | true =>
      have MA := Lib.hid (fun w => refmay_val F L R true w wL hm)
      have HM := Lib.hid hm
      clear hm
      go_wp2_with fail
      with_reducible refine (MA.out _).mono ?_
      rintro e w2 ⟨rfl, hb2⟩
      have H2 := Lib.hid (And.intro (H0.out.1.next hb2) (And.intro (below_next H0.out.2.1 hb2) (H0.out.2.2.next hb2)))
      obtain ⟨A, c, rfl, hlc, hcm, -⟩ := H2.out.1.form
      obtain ⟨n, hl⟩ : ∃ l, Ds.length = l := ⟨_, rfl⟩
      have HLL := Lib.hid hl
      have NW := Lib.hid (fun w' (hb : w2.heap.size ≤ w'.heap.size) => rn_new B F L R w' (Nat.le_trans H.out.2 (Nat.le_trans H2.out.2.1.size hb)) wL HM.out)
      have NC : Hid (¬ ((Value.slice A Ds.length c).ownBlock = some w.heap.size)) := fun e => by
        obtain ⟨_, cs', hc'⟩ := own_doc H2.out.1.own e
        exact Blk.ne_of_type hc' H2.out.2.2 (by decide) rfl
      have NF : Hid (¬ ((Value.slice A Ds.length c).ownBlock = some f)) := fun e => by
        obtain ⟨_, cs', hc'⟩ := own_doc H2.out.1.own e
        exact Blk.ne_of_type hc' H2.out.1.blk (by decide) rfl
      rw [hl] at NC NF hf
      obtain ⟨i0, hi0⟩ := mrow_info
      have HI0 := Lib.hid hi0
      clear hb2 x0 x1 x2 hl hlc hcm hi0
      have KQ : Hid (∀ w', Fr ((fun j => (Value.slice A n c).ownBlock = some j)) w2 w' → (w'.cell? ⟨f, 0, none⟩ = some (.slice A n c) ∧ w'.cell? ⟨w.heap.size, 0, none⟩ = some (.int .u64 F) ∧ w'.cell? ⟨w.heap.size, 1, none⟩ = some (.int .u64 L) ∧ w'.cell? ⟨w.heap.size, 2, none⟩ = some (.int .u64 R)) ∧ Fr ((fun j => (Value.slice A n c).ownBlock = some j)) w2 w') := fun w' hb => ⟨⟨(by have := (H2.out.1.blk.fr hb NF.out).get 0 rfl; rw [HLL.out] at this; exact this), ((H2.out.2.2.fr hb NC.out).get 0 rfl), ((H2.out.2.2.fr hb NC.out).get 1 rfl), ((H2.out.2.2.fr hb NC.out).get 2 rfl)⟩, hb⟩
      go_upto_region 3 with (fail)
      refine wp_region_noPanic ?_
      refine wp_region_Z [13] (fun w' => (w'.cell? ⟨f, 0, none⟩ = some (.slice A n c) ∧ w'.cell? ⟨w.heap.size, 0, none⟩ = some (.int .u64 F) ∧ w'.cell? ⟨w.heap.size, 1, none⟩ = some (.int .u64 L) ∧ w'.cell? ⟨w.heap.size, 2, none⟩ = some (.int .u64 R)) ∧ Fr ((fun j => (Value.slice A n c).ownBlock = some j)) w2 w') (by kernel_rfl) (KQ.out _ (Fr.drew ((Fr.refl (fun j => (Value.slice A n c).ownBlock = some j) w2)))) (fun hH => ?_)
      have hbR := Fr.drew ((Fr.refl (fun j => (Value.slice A n c).ownBlock = some j) w2))
      first | (refine wpAnyZ_take (i := 0) (v := undef) rfl ?_ ?_ ?_ ?_ (fun _ _ _ h => h) ?_ ?_ ?_; kernel_rfl; kernel_rfl; kernel_rfl; kernel_rfl; exact Or.inr ⟨by rfl, rfl⟩; exact hH) | (refine wpAnyZ_take (i := 0) (v := ?_) rfl ?_ ?_ ?_ ?_ (fun _ _ _ h => h) ?_ ?_ ?_; rotate_left; kernel_rfl; kernel_rfl; kernel_rfl; kernel_rfl; (focus (refine Or.inl ⟨by rfl, ?_⟩; intro w' hSw; (try dsimp only at hSw); go_simp)); exact hH) | (refine wpAnyZ_take (i := 0) (v := ?_) rfl ?_ ?_ ?_ ?_ (fun _ _ _ h => h) ?_ ?_ ?_; rotate_left; kernel_rfl; kernel_rfl; kernel_rfl; kernel_rfl; (focus (refine Or.inl ⟨by rfl, ?_⟩; intro w' hSw; (try dsimp only at hSw); go_simp; with_reducible rfl)); exact hH)
      try simp only [Act.put, List.getElem_toArray, List.getElem_cons_succ, List.getElem_cons_zero, List.setIfInBounds_toArray, List.set_cons_zero, List.set_cons_succ]
      first | (refine wpAnyZ_take (i := 1) (v := undef) rfl ?_ ?_ ?_ ?_ (fun _ _ _ h => h) ?_ ?_ ?_; kernel_rfl; kernel_rfl; kernel_rfl; kernel_rfl; exact Or.inr ⟨by rfl, rfl⟩; exact hH) | (refine wpAnyZ_take (i := 1) (v := ?_) rfl ?_ ?_ ?_ ?_ (fun _ _ _ h => h) ?_ ?_ ?_; rotate_left; kernel_rfl; kernel_rfl; kernel_rfl; kernel_rfl; (focus (refine Or.inl ⟨by rfl, ?_⟩; intro w' hSw; (try dsimp only at hSw); go_simp)); exact hH) | (refine wpAnyZ_take (i := 1) (v := ?_) rfl ?_ ?_ ?_ ?_ (fun _ _ _ h => h) ?_ ?_ ?_; rotate_left; kernel_rfl; kernel_rfl; kernel_rfl; kernel_rfl; (focus (refine Or.inl ⟨by rfl, ?_⟩; intro w' hSw; (try dsimp only at hSw); go_simp; with_reducible rfl)); exact hH)
      try simp only [Act.put, List.getElem_toArray, List.getElem_cons_succ, List.getElem_cons_zero, List.setIfInBounds_toArray, List.set_cons_zero, List.set_cons_succ]
      first | (refine wpAnyZ_take (i := 2) (v := undef) rfl ?_ ?_ ?_ ?_ (fun _ _ _ h => h) ?_ ?_ ?_; kernel_rfl; kernel_rfl; kernel_rfl; kernel_rfl; exact Or.inr ⟨by rfl, rfl⟩; exact hH) | (refine wpAnyZ_take (i := 2) (v := ?_) rfl ?_ ?_ ?_ ?_ (fun _ _ _ h => h) ?_ ?_ ?_; rotate_left; kernel_rfl; kernel_rfl; kernel_rfl; kernel_rfl; (focus (refine Or.inl ⟨by rfl, ?_⟩; intro w' hSw; (try dsimp only at hSw); go_simp)); exact hH) | (refine wpAnyZ_take (i := 2) (v := ?_) rfl ?_ ?_ ?_ ?_ (fun _ _ _ h => h) ?_ ?_ ?_; rotate_left; kernel_rfl; kernel_rfl; kernel_rfl; kernel_rfl; (focus (refine Or.inl ⟨by rfl, ?_⟩; intro w' hSw; (try dsimp only at hSw); go_simp; with_reducible rfl)); exact hH)
      try simp only [Act.put, List.getElem_toArray, List.getElem_cons_succ, List.getElem_cons_zero, List.setIfInBounds_toArray, List.set_cons_zero, List.set_cons_succ]
      first | (refine wpAnyZ_take (i := 3) (v := undef) rfl ?_ ?_ ?_ ?_ (fun _ _ _ h => h) ?_ ?_ ?_; kernel_rfl; kernel_rfl; kernel_rfl; kernel_rfl; exact Or.inr ⟨by rfl, rfl⟩; exact hH) | (refine wpAnyZ_take (i := 3) (v := ?_) rfl ?_ ?_ ?_ ?_ (fun _ _ _ h => h) ?_ ?_ ?_; rotate_left; kernel_rfl; kernel_rfl; kernel_rfl; kernel_rfl; (focus (refine Or.inl ⟨by rfl, ?_⟩; intro w' hSw; (try dsimp only at hSw); go_simp)); exact hH) | (refine wpAnyZ_take (i := 3) (v := ?_) rfl ?_ ?_ ?_ ?_ (fun _ _ _ h => h) ?_ ?_ ?_; rotate_left; kernel_rfl; kernel_rfl; kernel_rfl; kernel_rfl; (focus (refine Or.inl ⟨by rfl, ?_⟩; intro w' hSw; (try dsimp only at hSw); go_simp; with_reducible rfl)); exact hH)
      try simp only [Act.put, List.getElem_toArray, List.getElem_cons_succ, List.getElem_cons_zero, List.setIfInBounds_toArray, List.set_cons_zero, List.set_cons_succ]
      first | (refine wpAnyZ_take (i := 4) (v := undef) rfl ?_ ?_ ?_ ?_ (fun _ _ _ h => h) ?_ ?_ ?_; kernel_rfl; kernel_rfl; kernel_rfl; kernel_rfl; exact Or.inr ⟨by rfl, rfl⟩; exact hH) | (refine wpAnyZ_take (i := 4) (v := ?_) rfl ?_ ?_ ?_ ?_ (fun _ _ _ h => h) ?_ ?_ ?_; rotate_left; kernel_rfl; kernel_rfl; kernel_rfl; kernel_rfl; (focus (refine Or.inl ⟨by rfl, ?_⟩; intro w' hSw; (try dsimp only at hSw); go_simp)); exact hH) | (refine wpAnyZ_take (i := 4) (v := ?_) rfl ?_ ?_ ?_ ?_ (fun _ _ _ h => h) ?_ ?_ ?_; rotate_left; kernel_rfl; kernel_rfl; kernel_rfl; kernel_rfl; (focus (refine Or.inl ⟨by rfl, ?_⟩; intro w' hSw; (try dsimp only at hSw); go_simp; with_reducible rfl)); exact hH)
      try simp only [Act.put, List.getElem_toArray, List.getElem_cons_succ, List.getElem_cons_zero, List.setIfInBounds_toArray, List.set_cons_zero, List.set_cons_succ]
      first | (refine wpAnyZ_take (i := 5) (v := undef) rfl ?_ ?_ ?_ ?_ (fun _ _ _ h => h) ?_ ?_ ?_; kernel_rfl; kernel_rfl; kernel_rfl; kernel_rfl; exact Or.inr ⟨by rfl, rfl⟩; exact hH) | (refine wpAnyZ_take (i := 5) (v := ?_) rfl ?_ ?_ ?_ ?_ (fun _ _ _ h => h) ?_ ?_ ?_; rotate_left; kernel_rfl; kernel_rfl; kernel_rfl; kernel_rfl; (focus (refine Or.inl ⟨by rfl, ?_⟩; intro w' hSw; (try dsimp only at hSw); go_simp)); exact hH) | (refine wpAnyZ_take (i := 5) (v := ?_) rfl ?_ ?_ ?_ ?_ (fun _ _ _ h => h) ?_ ?_ ?_; rotate_left; kernel_rfl; kernel_rfl; kernel_rfl; kernel_rfl; (focus (refine Or.inl ⟨by rfl, ?_⟩; intro w' hSw; (try dsimp only at hSw); go_simp; with_reducible rfl)); exact hH)
      try simp only [Act.put, List.getElem_toArray, List.getElem_cons_succ, List.getElem_cons_zero, List.setIfInBounds_toArray, List.set_cons_zero, List.set_cons_succ]
      first | (refine wpAnyZ_take (i := 6) (v := undef) rfl ?_ ?_ ?_ ?_ (fun _ _ _ h => h) ?_ ?_ ?_; kernel_rfl; kernel_rfl; kernel_rfl; kernel_rfl; exact Or.inr ⟨by rfl, rfl⟩; exact hH) | (refine wpAnyZ_take (i := 6) (v := ?_) rfl ?_ ?_ ?_ ?_ (fun _ _ _ h => h) ?_ ?_ ?_; rotate_left; kernel_rfl; kernel_rfl; kernel_rfl; kernel_rfl; (focus (refine Or.inl ⟨by rfl, ?_⟩; intro w' hSw; (try dsimp only at hSw); go_simp)); exact hH) | (refine wpAnyZ_take (i := 6) (v := ?_) rfl ?_ ?_ ?_ ?_ (fun _ _ _ h => h) ?_ ?_ ?_; rotate_left; kernel_rfl; kernel_rfl; kernel_rfl; kernel_rfl; (focus (refine Or.inl ⟨by rfl, ?_⟩; intro w' hSw; (try dsimp only at hSw); go_simp; with_reducible rfl)); exact hH)
      try simp only [Act.put, List.getElem_toArray, List.getElem_cons_succ, List.getElem_cons_zero, List.setIfInBounds_toArray, List.set_cons_zero, List.set_cons_succ]
      refine wpAnyZ_ready (rs := [7]) (by kernel_rfl) (by simp) ?_
      refine (AllReadyZ.cons rfl (fun K hK => ?_) AllReadyZ.nil)
      go_simp
      with_reducible refine (NW.out _ hH.2.size).mono ?_
      rintro e w1 ⟨r, rfl, hr, hrun, hb1⟩
      have fr1 : Fr (fun j => (Value.slice A n c).ownBlock = some j) w2 w1 := hH.2.trans (Fr.of_new hb1)
      have HNW := Lib.hid (And.intro (Nat.le_trans (Nat.le_refl w2.heap.size) hr) (And.intro hrun ((below_of_drew (Below.refl w2.heap.size w2)).trans hb1)))
      clear hr hrun hb1
      have hH1 := KQ.out _ fr1
      refine hK.out _ _ (fun _ => hH1) ?_
      clear hK K hH
      have hH := hH1
      clear hH1
      try simp only [Act.put, List.getElem_toArray, List.getElem_cons_succ, List.getElem_cons_zero, List.setIfInBounds_toArray, List.set_cons_zero, List.set_cons_succ]
      first | (refine wpAnyZ_take (i := 8) (v := undef) rfl ?_ ?_ ?_ ?_ (fun _ _ _ h => h) ?_ ?_ ?_; kernel_rfl; kernel_rfl; kernel_rfl; kernel_rfl; exact Or.inr ⟨by rfl, rfl⟩; exact hH) | (refine wpAnyZ_take (i := 8) (v := ?_) rfl ?_ ?_ ?_ ?_ (fun _ _ _ h => h) ?_ ?_ ?_; rotate_left; kernel_rfl; kernel_rfl; kernel_rfl; kernel_rfl; (focus (refine Or.inl ⟨by rfl, ?_⟩; intro w' hSw; (try dsimp only at hSw); go_simp)); exact hH) | (refine wpAnyZ_take (i := 8) (v := ?_) rfl ?_ ?_ ?_ ?_ (fun _ _ _ h => h) ?_ ?_ ?_; rotate_left; kernel_rfl; kernel_rfl; kernel_rfl; kernel_rfl; (focus (refine Or.inl ⟨by rfl, ?_⟩; intro w' hSw; (try dsimp only at hSw); go_simp; with_reducible rfl)); exact hH)
      try simp only [Act.put, List.getElem_toArray, List.getElem_cons_succ, List.getElem_cons_zero, List.setIfInBounds_toArray, List.set_cons_zero, List.set_cons_succ]
      refine wpAnyZ_ready (rs := [9]) (by kernel_rfl) (by simp) ?_
      refine (AllReadyZ.cons rfl (fun K hK => ?_) AllReadyZ.nil)
      go_simp
      have hH2 := KQ.out _ (Fr.alloc fr1 (.cells #[.int .i64 id, .int .u64 0, .int .u64 0, .pointer (some ⟨r, 0, none⟩), .bool false] 75))
      refine hK.out _ _ (fun _ => hH2) ?_
      clear hK K hH
      have hH := hH2
      clear hH2
      try simp only [Act.put, List.getElem_toArray, List.getElem_cons_succ, List.getElem_cons_zero, List.setIfInBounds_toArray, List.set_cons_zero, List.set_cons_succ]
      refine wpAnyZ_ready (rs := [10]) (by kernel_rfl) (by simp) ?_
      refine (AllReadyZ.cons rfl (fun K hK => ?_) AllReadyZ.nil)
      refine want_yes (by rfl) ?_
      have hown : (w1.alloc (.cells #[.int .i64 id, .int .u64 0, .int .u64 0, .pointer (some ⟨r, 0, none⟩), .bool false] 75)).ownsRow B 75 5 (.slice A n c) n (flatD Ds) := by have := (own_next H2.out.1.own HNW.out.2.2).alloc (.cells #[.int .i64 id, .int .u64 0, .int .u64 0, .pointer (some ⟨r, 0, none⟩), .bool false] 75); rw [HLL.out] at this; exact this
      obtain ⟨v', w3, hrun3, hown3, hgrow3, hat3⟩ := HI0.out.append 27 (w1.alloc (.cells #[.int .i64 id, .int .u64 0, .int .u64 0, .pointer (some ⟨r, 0, none⟩), .bool false] 75)) B _ n _ hown (.slice (some ⟨w1.heap.size, 0, none⟩) 1 1) 1 (cellsD (newD id r F L R)) (news_one w1 75 (cellsD (newD id r F L R)) rfl) (flatD_one [newD id r F L R]) (by omega) (by have := HNW.out.2.2.size; have := H.out.2; have := H2.out.2.1.size; simp only [World.size_alloc]; omega)
      refine wp_append_known _ _ 27 rfl _ _ _ (by rfl) (by rfl) hrun3 ?_
      have fr3 : Fr (fun j => (Value.slice A n c).ownBlock = some j) w2 w3 := (Fr.alloc fr1 _).grown hgrow3 (fun j hj _ => hj)
      obtain ⟨A3, c3, rfl⟩ := own_slice hown3
      have bf3 := H2.out.1.blk.fr fr3 NF.out
      have bc3 := bf3.get 0 rfl
      have bz3 := bf3.frozen 0
      rw [HLL.out] at bc3
      have HG := Lib.hid (And.intro hown3 (And.intro hgrow3 (And.intro hat3 (And.intro fr3 bf3))))
      clear hrun3 hown3 hgrow3 hat3 hown
      have hH3 := KQ.out _ fr3
      refine hK.out _ _ (fun _ => hH3) ?_
      clear hK K hH
      have hH := hH3
      clear hH3
      try simp only [Act.put, List.getElem_toArray, List.getElem_cons_succ, List.getElem_cons_zero, List.setIfInBounds_toArray, List.set_cons_zero, List.set_cons_succ]
      refine wpAnyZ_ready (rs := [11]) (by kernel_rfl) (by simp) ?_
      refine (AllReadyZ.cons rfl (fun K hK => ?_) AllReadyZ.nil)
      go_simp
      refine hK.out _ _ (fun _ => hH) ?_
      clear hK K
      try simp only [Act.put, List.getElem_toArray, List.getElem_cons_succ, List.getElem_cons_zero, List.setIfInBounds_toArray, List.set_cons_zero, List.set_cons_succ]
      first | (refine wpAnyZ_take (i := 12) (v := undef) rfl ?_ ?_ ?_ ?_ (fun _ _ _ h => h) ?_ ?_ ?_; kernel_rfl; kernel_rfl; kernel_rfl; kernel_rfl; exact Or.inr ⟨by rfl, rfl⟩; exact hH) | (refine wpAnyZ_take (i := 12) (v := ?_) rfl ?_ ?_ ?_ ?_ (fun _ _ _ h => h) ?_ ?_ ?_; rotate_left; kernel_rfl; kernel_rfl; kernel_rfl; kernel_rfl; (focus (refine Or.inl ⟨by rfl, ?_⟩; intro w' hSw; (try dsimp only at hSw); go_simp)); exact hH) | (refine wpAnyZ_take (i := 12) (v := ?_) rfl ?_ ?_ ?_ ?_ (fun _ _ _ h => h) ?_ ?_ ?_; rotate_left; kernel_rfl; kernel_rfl; kernel_rfl; kernel_rfl; (focus (refine Or.inl ⟨by rfl, ?_⟩; intro w' hSw; (try dsimp only at hSw); go_simp; with_reducible rfl)); exact hH)
      try simp only [Act.put, List.getElem_toArray, List.getElem_cons_succ, List.getElem_cons_zero, List.setIfInBounds_toArray, List.set_cons_zero, List.set_cons_succ]
      refine wpAnyZ_ready (rs := [13]) (by kernel_rfl) (by simp) ?_
      refine (AllReadyZ.cons rfl (fun K hK => ?_) AllReadyZ.nil)
      go_simp
      refine hK.out _ _ (fun h => absurd (by simp) h) ?_
      clear hK K
      try simp only [Act.put, List.getElem_toArray, List.getElem_cons_succ, List.getElem_cons_zero, List.setIfInBounds_toArray, List.set_cons_zero, List.set_cons_succ]
      refine wpAnyZ_done (by kernel_rfl) ?_ _
      refine NoPanic.normal ?_
      clear hH
      go_wp2_with fail
      go_ret
      obtain ⟨hown, hgrow, hat, hfr, hbf⟩ := HG.out
      have fW : Fr (fun j => (Value.slice A n c).ownBlock = some j ∨ j = f) w2 (w3.setCell ⟨f, 0, none⟩ (.slice A3 (n + 1) c3)) := Fr.setCell (S := fun j => (Value.slice A n c).ownBlock = some j ∨ j = f) (p := ⟨f, 0, none⟩) (hfr.mono fun _ _ h => Or.inl h) (fun _ => Or.inr rfl) _
      have fN : Fr (fun j => (Value.slice A n c).ownBlock = some j ∨ j = f) w1 (w3.setCell ⟨f, 0, none⟩ (.slice A3 (n + 1) c3)) := Fr.setCell (S := fun j => (Value.slice A n c).ownBlock = some j ∨ j = f) (p := ⟨f, 0, none⟩) (((Fr.refl _ w1).alloc _).grown hgrow fun j hj _ => Or.inl hj) (fun _ => Or.inr rfl) _
      have hob : (Value.slice A Ds.length c).ownBlock = (Value.slice A n c).ownBlock := by rw [HLL.out]
      have hS2 : ∀ j, ((Value.slice A n c).ownBlock = some j ∨ j = f) → ∃ t cs, Blk w2 j t cs ∧ B ≤ j ∧ (t = 30 ∨ t = 75) := by
        rintro j (hj | rfl)
        · obtain ⟨h1, cs, h2⟩ := own_doc H2.out.1.own (hob.trans hj)
          exact ⟨_, cs, h2, h1, Or.inr rfl⟩
        · exact ⟨_, _, H2.out.1.blk, H2.out.1.lf, Or.inl rfl⟩
      have far : ∀ (W : World), (∀ j t cs, Blk w2 j t cs → Blk W j t cs) → ∀ (j : Nat) (t : TypeId) (cs : Array Value), Blk W j t cs → (t = 106 ∨ t = 28) → ¬ ((Value.slice A n c).ownBlock = some j ∨ j = f) := by
        intro W hW j t cs hb ht hj
        obtain ⟨t', cs', hb', -, ht'⟩ := hS2 j hj
        refine Blk.ne_of_type hb (hW _ _ _ hb') ?_ rfl
        rcases ht with rfl | rfl <;> rcases ht' with rfl | rfl <;> decide
      have rows : ∀ {W : World} {r' : Nat} {F' L' R' : Int} {vx vy : Value} {A' : List (Int × Int)}, (∀ j t cs, Blk w2 j t cs → Blk W j t cs) → RunD W B r' F' L' R' vx vy A' → Fr (fun j => (Value.slice A n c).ownBlock = some j ∨ j = f) W (w3.setCell ⟨f, 0, none⟩ (.slice A3 (n + 1) c3)) → RunD (w3.setCell ⟨f, 0, none⟩ (.slice A3 (n + 1) c3)) B r' F' L' R' vx vy A' := by
        intro W r' F' L' R' vx vy A' hW hR hf
        refine hR.fr hf (far W hW _ _ _ hR.blk (Or.inl rfl)) fun g hg => ?_
        rcases hg with hg | hg
        · obtain ⟨_, cs', hc'⟩ := own_doc hR.ox hg
          exact far W hW _ _ _ hc' (Or.inr rfl)
        · obtain ⟨_, cs', hc'⟩ := own_doc hR.oy hg
          exact far W hW _ _ _ hc' (Or.inr rfl)
      have hlen : (Ds ++ [newD id r F L R]).length = n + 1 := by simp [HLL.out]
      refine ⟨true, by simp, by rw [HN.out, HM.out]; rfl, ?_, (DFr.of_new H2.out.2.1).trans (fW.mono fun j _ hj => ?_)⟩
      · rw [if_pos rfl]
        refine ⟨r, .slice A3 (n + 1) c3, H.out.1.lf, hbf.put 0 _, ?_, fun x hx => ?_, ?_, dfnd_absent HN.out rfl H.out.1.ids⟩
        · rw [hlen, flatD_append, show flatD [newD id r F L R] = cellsD (newD id r F L R) from List.append_nil _]
          refine ownsRow_setCell_other hown (fun e => ?_) _
          rcases hat with e4 | e4
          · rw [e] at e4
            exact NF.out e4.symm
          · rw [e] at e4
            injection e4 with e4
            have := H2.out.1.blk.lt
            have := HNW.out.2.2.size
            simp only [World.size_alloc] at e4
            omega
        · rcases List.mem_append.1 hx with hx | hx
          · exact rows (fun _ _ _ h => h) (H2.out.1.mem x hx) fW
          · rw [List.mem_singleton.1 hx]
            exact rows (fun _ _ _ h => h.next HNW.out.2.2) HNW.out.2.1 fN
        · rw [List.map_append, List.pairwise_append]
          refine ⟨H2.out.1.ap, List.pairwise_singleton .., fun p hp q hq g hg hg2 => ?_⟩
          obtain ⟨x, hx, rfl⟩ := List.mem_map.1 hp
          have hlt := ((H2.out.1.mem x hx).doc hg).2.1
          obtain rfl : q = bk (newD id r F L R) := by simpa using hq
          have hr := HNW.out.1
          rcases hg2 with e | e | e
          · have e : g = r := e
            omega
          · cases e
          · cases e
      · obtain ⟨t', cs', hb', h1, ht'⟩ := hS2 j hj
        exact ⟨h1, t', cs', hb', ht'.elim Or.inl (fun h => Or.inr (Or.inl h))⟩

end Go.Proofs.YtjhffbhjiflfeaaGreat

/-!
  The document's family: those awake in order, plainly; a row put between.
-/
namespace Go.Proofs.YtjhffbhjiflfeaaGreat
set_option linter.unusedVariables false
set_option linter.unusedSimpArgs false
set_option maxRecDepth 100000
open Go.RowKit Go.Shelf

section
variable {P : Program} {t e : TypeId} {i : TypeInfo} {z : Value} {size bytes : Nat}
/-- 'append(append(l[:k], one), others...)': what lies between. -/
theorem more2 (H : RowInfo P t e i z size bytes) (ty : TypeId) {w : World} {B n c k m Br : Nat} {A : Option Addr} {vr : Value} {xs its ys : List Value} (h : w.ownsRow B e size (.slice A n c) n xs) (hk : k ≤ n) (hi : its.length = size) (hr : w.ownsRow Br e size vr m ys) (hne : ∀ j, vr.ownBlock = some j → (Value.slice A n c).ownBlock ≠ some j)
    (h1 : ∀ u ∈ its, u.oneCell' = true) (h2 : ∀ u ∈ ys, u.oneCell' = true) (hn : n + m + 1 ≤ 1000000) (hB : B ≤ w.heap.size) :
    ∃ v1 w1 v2 w2, (Builtin.append_ #[t, t] ty #[.slice A k c, .slice (some ⟨w.heap.size, 0, none⟩) 1 1]).run P (w.alloc (.cells its.toArray e)) = .ok v1 w1 ∧
      (Builtin.append_ #[t, t] ty #[v1, vr]).run P w1 = .ok v2 w2 ∧ w2.ownsRow B e size v2 (k + 1 + m) (xs.take (k * size) ++ its ++ ys) ∧ Fr (fun j => (Value.slice A n c).ownBlock = some j) w w2 ∧ (∀ j, v2.ownBlock = some j → (Value.slice A n c).ownBlock = some j ∨ w.heap.size ≤ j) ∧ Fr (fun j => (Value.slice A n c).ownBlock = some j) w w1 := by
  have hob : (Value.slice A k c).ownBlock = (Value.slice A n c).ownBlock := by cases A <;> rfl
  have hnew : NewsAt (w.alloc (.cells its.toArray e)) (.slice (some ⟨w.heap.size, 0, none⟩) 1 1) 1 size its := Or.inr ⟨_, _, rfl, by omega, fun j x hj => by
    have e2 : (⟨w.heap.size, 0, none⟩ : Addr).add j = ⟨w.heap.size, j, none⟩ := by
      unfold Addr.add
      split
      · rename_i h0
        rw [h0]
      · simp only [Nat.zero_add]
    rw [e2]
    exact (Blk.new w e its.toArray).get j (by simpa using hj)⟩
  obtain ⟨v1, w1, a1, a2, a3, a4⟩ := H.append ty (w.alloc (.cells its.toArray e)) B _ k _ (own_first (h.alloc _) hk) _ _ _ hnew h1 (by omega) (by simp; omega)
  rw [hob] at a3 a4
  have hrk : w1.ownsRow Br e size vr m ys := (hr.alloc (.cells its.toArray e)).kept a3 (by
    rcases hv : vr.ownBlock with _ | j
    · exact Or.inl rfl
    · exact Or.inr (fun e => hne j hv e.symm))
  obtain ⟨v2, w2, b1, b2, b3, b4⟩ := H.append ty w1 B v1 (k + 1) _ a2 vr m ys (own_all hrk) h2 (by omega) (Nat.le_trans hB (Nat.le_trans (by simp) a3.size))
  have f1 : Fr (fun j => (Value.slice A n c).ownBlock = some j) w w1 := ((Fr.refl _ w).alloc _).grown a3 (fun j hj _ => hj)
  refine ⟨v1, w1, v2, w2, a1, b1, b2, ?_, ?_, f1⟩
  · refine f1.grown b3 (fun j hj hlt => ?_)
    rcases a4 with e4 | e4
    · rw [← e4]; exact hj
    · rw [hj] at e4
      simp at e4
      omega
  · intro j hj
    have hz : w.heap.size ≤ w1.heap.size := Nat.le_trans (by simp) a3.size
    rcases b4 with e4 | e4
    · rw [hj] at e4
      rcases a4 with e5 | e5
      · exact Or.inl (by rw [← e5, ← e4])
      · rw [← e4] at e5
        simp at e5
        exact Or.inr (by omega)
    · rw [hj] at e4
      simp at e4
      exact Or.inr (by omega)
end

def dlt (x y : DM) : Prop := x.v < y.v ∨ (x.v = y.v ∧ x.id < y.id)
def didVal (d : DM) : Value := .int .i64 d.id
def upsD (Ds : List DM) : List DM := Ds.filter (·.up)
def DIds (Ds E : List DM) : Prop := E.Perm (upsD Ds) ∧ E.Pairwise dlt
theorem dlt_ins {E : List DM} {d : DM} {p : Nat} (hs : E.Pairwise dlt) (hne : ∀ e ∈ E, e.id ≠ d.id) (hp : p ≤ E.length) (h1 : ∀ j (hj : j < E.length), j < p → dlt E[j] d) (h2 : ∀ hj : p < E.length, ¬ dlt E[p] d) : (E.take p ++ d :: E.drop p).Pairwise dlt := by
  have hpw := List.pairwise_iff_getElem.1 hs
  rw [List.pairwise_append, List.pairwise_cons]
  refine ⟨hs.sublist (List.take_sublist _ _), ⟨fun e he => ?_, hs.sublist (List.drop_sublist _ _)⟩, fun a ha b hb => ?_⟩
  · obtain ⟨j, hj, rfl⟩ := List.getElem_of_mem he
    rw [List.length_drop] at hj
    rw [List.getElem_drop]
    have hp' : p < E.length := by omega
    have hnp := h2 hp'
    have hne' := hne E[p] (List.getElem_mem hp')
    rcases Nat.eq_zero_or_pos j with rfl | hj0
    · simp only [Nat.add_zero]
      unfold dlt at hnp ⊢
      omega
    · have := hpw p (p + j) hp' (by omega) (by omega)
      unfold dlt at hnp this ⊢
      omega
  · obtain ⟨j, hj, rfl⟩ := List.getElem_of_mem ha
    rw [List.length_take] at hj
    rw [List.getElem_take]
    have hjE : j < E.length := by omega
    have h := h1 j hjE (by omega)
    rcases List.mem_cons.1 hb with rfl | hb
    · exact h
    · obtain ⟨i, hi, rfl⟩ := List.getElem_of_mem hb
      rw [List.length_drop] at hi
      rw [List.getElem_drop]
      exact hpw j (p + i) hjE (by omega) (by omega)
theorem irow_info : ∃ i, RowInfo Tryz.prog 47 3 i (.int .i64 0) 1 8 := by
  obtain ⟨i0, hi, hz0, hz1, hz2⟩ := info_parts (show (Tryz.prog.info? 3).map (fun i => (i.zero, i.size, i.bytes)) = some (some (.int .i64 0), 1, 8) by kernel_rfl)
  exact ⟨i0, Tryz.underlying47, hi, hz0, hz1, hz2, by simp [Value.cells], by decide, by decide⟩
theorem upsD_succ {Ds : List DM} {i : Nat} {d : DM} (h : Ds[i]? = some d) : upsD (Ds.take (i + 1)) = upsD (Ds.take i) ++ (if d.up then [d] else []) := by
  obtain ⟨hi, rfl⟩ := List.getElem?_eq_some_iff.1 h
  unfold upsD
  rw [List.take_succ_eq_append_getElem hi, List.filter_append]
  congr 1
  cases e : (Ds[i]).up <;> simp [e]
theorem dV_mem {Ds : List DM} {e : DM} (hn : (Ds.map (·.id)).Nodup) (he : e ∈ Ds) : dV e.id Ds = e.v := by unfold dV; rw [dfnd_of_mem hn he]
theorem take_id_ne {Ds : List DM} {i : Nat} {d e : DM} (hn : (Ds.map (·.id)).Nodup) (hi : Ds[i]? = some d) (he : e ∈ Ds.take i) : e.id ≠ d.id := by
  obtain ⟨j, hj, rfl⟩ := List.getElem_of_mem he
  rw [List.length_take] at hj
  obtain ⟨hi1, rfl⟩ := List.getElem?_eq_some_iff.1 hi
  rw [List.getElem_take]
  have := List.pairwise_iff_getElem.1 hn j i (by rw [List.length_map]; omega) (by rw [List.length_map]; exact hi1) (by omega)
  rw [List.getElem_map, List.getElem_map] at this
  exact this


end Go.Proofs.YtjhffbhjiflfeaaGreat
