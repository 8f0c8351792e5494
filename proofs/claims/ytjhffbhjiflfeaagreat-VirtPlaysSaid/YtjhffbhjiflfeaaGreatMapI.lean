/-
  Maps of whole numbers in memory: what a look-up, a store, a delete do.
-/
import Derived.Test.YtjhffbhjiflfeaaGreatLib
import Derived.MapKept
import Derived.Maps.RangeRun
namespace Go.Proofs.YtjhffbhjiflfeaaGreat
set_option linter.unusedVariables false
set_option linter.unusedSimpArgs false
open Go.RowKit
open Go.MapKept (Stamped IsKey stamped_empty stamped_push stamped_modify stamped_erase)

/-! ### Plain maps: entries in some order -/
abbrev IMap := List (Int × Value)
def mget (k : Int) : IMap → Option Value
  | [] => none
  | p :: M => if p.1 = k then some p.2 else mget k M
def mput (k : Int) (v : Value) : IMap → IMap
  | [] => [(k, v)]
  | p :: M => if p.1 = k then (k, v) :: M else p :: mput k v M
def mdel (k : Int) : IMap → IMap
  | [] => []
  | p :: M => if p.1 = k then M else p :: mdel k M
def MNodup (M : IMap) : Prop := (M.map (·.1)).Nodup
theorem mget_none {k : Int} : ∀ {M : IMap}, mget k M = none ↔ ∀ p ∈ M, p.1 ≠ k
  | [] => by simp [mget]
  | p :: M => by
    unfold mget
    by_cases h : p.1 = k
    · rw [if_pos h]
      exact ⟨fun h2 => (Option.some_ne_none _ h2).elim, fun h2 => absurd h (h2 p (List.mem_cons_self ..))⟩
    · rw [if_neg h, mget_none (M := M)]
      exact ⟨fun h2 x hx => by rcases List.mem_cons.1 hx with rfl | hx; exact h; exact h2 x hx, fun h2 x hx => h2 x (List.mem_cons_of_mem _ hx)⟩
theorem mget_put (k k' : Int) (v : Value) : ∀ M : IMap, mget k' (mput k v M) = if k = k' then some v else mget k' M
  | [] => rfl
  | p :: M => by
    unfold mput
    by_cases h : p.1 = k
    · rw [if_pos h]
      show (if k = k' then some v else mget k' M) = _
      by_cases h2 : k = k'
      · rw [if_pos h2, if_pos h2]
      · rw [if_neg h2, if_neg h2]
        exact (if_neg (fun e => h2 (h.symm.trans e))).symm
    · rw [if_neg h]
      show (if p.1 = k' then some p.2 else mget k' (mput k v M)) = if k = k' then some v else if p.1 = k' then some p.2 else mget k' M
      rw [mget_put k k' v M]
      by_cases h2 : k = k'
      · subst h2
        rw [if_neg h, if_pos rfl, if_pos rfl]
      · rw [if_neg h2, if_neg h2]
theorem mget_del {k k' : Int} : ∀ {M : IMap}, MNodup M → mget k' (mdel k M) = if k = k' then none else mget k' M
  | [], _ => by simp [mdel, mget]
  | p :: M, hn => by
    have hn2 := List.nodup_cons.1 hn
    unfold mdel
    by_cases h : p.1 = k
    · rw [if_pos h]
      by_cases h2 : k = k'
      · rw [if_pos h2]
        exact mget_none.2 fun x hx e => hn2.1 (List.mem_map.2 ⟨x, hx, e.trans (h2.symm.trans h.symm)⟩)
      · rw [if_neg h2]
        exact (if_neg (fun e => h2 (h.symm.trans e))).symm
    · rw [if_neg h]
      show (if p.1 = k' then some p.2 else mget k' (mdel k M)) = if k = k' then none else if p.1 = k' then some p.2 else mget k' M
      rw [mget_del hn2.2]
      by_cases h2 : k = k'
      · subst h2
        rw [if_neg h, if_pos rfl, if_pos rfl]
      · rw [if_neg h2, if_neg h2]
theorem mem_mput {k : Int} {v : Value} {q : Int × Value} : ∀ {M : IMap}, q ∈ mput k v M → q = (k, v) ∨ (q ∈ M)
  | [], h => by simp [mput] at h; exact Or.inl h
  | p :: M, h => by
    unfold mput at h
    split at h
    · rcases List.mem_cons.1 h with h | h
      · exact Or.inl h
      · exact Or.inr (List.mem_cons_of_mem _ h)
    · rcases List.mem_cons.1 h with h | h
      · exact Or.inr (h ▸ List.mem_cons_self ..)
      · exact (mem_mput h).imp id (List.mem_cons_of_mem _)
theorem mget_mem {k : Int} {v : Value} : ∀ {M : IMap}, mget k M = some v → (k, v) ∈ M
  | [], h => by cases h
  | p :: M, h => by
    unfold mget at h
    split at h
    · rename_i e
      cases h
      subst e
      exact List.mem_cons_self ..
    · exact List.mem_cons_of_mem _ (mget_mem h)
theorem mget_of_mem {k : Int} {v : Value} : ∀ {M : IMap}, MNodup M → (k, v) ∈ M → mget k M = some v
  | [], _, h => by cases h
  | p :: M, hn, h => by
    have hn2 := List.nodup_cons.1 hn
    unfold mget
    rcases List.mem_cons.1 h with h | h
    · subst h
      exact if_pos rfl
    · rw [if_neg (fun e => hn2.1 (List.mem_map.2 ⟨(k, v), h, e.symm⟩))]
      exact mget_of_mem hn2.2 h

/-! ### In memory -/
/-- An entry's key and element. -/
def entKV (e : MapEntry) : Value × Value := (e.key, e.val)
def encM (M : IMap) : List (Value × Value) := M.map fun p => (.int .i64 p.1, p.2)
def MpAt (w : World) (b : Nat) (M : IMap) : Prop := ∃ es clock, w.heap[b]? = some (.map es clock) ∧ Stamped es clock ∧ es.toList.map entKV = encM M
theorem MpAt.lt {w : World} {b : Nat} {M : IMap} (h : MpAt w b M) : b < w.heap.size := by
  obtain ⟨es, cl, h1, _⟩ := h
  exact (Array.getElem?_eq_some_iff.1 h1).1
theorem MpAt.fr {w w' : World} {b : Nat} {M : IMap} {S : Nat → Prop} (h : MpAt w b M) (hf : Fr S w w') (hn : ¬ S b) : MpAt w' b M := by
  have hl := h.lt
  obtain ⟨es, cl, h1, h2⟩ := h
  exact ⟨es, cl, (hf.block b hl hn).trans h1, h2⟩
theorem MpAt.next {w w' : World} {b : Nat} {M : IMap} (h : MpAt w b M) (hb : Below w.heap.size w w') : MpAt w' b M := h.fr (Fr.of_below hb) (by have := h.lt; show ¬ _ ≤ _; omega)
theorem MpAt.below {w w' : World} {b B : Nat} {M : IMap} (h : MpAt w b M) (hb : Below B w w') (hl : b < B) : MpAt w' b M := h.fr (Fr.of_below hb) (by show ¬ _ ≤ _; omega)
theorem MpAt.nodup {w : World} {b : Nat} {M : IMap} (h : MpAt w b M) : MNodup M := by
  obtain ⟨es, cl, -, ⟨-, -, h3⟩, h4⟩ := h
  have e : es.toList.map (·.key) = (M.map (·.1)).map (Value.int .i64) := by
    have := congrArg (List.map Prod.fst) h4
    simpa [encM, entKV, Function.comp_def] using this
  rw [e] at h3
  exact (List.nodup_map_iff_inj_on' h3)
where
  List.nodup_map_iff_inj_on' {l : List Int} (h : (l.map (Value.int .i64)).Nodup) : l.Nodup := by
    induction l with
    | nil => exact List.nodup_nil
    | cons a l ih =>
      have h2 := List.nodup_cons.1 h
      exact List.nodup_cons.2 ⟨fun hm => h2.1 (List.mem_map_of_mem hm), ih h2.2⟩
/-- A new map. -/
theorem MpAt.new (w : World) : MpAt (w.alloc (.map #[] 0)) w.heap.size [] := ⟨#[], 0, (MapKept.heap_alloc w _).1, stamped_empty 0, rfl⟩
theorem find_at (k : Int) : ∀ (l : List MapEntry) (M : IMap) (i : Nat), l.map entKV = encM M →
    (mget k M = none ∧ Instr.findNow (.int .i64) (.int .i64 k) l i = some none ∧ (∀ x ∈ l, x.key ≠ .int .i64 k) ∧ (∀ v, mput k v M = M ++ [(k, v)]) ∧ mdel k M = M) ∨
    ∃ j e, mget k M = some e.val ∧ Instr.findNow (.int .i64) (.int .i64 k) l i = some (some (i + j, e.val)) ∧ l[j]? = some e ∧ e.key = .int .i64 k ∧
      (∀ v, (l.modify j fun e => { e with key := .int .i64 k, val := v }).map entKV = encM (mput k v M)) ∧ (l.eraseIdx j).map entKV = encM (mdel k M)
  | [], [], i, _ => .inl ⟨rfl, rfl, (fun x hx => by cases hx), (fun v => rfl), rfl⟩
  | [], p :: M, i, h => by cases h
  | e :: l, [], i, h => by cases h
  | e :: l, p :: M, i, h => by
    have h1 : entKV e = (.int .i64 p.1, p.2) := (List.cons.inj h).1
    have h2 : l.map entKV = encM M := (List.cons.inj h).2
    have hk : e.key = .int .i64 p.1 := congrArg Prod.fst h1
    have hv : e.val = p.2 := congrArg Prod.snd h1
    by_cases hp : p.1 = k
    · right
      refine ⟨0, e, by rw [hv]; exact if_pos hp, ?_, rfl, by rw [hk, hp], fun v => ?_, ?_⟩
      · unfold Instr.findNow
        simp [hk, hp, Instr.sameNow]
      · unfold mput
        rw [if_pos hp]
        show _ :: l.map entKV = _
        rw [h2]
        rfl
      · unfold mdel
        rw [if_pos hp]
        exact h2
    · rcases find_at k l M (i + 1) h2 with ⟨a1, a2, a3, a4, a5⟩ | ⟨j, e', a1, a2, a3, a4, a5, a6⟩
      · left
        refine ⟨?_, ?_, ?_, fun v => ?_, ?_⟩
        · unfold mget; rw [if_neg hp]; exact a1
        · unfold Instr.findNow
          have : (k == p.1) = false := beq_eq_false_iff_ne.2 (Ne.symm hp)
          simp [hk, Instr.sameNow, this, a2]
        · intro x hx
          rcases List.mem_cons.1 hx with rfl | hx
          · rw [hk]; intro e; cases e; exact hp rfl
          · exact a3 x hx
        · unfold mput; rw [if_neg hp, a4 v]; rfl
        · unfold mdel; rw [if_neg hp, a5]
      · right
        refine ⟨j + 1, e', ?_, ?_, by simpa using a3, a4, fun v => ?_, ?_⟩
        · unfold mget; rw [if_neg hp]; exact a1
        · unfold Instr.findNow
          have : (k == p.1) = false := beq_eq_false_iff_ne.2 (Ne.symm hp)
          simp [hk, Instr.sameNow, this, a2]
          omega
        · unfold mput; rw [if_neg hp]
          show entKV e :: _ = _ :: _
          rw [h1]
          congr 1
          exact a5 v
        · unfold mdel; rw [if_neg hp]
          show entKV e :: _ = _ :: _
          rw [h1]
          congr 1

section
variable {P : Program} {w : World} {b : Nat} {M : IMap} {t kt et : TypeId}
theorem isKey_of {es : Array MapEntry} (h : es.toList.map entKV = encM M) : ∀ x ∈ es.toList, IsKey (.int .i64) x.key := by
  intro x hx
  have : entKV x ∈ es.toList.map entKV := List.mem_map_of_mem hx
  rw [h] at this
  obtain ⟨p, -, e⟩ := List.mem_map.1 this
  have : x.key = .int .i64 p.1 := (congrArg Prod.fst e).symm
  rw [this]
  rfl
/-- A look-up. -/
theorem MpAt.look (h : MpAt w b M) (ht : P.underlying t = some (.map kt et)) (hk : P.underlying kt = some (.int .i64)) {z : Value} (hz : (zeroValue et).run P w = .ok z w) (k : Int) :
    (Instr.lookup t (.map (some b)) (.int .i64 k) true).run P w = .ok (.tuple #[(mget k M).getD z, .bool (mget k M).isSome]) w ∧
    (Instr.lookup t (.map (some b)) (.int .i64 k) false).run P w = .ok ((mget k M).getD z) w := by
  obtain ⟨es, cl, hb, hs, he⟩ := h
  have hc : IsKey (.int .i64) (.int .i64 k) := rfl
  rcases find_at k es.toList M 0 he with ⟨h1, h2, -⟩ | ⟨j, e, h1, h2, h3, -⟩
  · constructor <;> simp [Instr.lookup, run_underlying ht, MapKept.run_getObj_map hb, MapKept.run_checkKey hk hc, MapKept.run_findKey hk h2, hz, Result.andThen, h1]
  · constructor <;> simp [Instr.lookup, run_underlying ht, MapKept.run_getObj_map hb, MapKept.run_checkKey hk hc, MapKept.run_findKey hk h2, Result.andThen, h1]
theorem look_nil (ht : P.underlying t = some (.map kt et)) (hk : P.underlying kt = some (.int .i64)) {z : Value} (hz : (zeroValue et).run P w = .ok z w) (k : Int) :
    (Instr.lookup t (.map none) (.int .i64 k) true).run P w = .ok (.tuple #[z, .bool false]) w ∧ (Instr.lookup t (.map none) (.int .i64 k) false).run P w = .ok z w := by
  have hc : IsKey (.int .i64) (.int .i64 k) := rfl
  constructor <;> simp [Instr.lookup, run_underlying ht, MapKept.run_checkKey hk hc, MapKept.run_findKey hk (show Instr.findNow (.int .i64) (.int .i64 k) [] 0 = some none from rfl), hz, Result.andThen]
theorem fr_setBlock {o o' : Obj} (hb : w.heap[b]? = some o) : Fr (fun j => j = b) w { w with heap := w.heap.setIfInBounds b o' } :=
  ⟨rfl, rfl, rfl, by simp, fun k _ hn => (MapKept.heap_set (o' := o') hb).2 k hn⟩
/-- A store. -/
theorem MpAt.store (h : MpAt w b M) (ht : P.underlying t = some (.map kt et)) (hk : P.underlying kt = some (.int .i64)) (k : Int) (v : Value) :
    ∃ w', (Instr.mapUpdate t (.map (some b)) (.int .i64 k) v).run P w = .ok () w' ∧ MpAt w' b (mput k v M) ∧ Fr (fun j => j = b) w w' := by
  obtain ⟨es, cl, hb, hs, he⟩ := h
  have hc : IsKey (.int .i64) (.int .i64 k) := rfl
  rcases find_at k es.toList M 0 he with ⟨h1, h2, h3, h4, -⟩ | ⟨j, e, h1, h2, h3, h4, h5, -⟩
  · refine ⟨{ w with heap := w.heap.setIfInBounds b (.map (es.push ⟨.int .i64 k, v, cl⟩) (cl + 1)) }, ?_, ⟨_, _, (MapKept.heap_set hb).1, stamped_push hs h3, ?_⟩, fr_setBlock hb⟩
    · simp [Instr.mapUpdate, run_underlying ht, MapKept.run_getObj_map hb, MapKept.run_checkKey hk hc, MapKept.run_findKey hk h2, MapKept.run_setObj_map _ hb, Result.andThen]
    · rw [h4]
      simp [encM, entKV] at he ⊢
      exact he
  · have hj : es[j]? = some e := by simpa using h3
    rw [Nat.zero_add] at h2
    refine ⟨{ w with heap := w.heap.setIfInBounds b (.map (es.modify j fun e => { e with key := .int .i64 k, val := v }) cl) }, ?_, ⟨_, _, (MapKept.heap_set hb).1, stamped_modify hs j _ (fun _ _ => rfl) (fun x _ hx => by rw [hj] at hx; cases hx; exact h4.symm), ?_⟩, fr_setBlock hb⟩
    · simp [Instr.mapUpdate, run_underlying ht, MapKept.run_getObj_map hb, MapKept.run_checkKey hk hc, MapKept.run_findKey hk h2, hj, h4, MapKept.run_keyThatStays hc, MapKept.run_setObj_map _ hb, Result.andThen]
    · rw [← h5 v]
      simp
/-- A delete. -/
theorem MpAt.drop (h : MpAt w b M) {ty : TypeId} {ts : Array TypeId} (hts : ts[0]? = some t) (ht : P.underlying t = some (.map kt et)) (hk : P.underlying kt = some (.int .i64)) (k : Int) :
    ∃ w', (Builtin.delete_ ts ty #[.map (some b), .int .i64 k]).run P w = .ok (.tuple #[]) w' ∧ MpAt w' b (mdel k M) ∧ Fr (fun j => j = b) w w' := by
  obtain ⟨es, cl, hb, hs, he⟩ := h
  have hc : IsKey (.int .i64) (.int .i64 k) := rfl
  rcases find_at k es.toList M 0 he with ⟨h1, h2, h3, -, h4⟩ | ⟨j, e, h1, h2, h3, h4, -, h5⟩
  · refine ⟨{ w with heap := w.heap.setIfInBounds b (.map es cl) }, ?_, ⟨es, cl, (MapKept.heap_set hb).1, hs, by rw [h4]; exact he⟩, fr_setBlock hb⟩
    simp [Builtin.delete_, hts, run_underlying ht, MapKept.run_getObj_map hb, MapKept.run_checkKey hk hc, MapKept.run_findKey hk h2, MapKept.run_setObj_map _ hb, Result.andThen]
  · have hj : es[j]? = some e := by simpa using h3
    rw [Nat.zero_add] at h2
    refine ⟨{ w with heap := w.heap.setIfInBounds b (.map (es.eraseIdxIfInBounds j) cl) }, ?_, ⟨_, _, (MapKept.heap_set hb).1, stamped_erase hs j, ?_⟩, fr_setBlock hb⟩
    · simp [Builtin.delete_, hts, run_underlying ht, MapKept.run_getObj_map hb, MapKept.run_checkKey hk hc, MapKept.run_findKey hk h2, MapKept.run_setObj_map _ hb, Result.andThen]
    · rw [← h5]
      unfold Array.eraseIdxIfInBounds
      rw [dif_pos (Array.getElem?_eq_some_iff.1 hj).1]
      simp
/-- A copy of a map. -/
theorem MpAt.clone (h : MpAt w b M) (t : TypeId) : ∃ w', (Extern.MapsClone.clone #[.iface t (.map (some b))]).run P w = .ok (.iface t (.map (some w.heap.size))) w' ∧ MpAt w' w.heap.size M ∧ Below w.heap.size w w' := by
  obtain ⟨es, cl, hb, hs, he⟩ := h
  refine ⟨w.alloc (.map es cl), ?_, ⟨es, cl, (MapKept.heap_alloc w _).1, hs, he⟩, (Below.refl _ _).alloc (Nat.le_refl _) _⟩
  have e : Extern.MapsClone.clone #[.iface t (.map (some b))] = (getObj b >>= fun o => match o with
      | .map entries clock => do pure (.iface t (.map (some (← newObj (.map entries clock)))))
      | _ => stuck "maps.clone: a map expected") := rfl
  rw [e]
  simp [MapKept.run_getObj_map hb, Result.andThen]
end

end Go.Proofs.YtjhffbhjiflfeaaGreat

/-!
  A range over a map of whole numbers: whichever order.
-/
namespace Go.Proofs.YtjhffbhjiflfeaaGreat
set_option linter.unusedVariables false
set_option linter.unusedSimpArgs false
open Go.RowKit
open Go.MapKept (Stamped)

/-- A range under way: the iterator r, the map b, its entries M, those still to come L. -/
def MpR (w : World) (r b : Nat) (M L : IMap) : Prop :=
  ∃ (es : Array MapEntry) (clock since : Nat) (seen : Array Nat) (c0 : Nat), w.heap[b]? = some (.map es clock) ∧ Stamped es clock ∧ es.toList.map entKV = encM M ∧ w.heap[r]? = some (.mapIter (some b) since seen c0) ∧
    (∀ x ∈ es.toList, x.born < since) ∧ since ≤ c0 ∧ since ≤ clock ∧ (leftOf es seen).toList.map entKV = encM L
/-- What the round has. -/
def MpE (w : World) (r b : Nat) (k : Int) (v : Value) : Prop :=
  ∃ (es : Array MapEntry) (clock since : Nat) (seen : Array Nat) (e : MapEntry), w.heap[b]? = some (.map es clock) ∧ w.heap[r]? = some (.mapIter (some b) since (seen.push e.born) clock) ∧ e ∈ es.toList ∧ (es.toList.map (·.born)).Nodup ∧ e.key = .int .i64 k ∧ e.val = v
theorem MpR.lt {w : World} {r b : Nat} {M L : IMap} (h : MpR w r b M L) : r < w.heap.size ∧ b < w.heap.size := by
  obtain ⟨es, cl, since, seen, c0, h1, -, -, h4, -⟩ := h
  exact ⟨(Array.getElem?_eq_some_iff.1 h4).1, (Array.getElem?_eq_some_iff.1 h1).1⟩
theorem MpR.map {w : World} {r b : Nat} {M L : IMap} (h : MpR w r b M L) : MpAt w b M := by
  obtain ⟨es, cl, since, seen, c0, h1, h2, h3, -⟩ := h
  exact ⟨es, cl, h1, h2, h3⟩
theorem MpR.fr {w w' : World} {r b : Nat} {M L : IMap} {S : Nat → Prop} (h : MpR w r b M L) (hf : Fr S w w') (hr : ¬ S r) (hb : ¬ S b) : MpR w' r b M L := by
  have hl := h.lt
  obtain ⟨es, cl, since, seen, c0, h1, h2, h3, h4, h5⟩ := h
  exact ⟨es, cl, since, seen, c0, (hf.block b hl.2 hb).trans h1, h2, h3, (hf.block r hl.1 hr).trans h4, h5⟩
theorem MpR.next {w w' : World} {r b : Nat} {M L : IMap} (h : MpR w r b M L) (hb : Below w.heap.size w w') : MpR w' r b M L := by
  have hl := h.lt
  exact h.fr (Fr.of_below hb) (by show ¬ _ ≤ _; omega) (by show ¬ _ ≤ _; omega)
theorem MpE.lt {w : World} {r b : Nat} {k : Int} {v : Value} (h : MpE w r b k v) : r < w.heap.size ∧ b < w.heap.size := by
  obtain ⟨es, cl, since, seen, e, h1, h2, -⟩ := h
  exact ⟨(Array.getElem?_eq_some_iff.1 h2).1, (Array.getElem?_eq_some_iff.1 h1).1⟩
theorem MpE.fr {w w' : World} {r b : Nat} {k : Int} {v : Value} {S : Nat → Prop} (h : MpE w r b k v) (hf : Fr S w w') (hr : ¬ S r) (hb : ¬ S b) : MpE w' r b k v := by
  have hl := h.lt
  obtain ⟨es, cl, since, seen, e, h1, h2, h3⟩ := h
  exact ⟨es, cl, since, seen, e, (hf.block b hl.2 hb).trans h1, (hf.block r hl.1 hr).trans h2, h3⟩
section
variable {P : Program} {w : World} {r b : Nat} {M L : IMap} {t kt et : TypeId}
/-- 'range m'. -/
theorem MpAt.range (h : MpAt w b M) (ht : P.underlying t = some (.map kt et)) :
    ∃ w', (Instr.range t (.map (some b))).run P w = .ok (.pointer (some ⟨w.heap.size, 0, none⟩)) w' ∧ MpR w' w.heap.size b M M ∧ Below w.heap.size w w' ∧ w'.heap.size = w.heap.size + 1 := by
  have hl := h.lt
  obtain ⟨es, cl, hb, hs, he⟩ := h
  refine ⟨_, run_range_map w t kt et b es cl ht hb, ⟨es, cl, cl, #[], cl, ((MapKept.heap_alloc w _).2 b hl).trans hb, hs, he, (MapKept.heap_alloc w _).1, hs.1, Nat.le_refl _, Nat.le_refl _, ?_⟩, (Below.refl _ _).alloc (Nat.le_refl _) _, by simp⟩
  have e : (leftOf es #[]).toList = es.toList := by
    simp only [leftOf, Array.toList_filter]
    exact List.filter_eq_self.2 (fun x _ => by simp)
  rw [e]
  exact he
theorem leftOf_push {es : Array MapEntry} {seen : Array Nat} {e : MapEntry} {l1 l2 : List MapEntry} (hn : (es.toList.map (·.born)).Nodup) (h : (leftOf es seen).toList = l1 ++ e :: l2) :
    (leftOf es (seen.push e.born)).toList = l1 ++ l2 := by
  have e1 : (leftOf es (seen.push e.born)).toList = (leftOf es seen).toList.filter (fun x => !(x.born == e.born)) := by
    simp only [leftOf, Array.toList_filter, List.filter_filter]
    apply List.filter_congr
    intro x _
    rw [Bool.eq_iff_iff]
    simp
    exact And.comm
  have hs : ((leftOf es seen).toList.map (·.born)).Nodup := by
    refine List.Nodup.sublist (List.Sublist.map _ ?_) hn
    simp only [leftOf, Array.toList_filter]
    exact List.filter_sublist
  rw [h] at hs
  rw [e1, h, List.filter_append, List.filter_cons_of_neg (by simp)]
  rw [List.map_append, List.map_cons, List.nodup_append] at hs
  obtain ⟨-, h2, h3⟩ := hs
  have h2 := List.nodup_cons.1 h2
  rw [List.filter_eq_self.2, List.filter_eq_self.2]
  · intro x hx
    have : x.born ≠ e.born := fun hh => h2.1 (List.mem_map.2 ⟨x, hx, hh⟩)
    simpa using this
  · intro x hx
    have : x.born ≠ e.born := h3 _ (List.mem_map.2 ⟨x, hx, rfl⟩) _ (List.mem_cons_self ..)
    simpa using this
/-- The step: nothing is left, or one of those left comes out. -/
theorem MpR.step (h : MpR w r b M L) (ty : TypeId) :
    (L = [] ∧ (Instr.next (.pointer (some ⟨r, 0, none⟩)) false ty).run P w = .ok (.tuple #[.bool false]) w) ∨
    ∃ L1 k v L2 w', L = L1 ++ (k, v) :: L2 ∧ (Instr.next (.pointer (some ⟨r, 0, none⟩)) false ty).run P w = .ok (.tuple #[.bool true, .int .i64 k, v]) w' ∧ MpR w' r b M (L1 ++ L2) ∧ MpE w' r b k v ∧ Fr (fun j => j = r) w w' := by
  have hne : r ≠ b := by
    obtain ⟨es, cl, since, seen, c0, h1, -, -, h4, -⟩ := h
    intro e
    rw [e, h1] at h4
    cases h4
  obtain ⟨es, cl, since, seen, c0, h1, h2, h3, h4, h5, h6, h7, h8⟩ := h
  rcases run_next_at (P := P) w ty r b since c0 seen es cl h4 h1 h5 h6 with ⟨g1, g2⟩ | ⟨e, he, w1, hw, g2⟩
  · left
    have e0 : leftOf es seen = #[] := Array.eq_empty_of_size_eq_zero g1
    rw [e0] at h8
    refine ⟨?_, g2⟩
    cases L with
    | nil => rfl
    | cons p L => cases h8
  · right
    obtain ⟨l1, l2, hl⟩ := List.append_of_mem he
    rw [hl, List.map_append, List.map_cons] at h8
    obtain ⟨L1, L', rfl, k1, k2⟩ := List.map_eq_append_iff.1 h8.symm
    obtain ⟨p, L2, rfl, k3, k4⟩ := List.map_eq_cons_iff.1 k2
    have hk : e.key = .int .i64 p.1 := (congrArg Prod.fst k3).symm
    have hv : e.val = p.2 := (congrArg Prod.snd k3).symm
    have hin : e ∈ es.toList := by
      have : e ∈ (leftOf es seen).toList := he
      simp only [leftOf, Array.toList_filter] at this
      exact (List.mem_filter.1 this).1
    have hr1 : w1.heap[r]? = some (.mapIter (some b) since seen c0) := by rcases hw with rfl | rfl <;> exact h4
    have hb1 : w1.heap[b]? = some (.map es cl) := by rcases hw with rfl | rfl <;> exact h1
    have q1 : (ChangeMaps.setBlock w1 r (.mapIter (some b) since (seen.push e.born) cl)).heap[r]? = some (.mapIter (some b) since (seen.push e.born) cl) := (MapKept.heap_set (w := w1) hr1).1
    have q2 : (ChangeMaps.setBlock w1 r (.mapIter (some b) since (seen.push e.born) cl)).heap[b]? = some (.map es cl) := ((MapKept.heap_set (w := w1) hr1).2 b (Ne.symm hne)).trans hb1
    refine ⟨L1, p.1, p.2, L2, _, rfl, by rw [g2, hk, hv], ⟨es, cl, since, seen.push e.born, cl, q2, h2, h3, q1, h5, h7, h7, ?_⟩, ⟨es, cl, since, seen, e, q2, q1, hin, h2.2.1, hk, hv⟩, ?_⟩
    · rw [leftOf_push h2.2.1 hl, List.map_append, k1.symm, k4.symm]
      unfold encM
      rw [List.map_append]
    · have hw1 : Fr (fun j => j = r) w w1 := by
        rcases hw with rfl | rfl
        · exact Fr.refl _ _
        · exact (Fr.refl _ w).drew
      exact hw1.trans (fr_setBlock (w := w1) (o' := .mapIter (some b) since (seen.push e.born) cl) hr1)
/-- The round's key and element. -/
theorem MpE.entry {k : Int} {v : Value} (h : MpE w r b k v) : (Instr.entry (.pointer (some ⟨r, 0, none⟩))).run P w = .ok (.tuple #[.int .i64 k, v]) w := by
  obtain ⟨es, cl, since, seen, e, h1, h2, h3, h4, hk, hv⟩ := h
  rw [← hk, ← hv]
  exact run_entry_at w r b since seen es cl e h2 h1 h3 h4
/-- A nil map's iterator. -/
theorem range_nil (w : World) (ht : P.underlying t = some (.map kt et)) : (Instr.range t (.map none)).run P w = .ok (.pointer (some ⟨w.heap.size, 0, none⟩)) (w.alloc (.mapIter none 0 #[] 0)) := run_range_nilMap w t kt et ht
end

end Go.Proofs.YtjhffbhjiflfeaaGreat
