/-
  A table: its values are told, put, set, dropped.
-/
import Derived.Test.YtddehgcdflfonaaDoorProg
import Derived.Test.YtddehgcdflfonaaDoorTabB
namespace Go.Proofs.YtddehgcdflfonaaDoor
set_option linter.unusedVariables false
set_option linter.unusedSimpArgs false
set_option maxRecDepth 100000
open Go.RowKit

/-- A table that holds L, with at most N stores behind it; all its blocks are of S. -/
def TabAt (w : World) (T : Nat) (S : Nat → Prop) (N : Nat) (L : TRow) : Prop :=
  ∃ m n pg, Tab w T m n pg L.length ∧ n ≤ N ∧ PagesOf pg L ∧ TOk L ∧ S T ∧ S m ∧ (∀ i p, pg i = some p → S p.b) ∧ ∀ k, S k → k < w.heap.size
theorem Tab.fr {w w' : World} {T m n c : Nat} {pg : Pages} {S : Nat → Prop} (h : Tab w T m n pg c) (hf : Fr S w w') (hT : ¬ S T) (hm : ¬ S m) (hp : ∀ i p, pg i = some p → ¬ S p.b) : Tab w' T m n pg c :=
  ⟨h.head.fr hf hT, h.map.fr hf hm, fun i p e => (h.pages i p e).fr hf (hp i p e), h.apart⟩
section
variable {w w' : World} {T N : Nat} {S : Nat → Prop} {L : TRow}
theorem TabAt.fr {S' : Nat → Prop} (h : TabAt w T S N L) (hf : Fr S' w w') (hd : ∀ k, S k → ¬ S' k) : TabAt w' T S N L := by
  obtain ⟨m, n, pg, h1, h2, h3, h4, h5, h6, h7, h8⟩ := h
  exact ⟨m, n, pg, h1.fr hf (hd _ h5) (hd _ h6) (fun i p e => hd _ (h7 i p e)), h2, h3, h4, h5, h6, h7, fun k hk => Nat.lt_of_lt_of_le (h8 k hk) hf.size⟩
theorem TabAt.next (h : TabAt w T S N L) (hb : Below w.heap.size w w') : TabAt w' T S N L :=
  h.fr (S' := fun _ => False) ⟨hb.os, hb.tape, hb.output, hb.size, fun k hk _ => hb.block k hk⟩ (fun _ _ h => h)
theorem TabAt.lt (h : TabAt w T S N L) : ∀ k, S k → k < w.heap.size := by obtain ⟨m, n, pg, h1, h2, h3, h4, h5, h6, h7, h8⟩ := h; exact h8
theorem TabAt.mono (h : TabAt w T S N L) {N' : Nat} (hn : N ≤ N') : TabAt w T S N' L := by obtain ⟨m, n, pg, h1, h2, rest⟩ := h; exact ⟨m, n, pg, h1, Nat.le_trans h2 hn, rest⟩
theorem TabAt.ok (h : TabAt w T S N L) : TOk L := by obtain ⟨m, n, pg, h1, h2, h3, h4, rest⟩ := h; exact h4
theorem TabAt.own (h : TabAt w T S N L) : S T := by obtain ⟨m, n, pg, h1, h2, h3, h4, h5, rest⟩ := h; exact h5
theorem TabAt.drewN (h : TabAt w T S N L) (k : Nat) : TabAt (w.drewN k) T S N L := h.next (below_of_drewN _ _ _)
end
theorem below_drewN_k {w w' : World} (h : ∃ k, w' = w.drewN k) : Below w.heap.size w w' := by obtain ⟨k, rfl⟩ := h; exact below_of_drewN _ _ _

/-- What is told of asking for an id. -/
def askE (L : TRow) (id : Int) (there : Bool) : Int := if 1 ≤ id ∧ id ≤ 65535 then askIn (tget id L).isSome there else 2
theorem tabat_asked (T N : Nat) (S : Nat → Prop) (L : TRow) (id : Int) (there : Bool) (w : World) (h : TabAt w T S N L) :
    Calls Tryd.prog 26 #[.pointer (some ⟨T, 0, none⟩), .int .i64 id, .bool there] w fun e w' => e = .returned (.int .i64 (askE L id there)) ∧ ∃ k, w' = w.drewN k := by
  obtain ⟨m, n, pg, h1, h2, h3, h4, h5, h6, h7, h8⟩ := h
  unfold askE
  by_cases hr : 1 ≤ id ∧ id ≤ 65535
  · rw [if_pos hr]
    obtain ⟨i, rfl⟩ : ∃ i : Nat, id = (i : Int) := ⟨id.toNat, by omega⟩
    rw [h3.tells i]
    exact tab_asked_in T m n i pg _ there w h1 (by omega) (by omega) (fun p hp => (h3.few _ _ hp).2.1)
  · rw [if_neg hr]
    exact (tab_asked_arg T m id there w (h1.head.get 0 rfl) hr).mono fun e w' ⟨he, hw⟩ => ⟨he, 0, by rw [← hw]; rfl⟩
theorem askE_none {L : TRow} {id : Int} (h : tget id L = none) : askE L id true ≠ 0 := by
  unfold askE askIn
  rw [h]
  split <;> simp
theorem askE_some {L : TRow} {id v : Int} (hL : TOk L) (h : tget id L = some v) (there : Bool) : askE L id there = if there then 0 else 80 := by
  have := hL.get_may h
  unfold askE askIn
  rw [if_pos ⟨this.1, this.2.1⟩, h]
  rfl
theorem askE_free {L : TRow} {id : Int} (h1 : 1 ≤ id) (h2 : id ≤ 65535) (h : tget id L = none) : askE L id false = 0 := by
  unfold askE askIn
  rw [if_pos ⟨h1, h2⟩, h]
  rfl

/-! ### Refused -/
section
variable (p : Value) (id v E : Int) (w : World) (hE : E ≠ 0)
include hE
theorem tab_get_refused (h : Calls Tryd.prog 26 #[p, .int .i64 id, .bool true] w fun e w' => e = .returned (.int .i64 E) ∧ ∃ k, w' = w.drewN k) :
    Calls Tryd.prog 11 #[p, .int .i64 id] w fun e w' => e = .returned (.tuple #[.int .u64 0, .bool false]) ∧ ∃ k, w' = w.drewN k := by
  have H := Lib.hid h
  have hz : (E == 0) = false := beq_eq_false_iff_ne.2 hE
  clear h hE
  go_enter Tryd.func11, Tryd.ntmps11
  go_wp2_with fail
  with_reducible refine H.out.mono ?_
  rintro e w1 ⟨rfl, k, rfl⟩
  go_wp2
  go_ret2
  exact ⟨rfl, _, rfl⟩
theorem tab_put_refused (h : Calls Tryd.prog 26 #[p, .int .i64 id, .bool false] w fun e w' => e = .returned (.int .i64 E) ∧ ∃ k, w' = w.drewN k) :
    Calls Tryd.prog 13 #[p, .int .i64 id, .int .u64 v] w fun e w' => e = .returned (.int .i64 E) ∧ ∃ k, w' = w.drewN k := by
  have H := Lib.hid h
  have hz : (E == 0) = false := beq_eq_false_iff_ne.2 hE
  have hz2 : (E != 0) = true := by simp [bne, hz]
  clear h hE
  go_enter Tryd.func13, Tryd.ntmps13
  go_wp2_with fail
  with_reducible refine H.out.mono ?_
  rintro e w1 ⟨rfl, k, rfl⟩
  go_wp2
  go_ret
  exact ⟨rfl, _, rfl⟩
theorem tab_set_refused (h : Calls Tryd.prog 26 #[p, .int .i64 id, .bool true] w fun e w' => e = .returned (.int .i64 E) ∧ ∃ k, w' = w.drewN k) :
    Calls Tryd.prog 14 #[p, .int .i64 id, .int .u64 v] w fun e w' => e = .returned (.int .i64 E) ∧ ∃ k, w' = w.drewN k := by
  have H := Lib.hid h
  have hz : (E == 0) = false := beq_eq_false_iff_ne.2 hE
  have hz2 : (E != 0) = true := by simp [bne, hz]
  clear h hE
  go_enter Tryd.func14, Tryd.ntmps14
  go_wp2_with fail
  with_reducible refine H.out.mono ?_
  rintro e w1 ⟨rfl, k, rfl⟩
  go_wp2
  go_ret
  exact ⟨rfl, _, rfl⟩
theorem tab_drop_refused (h : Calls Tryd.prog 26 #[p, .int .i64 id, .bool true] w fun e w' => e = .returned (.int .i64 E) ∧ ∃ k, w' = w.drewN k) :
    Calls Tryd.prog 15 #[p, .int .i64 id] w fun e w' => e = .returned (.int .i64 E) ∧ ∃ k, w' = w.drewN k := by
  have H := Lib.hid h
  have hz : (E == 0) = false := beq_eq_false_iff_ne.2 hE
  have hz2 : (E != 0) = true := by simp [bne, hz]
  clear h hE
  go_enter Tryd.func15, Tryd.ntmps15
  go_wp2_with fail
  with_reducible refine H.out.mono ?_
  rintro e w1 ⟨rfl, k, rfl⟩
  go_wp2
  go_ret
  exact ⟨rfl, _, rfl⟩
end

theorem tab_get (T N : Nat) (S : Nat → Prop) (L : TRow) (id : Int) (w : World) (h : TabAt w T S N L) :
    Calls Tryd.prog 11 #[.pointer (some ⟨T, 0, none⟩), .int .i64 id] w fun e w' => e = .returned (.tuple #[.int .u64 ((tget id L).getD 0), .bool (tget id L).isSome]) ∧ ∃ k, w' = w.drewN k := by
  have HA := tabat_asked T N S L id true w h
  rcases hv : tget id L with _ | v
  · exact tab_get_refused _ _ _ w (askE_none hv) HA
  · rw [askE_some h.ok hv] at HA
    obtain ⟨h1', h2', _⟩ := h.ok.get_may hv
    obtain ⟨m, n, pg, h1, h2, h3, h4, h5, h6, h7, h8⟩ := h
    obtain ⟨i, rfl⟩ : ∃ i : Nat, id = (i : Int) := ⟨id.toNat, by omega⟩
    have ht := h3.tells i
    rw [hv] at ht
    have AT := fun k => tab_at T m n i pg _ (w.drewN k) (h1.fr (Fr.of_drewN w (fun _ => False) k) (fun h => h) (fun h => h) (fun _ _ _ h => h)) (by omega) (by omega)
    rcases hp : pg (i / 64) with _ | p
    · rw [hp] at ht; cases ht
    · rw [hp] at ht AT
      simp only [Option.map_some, pgPtr] at AT
      have hc := (h1.pages _ _ hp).get (1 + i % 64) (pageCells_v p.has p.vs (Nat.mod_lt i (show 0 < 64 by omega)))
      have hvv : v = p.vs (i % 64) := by
        simp only [bitOf] at ht
        split at ht
        · exact Option.some.inj ht
        · cases ht
      rw [← hvv] at hc
      have e2 : ((i : Int)) % 64 = ((i % 64 : Nat) : Int) := rfl
      have hr : i % 64 < 64 := Nat.mod_lt _ (by omega)
      have HAT := Lib.hid AT
      have HAS := Lib.hid HA
      have h1i : 1 ≤ i := by omega
      have h2i : i ≤ 65535 := by omega
      clear h1 h2 h3 h4 h5 h6 h7 h8 hv ht hp hvv AT HA h1' h2'
      obtain ⟨q, hq⟩ : ∃ q, i % 64 = q := ⟨_, rfl⟩
      rw [hq] at hc hr e2 HAT
      clear hq
      go_enter Tryd.func11, Tryd.ntmps11
      go_wp2_with fail
      with_reducible refine HAS.out.mono ?_
      rintro e w1 ⟨rfl, k, rfl⟩
      go_wp2_with fail
      with_reducible refine (HAT.out k).mono ?_
      rintro e w1 ⟨rfl, k2, rfl⟩
      go_wp2
      go_ret2
      exact ⟨by simp, _, rfl⟩

/-! ### What stores do -/
theorem MapAt.ne_blk {w : World} {m n b : Nat} {f : Nat → Option Nat} {t : TypeId} {cs : Array Value} (h : MapAt w m n f) (hb : Blk w b t cs) : m ≠ b := by
  rintro rfl
  obtain ⟨D, ⟨es, clock, hm, _⟩, _⟩ := h
  unfold Blk at hb
  rw [hb] at hm
  cases hm
theorem MapAt.setCell {w : World} {m n : Nat} {f : Nat → Option Nat} (h : MapAt w m n f) {p : Addr} (hp : m ≠ p.block) (u : Value) : MapAt (w.setCell p u) m n f := h.same (Below.heap_setCell w p u m hp)
section
variable {w : World} {T m n c j : Nat} {pg : Pages} {p : Page}
theorem Tab.ne_head (h : Tab w T m n pg c) (hp : pg j = some p) : T ≠ p.b := h.head.ne_of_type (h.pages _ _ hp) (by decide)
theorem Tab.store (h : Tab w T m n pg c) (hp : pg j = some p) (i : Nat) (u : Value) (p' : Page) (hb : p'.b = p.b) (hcs : (pageCells p.has p.vs).setIfInBounds i u = pageCells p'.has p'.vs) :
    Tab (w.setCell ⟨p.b, i, none⟩ u) T m n (setPage pg j (some p')) c where
  head := h.head.far (h.ne_head hp) u
  map := by
    have e : (fun x => (setPage pg j (some p') x).map (·.b)) = fun x => (pg x).map (·.b) := by
      funext x
      by_cases cx : x = j
      · subst cx; rw [setPage_same, hp]; simp [hb]
      · rw [setPage_other cx]
    rw [e]
    exact h.map.setCell (h.map.ne_blk (h.pages _ _ hp)) u
  pages := fun x q hq => by
    by_cases cx : x = j
    · subst cx
      rw [setPage_same] at hq
      injection hq with hq
      subst hq
      rw [← hcs, hb]
      exact (h.pages _ _ hp).put i u
    · rw [setPage_other cx] at hq
      exact (h.pages _ _ hq).far (fun e => cx (h.apart _ _ _ _ hq hp e)) u
  apart := fun x y q r hq hr e => by
    by_cases cx : x = j
    · by_cases cy : y = j
      · rw [cx, cy]
      · subst cx
        rw [setPage_same] at hq
        injection hq with hq
        subst hq
        rw [setPage_other cy] at hr
        exact h.apart _ _ _ _ hp hr (by rw [← hb]; exact e)
    · rw [setPage_other cx] at hq
      by_cases cy : y = j
      · subst cy
        rw [setPage_same] at hr
        injection hr with hr
        subst hr
        exact h.apart _ _ _ _ hq hp (by rw [← hb]; exact e)
      · rw [setPage_other cy] at hr
        exact h.apart _ _ _ _ hq hr e
theorem Tab.count (h : Tab w T m n pg c) (c' : Nat) : Tab (w.setCell ⟨T, 1, none⟩ (.int .i64 (c' : Int))) T m n pg c' where
  head := h.head.put 1 (.int .i64 (c' : Int))
  map := h.map.setCell (h.map.ne_blk h.head) _
  pages := fun x q hq => (h.pages _ _ hq).far (Ne.symm (h.ne_head hq)) _
  apart := h.apart
theorem Tab.strike {w' : World} (h : Tab w T m n pg c) (hg : w.grownBy w' (some m)) (hm : MapAt w' m n (fun x => if x = j then none else (pg x).map (·.b))) : Tab w' T m n (setPage pg j none) c where
  head := h.head.grown hg (fun e => h.map.ne_blk h.head (Option.some.inj e).symm)
  map := by
    have e : (fun x => (setPage pg j none x).map (·.b)) = fun x => if x = j then none else (pg x).map (·.b) := by
      funext x
      by_cases cx : x = j
      · subst cx; rw [setPage_same, if_pos rfl]; rfl
      · rw [setPage_other cx, if_neg cx]
    rw [e]
    exact hm
  pages := fun x q hq => by
    by_cases cx : x = j
    · subst cx; rw [setPage_same] at hq; cases hq
    · rw [setPage_other cx] at hq
      exact (h.pages _ _ hq).grown hg (fun e => h.map.ne_blk (h.pages _ _ hq) (Option.some.inj e).symm)
  apart := fun x y q r hq hr e => by
    by_cases cx : x = j
    · subst cx; rw [setPage_same] at hq; cases hq
    · by_cases cy : y = j
      · subst cy; rw [setPage_same] at hr; cases hr
      · rw [setPage_other cx] at hq; rw [setPage_other cy] at hr
        exact h.apart _ _ _ _ hq hr e
theorem Tab.more {w' : World} (h : Tab w T m n pg c) (hn : pg j = none) (hb : Blk w p.b 68 (pageCells p.has p.vs)) (hf : ∀ x q, pg x = some q → q.b ≠ p.b) (hg : w.grownBy w' (some m)) (hm : MapAt w' m (n + 1) (fun x => if x = j then some p.b else (pg x).map (·.b))) :
    Tab w' T m (n + 1) (setPage pg j (some p)) c where
  head := h.head.grown hg (fun e => h.map.ne_blk h.head (Option.some.inj e).symm)
  map := by
    have e : (fun x => (setPage pg j (some p) x).map (·.b)) = fun x => if x = j then some p.b else (pg x).map (·.b) := by
      funext x
      by_cases cx : x = j
      · subst cx; rw [setPage_same, if_pos rfl]; rfl
      · rw [setPage_other cx, if_neg cx]
    rw [e]
    exact hm
  pages := fun x q hq => by
    by_cases cx : x = j
    · subst cx
      rw [setPage_same] at hq
      injection hq with hq
      subst hq
      exact hb.grown hg (fun e => h.map.ne_blk hb (Option.some.inj e).symm)
    · rw [setPage_other cx] at hq
      exact (h.pages _ _ hq).grown hg (fun e => h.map.ne_blk (h.pages _ _ hq) (Option.some.inj e).symm)
  apart := fun x y q r hq hr e => by
    by_cases cx : x = j
    · by_cases cy : y = j
      · rw [cx, cy]
      · subst cx
        rw [setPage_same] at hq
        injection hq with hq
        subst hq
        rw [setPage_other cy] at hr
        exact absurd e.symm (hf _ _ hr)
    · rw [setPage_other cx] at hq
      by_cases cy : y = j
      · subst cy
        rw [setPage_same] at hr
        injection hr with hr
        subst hr
        exact absurd e (hf _ _ hq)
      · rw [setPage_other cy] at hr
        exact h.apart _ _ _ _ hq hr e
end
/-- A row's page, if the row has the id. -/
theorem page_of {pg : Pages} {L : TRow} {i : Nat} {v : Int} (h : PagesOf pg L) (hv : tget (i : Int) L = some v) : ∃ p, pg (i / 64) = some p ∧ p.has.testBit (i % 64) = true ∧ p.vs (i % 64) = v := by
  have ht := h.tells i
  rw [hv] at ht
  rcases hp : pg (i / 64) with _ | p
  · rw [hp] at ht; cases ht
  · rw [hp] at ht
    simp only [bitOf] at ht
    split at ht
    · rename_i hb; exact ⟨p, rfl, hb, (Option.some.inj ht).symm⟩
    · cases ht

set_option maxHeartbeats 1000000 in
theorem tab_set_there (T N : Nat) (S : Nat → Prop) (L : TRow) (id v v0 : Int) (w : World) (h : TabAt w T S N L) (hv : tget id L = some v0) (hw : Word v) :
    Calls Tryd.prog 14 #[.pointer (some ⟨T, 0, none⟩), .int .i64 id, .int .u64 v] w fun e w' => e = .returned (.int .i64 0) ∧ TabAt w' T S N (tset id v L) ∧ Fr S w w' := by
  have HA := tabat_asked T N S L id true w h
  rw [askE_some h.ok hv] at HA
  obtain ⟨h1', h2', _⟩ := h.ok.get_may hv
  have hok := h.ok
  obtain ⟨m, n, pg, h1, h2, h3, h4, h5, h6, h7, h8⟩ := h
  obtain ⟨i, rfl⟩ : ∃ i : Nat, id = (i : Int) := ⟨id.toNat, by omega⟩
  obtain ⟨p, hp, hb, -⟩ := page_of h3 hv
  have AT := fun k => tab_at T m n i pg _ (w.drewN k) (h1.fr (Fr.of_drewN w (fun _ => False) k) (fun h => h) (fun h => h) (fun _ _ _ h => h)) (by omega) (by omega)
  rw [hp] at AT
  simp only [Option.map_some, pgPtr] at AT
  have hr : i % 64 < 64 := Nat.mod_lt _ (by omega)
  have hc := (h1.pages _ _ hp).get (1 + i % 64) (pageCells_v p.has p.vs hr)
  have hf := (h1.pages _ _ hp).frozen (1 + i % 64)
  have KEY : Hid (TabAt (w.setCell ⟨p.b, 1 + i % 64, none⟩ (.int .u64 v)) T S N (tset i v L) ∧ Fr S w (w.setCell ⟨p.b, 1 + i % 64, none⟩ (.int .u64 v))) := by
    refine ⟨⟨m, n, _, ?_, h2, h3.set (p' := ⟨p.b, p.has, fun x => if x = i % 64 then v else p.vs x⟩) hp hb (by omega) hw rfl (fun j hj => rfl), hok.set hw, h5, h6, ?_, fun k hk => by have := h8 k hk; simpa using this⟩, (Fr.refl S w).setCell (p := ⟨p.b, 1 + i % 64, none⟩) (fun _ => h7 _ _ hp) _⟩
    · rw [tset_length]
      exact h1.store hp (1 + i % 64) (.int .u64 v) _ rfl (pageCells_set _ _ hr v)
    · intro x q hq
      by_cases cx : x = i / 64
      · subst cx; rw [setPage_same] at hq; injection hq with hq; subst hq; exact h7 (i / 64) p hp
      · rw [setPage_other cx] at hq; exact h7 _ _ hq
  have e2 : ((i : Int)) % 64 = ((i % 64 : Nat) : Int) := rfl
  have HAT := Lib.hid AT
  have HAS := Lib.hid HA
  have h1i : 1 ≤ i := by omega
  have h2i : i ≤ 65535 := by omega
  obtain ⟨b, hb'⟩ : ∃ b, p.b = b := ⟨_, rfl⟩
  rw [hb'] at hc hf KEY HAT
  clear h1 h2 h3 h4 h5 h6 h7 h8 hv AT HA h1' h2' hok hp hb hb'
  obtain ⟨q, hq⟩ : ∃ q, i % 64 = q := ⟨_, rfl⟩
  obtain ⟨c0, hc0⟩ : ∃ c0, p.vs q = c0 := ⟨_, rfl⟩
  rw [hq] at hc hr e2 HAT hf KEY
  rw [hc0] at hc
  clear hq hc0 p
  go_enter Tryd.func14, Tryd.ntmps14
  go_wp2_with fail
  with_reducible refine HAS.out.mono ?_
  rintro e w1 ⟨rfl, k, rfl⟩
  go_wp2_with fail
  with_reducible refine (HAT.out k).mono ?_
  rintro e w1 ⟨rfl, k2, rfl⟩
  go_wp2
  go_ret
  exact ⟨by simp, KEY.out.1.drewN _, KEY.out.2.drewN _⟩

end Go.Proofs.YtddehgcdflfonaaDoor
