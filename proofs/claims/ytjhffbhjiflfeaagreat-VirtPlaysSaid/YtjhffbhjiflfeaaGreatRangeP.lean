/-
  A range over a function that hands out a list's elements in whatever order: what is done is told as a list. Maps and iterators over maps are kept by the rounds.
-/
import Derived.Test.YtjhffbhjiflfeaaGreatRange
import Derived.Test.YtjhffbhjiflfeaaGreatMapI
namespace Go.Proofs.YtjhffbhjiflfeaaGreat
set_option linter.unusedVariables false
set_option linter.unusedSimpArgs false
open Go.RowKit Go.Shelf

/-- Maps, and what goes over them. -/
def isMap : Obj → Bool
  | .map _ _ => true
  | .mapIter _ _ _ _ => true
  | _ => false
def KeepsM (A C : World) : Prop := ∀ (k : Nat) (o : Obj), A.heap[k]? = some o → isMap o = true → C.heap[k]? = some o
section
variable {A C D : World}
theorem KeepsM.refl (A : World) : KeepsM A A := fun _ _ h _ => h
theorem KeepsM.trans (h : KeepsM A C) (k : KeepsM C D) : KeepsM A D := fun i o e ho => k i o (h i o e ho) ho
theorem KeepsM.of_below (h : Below A.heap.size A C) : KeepsM A C := fun k o e _ => (h.block k (Array.getElem?_eq_some_iff.1 e).1).trans e
theorem KeepsM.of_fr {S : Nat → Prop} (h : Fr S A C) (hS : ∀ k, k < A.heap.size → S k → ∃ t cs, Blk A k t cs) : KeepsM A C := fun k o e ho => by
  have hl := (Array.getElem?_eq_some_iff.1 e).1
  by_cases hk : S k
  · obtain ⟨t, cs, hb⟩ := hS k hl hk
    unfold Blk at hb
    rw [hb] at e
    cases e
    cases ho
  · exact (h.block k hl hk).trans e
theorem KeepsM.putObj {l : Nat} {o o' : Obj} (hl : A.heap[l]? = some o) (ho : isMap o = false) : KeepsM A (A.putObj l o') := fun k u e hu =>
  (World.putObj_heap_other (by rintro rfl; rw [hl] at e; cases e; rw [ho] at hu; cases hu)).trans e
theorem MpR.keeps {r b : Nat} {M L : IMap} (h : MpR A r b M L) (k : KeepsM A C) : MpR C r b M L := by
  obtain ⟨es, cl, since, seen, c0, h1, h2, h3, h4, h5⟩ := h
  exact ⟨es, cl, since, seen, c0, k _ _ h1 rfl, h2, h3, k _ _ h4 rfl, h5⟩
end

/-- x is still to come when D is done. -/
def Comes {α : Type} (L D : List α) (x : α) : Prop := ∃ R, (D ++ x :: R).Perm L
/-- **An iterator that hands out L's elements in some order**; between two rounds S holds of the world. -/
def YieldsP {α : Type} (P : Program) (gf : Nat) (lb : Array Value) (L : List α) (encs : α → Array Value) (S : World → Prop) : Prop :=
  ∀ (l : Nat) (J Jx : List α → World → Prop) (W : World), (∀ D A C, J D A → Stays W.heap.size A C → J D C) → (∀ D A C, Jx D A → Stays W.heap.size A C → Jx D C) → (∀ D A, J D A → S A) →
    (∀ D x W1, Comes L D x → J D W1 → YieldAt Fence.wide 5 P l (encs x) W1 fun e W' => KeepsM W1 W' ∧ ((e = .returned (.bool true) ∧ J (D ++ [x]) W') ∨ (e = .returned (.bool false) ∧ Jx (D ++ [x]) W'))) →
    J [] W → CallsIn Fence.wide 6 P gf (#[.func (.yield l) #[] #[]] ++ lb) W fun e W' => (∃ v, e = .returned v) ∧ ((∃ D, D.Perm L ∧ J D W') ∨ ∃ D, Jx D W')
/-- How a round may be left. -/
def roundEndP (B : Nat) (I : World → Prop) (Ix : Code → World → Prop) (W : World) : Exit → Act → World → Prop
  | .normal, _, W' => (Holds B W W' ∧ KeepsM W W') ∧ I W'
  | .ret, _, W' => (Holds B W W' ∧ KeepsM W W') ∧ Ix .ret W'
  | .exit id, _, W' => (Holds B W W' ∧ KeepsM W W') ∧ Ix (.exit id) W'
  | .goto t, _, W' => (Holds B W W' ∧ KeepsM W W') ∧ Ix (.goto t) W'
  | .panic _, _, _ => False
  | .outgrown, _, _ => False

set_option maxHeartbeats 1000000 in
/-- **The statement 'for .. := range g', in whatever order.** -/
theorem wp_rangeP {α : Type} {P : Program} {g : Operand} {ps : Array Tmp} {assign body : Code} {Q : Exit → Act → World → Prop} {a : Act} {w : World} {gf : Nat} {lb : Array Value} (hg : a.eval g = .func (.func gf) #[] lb)
    (eg : ∀ args w, (callFunc gf args).run P w = .ok (.enter gf args) w) {L : List α} {encs : α → Array Value} {S : World → Prop} (hseq : YieldsP P gf lb L encs S) (hps : ∀ x, (encs x).size = ps.size)
    (I : List α → World → Prop) (Ix : Code → List α → World → Prop) (hI : ∀ k A C, I k A → Stays w.heap.size A C → I k C) (hIx : ∀ c k A C, Ix c k A → Stays w.heap.size A C → Ix c k C) (hIS : ∀ k A, I k A → S A) (h0 : I [] w)
    (hround : ∀ D x W, Comes L D x → I D W → w.heap.size + 1 < W.heap.size → assign.wpIn (Fence.wide.inRound (w.heap.size + 1)) 5 P
      (Exit.then (fun a1 W1 => (Holds w.heap.size W W1 ∧ KeepsM W W1) ∧ ∀ W2, Stays w.heap.size W1 W2 → body.wpIn (Fence.wide.inRound (w.heap.size + 1)) 5 P (roundEndP w.heap.size (I (D ++ [x])) (fun c => Ix c (D ++ [x])) W2) a1 W2) (fun _ _ _ => False))
      { tmps := (ps.zip (encs x)).foldl (fun t (p, v) => t.setIfInBounds p v) a.tmps, defers := [] } W)
    (hdone : ∀ D W, D.Perm L → I D W → W.heap[w.heap.size]? = some (.deferred (some [])) → Q .normal { a with defers := markOf w.heap.size :: a.defers } W)
    (hstop : ∀ c D W, Ix c D W → W.heap[w.heap.size]? = some (.deferred (some [])) → c.wp P Q { a with defers := markOf w.heap.size :: a.defers } W) :
    (Code.rangeFunc g ps assign body).wp P Q a w := by
  refine (wpIn_wide (n := 7)).1 (wpIn_rangeFunc fun fn _ => ?_)
  obtain ⟨rec, hrec⟩ : ∃ rec : LoopState → Option Code → Loop, rec = fun st pe => { state := st, pending := pe, fn, tmps := a.tmps, params := ps, assign, body, defers := w.heap.size } := ⟨_, rfl⟩
  have hent := run_enterLoop_outer (P := P) (w := w) fn a.tmps ps assign body
  obtain ⟨W1, hW1⟩ : ∃ W1, (w.alloc (.deferred (some []))).alloc (.loop (rec .ready none)) = W1 := ⟨_, rfl⟩
  have hbw : Below w.heap.size w W1 := by rw [← hW1]; exact ((Below.refl _ w).alloc (Nat.le_refl _) _).alloc (by simp) _
  have hL1 : W1.heap[w.heap.size + 1]? = some (.loop (rec .ready none)) := by
    have h := World.alloc_heap_new (w.alloc (.deferred (some []))) (.loop (rec .ready none))
    rw [World.size_alloc, hW1] at h
    exact h
  have hK1 : W1.heap[w.heap.size]? = some (.deferred (some [])) := by
    rw [← hW1]
    exact (Below.heap_alloc _ _ _ (by simp)).trans (World.alloc_heap_new w _)
  have hlow : w.heap.size < W1.heap.size ∧ w.heap.size + 1 < W1.heap.size := ⟨(Array.getElem?_eq_some_iff.1 hK1).1, (Array.getElem?_eq_some_iff.1 hL1).1⟩
  -- the record, ready, and the block for what rounds defer
  let R : LoopState → Option Code → World → Prop := fun st pe W => W.heap[w.heap.size + 1]? = some (.loop (rec st pe)) ∧ W.heap[w.heap.size]? = some (.deferred (some []))
  have Rnext : ∀ {st pe A C}, R st pe A → Holds w.heap.size A C → R st pe C := fun h k => ⟨k.book.trans h.1, k.mark.trans h.2⟩
  have Rlt : ∀ {st pe A}, R st pe A → w.heap.size + 1 < A.heap.size := fun h => (Array.getElem?_eq_some_iff.1 h.1).1
  have Rput : ∀ {st pe A} (st' pe'), R st pe A → R st' pe' (A.putObj (w.heap.size + 1) (.loop (rec st' pe'))) ∧ Stays w.heap.size A (A.putObj (w.heap.size + 1) (.loop (rec st' pe'))) := fun {st pe A} st' pe' h =>
    ⟨⟨World.putObj_heap_same (Array.getElem?_eq_some_iff.1 h.1).1, (World.putObj_heap_other (by omega)).trans h.2⟩, Stays.putObj _ (by omega) h.1 rfl⟩
  refine ⟨w.heap.size + 1, [markOf w.heap.size], W1, { target := .fn (.func gf) lb, args := #[.func (.yield (w.heap.size + 1)) #[] #[]] }, W1, gf, #[.func (.yield (w.heap.size + 1)) #[] #[]] ++ lb, W1, ?_, ?_, fun _ _ => trivial, ?_, fun _ => by omega, ?_⟩
  · rw [← hW1, hrec]
    exact hent
  · simp only [resolve, hg]
    simp [go_sem]
  · simp [invoke, go_sem, eg]
  · refine (hseq (w.heap.size + 1) (fun k W => I k W ∧ R .ready none W ∧ w.heap.size ≤ W.heap.size) (fun k W => ∃ c, Ix c k W ∧ R .done (some c) W ∧ w.heap.size ≤ W.heap.size) W1 ?_ ?_ (fun k A h => hIS k A h.1) ?_ ⟨hI [] _ _ h0 (Stays.of_below hbw (Nat.le_refl _)), ⟨hL1, hK1⟩, hbw.size⟩).mono ?_
    · rintro k A C ⟨h1, h2, h3⟩ hb
      exact ⟨hI k A C h1 (hb.mono hbw.size), ⟨(hb.low _ hlow.2).trans h2.1, (hb.low _ hlow.1).trans h2.2⟩, Nat.le_trans h3 hb.size⟩
    · rintro k A C ⟨c, h1, h2, h3⟩ hb
      exact ⟨c, hIx c k A C h1 (hb.mono hbw.size), ⟨(hb.low _ hlow.2).trans h2.1, (hb.low _ hlow.1).trans h2.2⟩, Nat.le_trans h3 hb.size⟩
    · rintro k x W hk ⟨hi, hr, hs⟩
      have hy := run_yield (P := P) (args := encs x) hr.1 (by rw [hrec]; exact hps x)
      rw [hrec] at hy
      refine ⟨fn, _, assign, body, hy, roundIn_of_wpIn trivial (wpIn_mono (hround k x W hk hi (by have := (Array.getElem?_eq_some_iff.1 hr.1).1; omega)) ?_)⟩
      clear hy
      rintro e a1 Wa hp
      cases e with
      | normal =>
        obtain ⟨⟨hkf, hkm⟩, hbody⟩ := hp
        have hra := Rnext hr hkf
        obtain ⟨hrb, hst⟩ := Rput .busy none hra
        have hbeg := run_beginRound (P := P) hra.1 (by rw [hrec])
        refine ⟨Wa.putObj (w.heap.size + 1) (.loop (rec .busy none)), by rw [hrec] at hbeg ⊢; exact hbeg, ?_⟩
        refine wpIn_mono (hbody _ hst) ?_
        have fin : ∀ (jump : Option Code) (W3 : World), Holds w.heap.size (Wa.putObj (w.heap.size + 1) (.loop (rec .busy none))) W3 ∧ KeepsM (Wa.putObj (w.heap.size + 1) (.loop (rec .busy none))) W3 →
            ∃ W4, KeepsM W W4 ∧  (Instr.endRound (w.heap.size + 1) jump).run P W3 = .ok (.bool jump.isNone) W4 ∧ R (if jump.isNone then .ready else .done) jump W4 ∧ Stays w.heap.size W3 W4 ∧ w.heap.size ≤ W4.heap.size := fun jump W3 hk3' => by
          obtain ⟨hk3, hm3⟩ := hk3'
          have h3 := Rnext hrb hk3
          have he := run_endRound (P := P) jump h3.1
          obtain ⟨h4, hs4⟩ := Rput (if jump.isNone then .ready else .done) jump h3
          refine ⟨_, hkm.trans ((KeepsM.putObj hra.1 rfl).trans (hm3.trans (KeepsM.putObj h3.1 rfl))), ?_, h4, hs4, Nat.le_trans (Nat.le_trans (Nat.le_trans hs hkf.size) hst.size) (Nat.le_trans hk3.size hs4.size)⟩
          rw [hrec] at he ⊢
          exact he
        rintro e a3 W3 hp
        cases e with
        | normal =>
          obtain ⟨W4, hmm, hrun, h4, hs4, hz4⟩ := fin none W3 hp.1
          exact ⟨_, _, hrun, hmm, .inl ⟨rfl, hI _ _ _ hp.2 hs4, h4, hz4⟩⟩
        | ret =>
          obtain ⟨W4, hmm, hrun, h4, hs4, hz4⟩ := fin (some .ret) W3 hp.1
          exact ⟨_, _, hrun, hmm, .inr ⟨rfl, _, hIx _ _ _ _ hp.2 hs4, h4, hz4⟩⟩
        | exit id =>
          obtain ⟨W4, hmm, hrun, h4, hs4, hz4⟩ := fin (some (.exit id)) W3 hp.1
          exact ⟨_, _, hrun, hmm, .inr ⟨rfl, _, hIx _ _ _ _ hp.2 hs4, h4, hz4⟩⟩
        | goto t =>
          obtain ⟨W4, hmm, hrun, h4, hs4, hz4⟩ := fin (some (.goto t)) W3 hp.1
          exact ⟨_, _, hrun, hmm, .inr ⟨rfl, _, hIx _ _ _ _ hp.2 hs4, h4, hz4⟩⟩
        | panic ch => exact hp.elim
        | outgrown => exact hp.elim
      | exit id => exact hp.elim
      | goto t => exact hp.elim
      | ret => exact hp.elim
      | panic ch => exact hp.elim
      | outgrown => exact hp.elim
    · rintro e W2 ⟨⟨v, rfl⟩, (⟨D, hD, hi, hr, hs⟩ | ⟨D, c, hi, hr, hs⟩)⟩
      · have he := run_endLoop (P := P) hr.1 (by rw [hrec]; simp)
        rw [hrec] at he
        obtain ⟨hr4, hs4⟩ := Rput .exhausted none hr
        rw [hrec] at hr4 hs4
        exact ⟨none, _, he, hdone D _ hD (hI _ _ _ hi hs4) hr4.2⟩
      · have he := run_endLoop (P := P) hr.1 (by rw [hrec]; simp)
        rw [hrec] at he
        obtain ⟨hr4, hs4⟩ := Rput .exhausted (some c) hr
        rw [hrec] at hr4 hs4
        exact ⟨some c, _, he, wpIn_wide.2 (hstop c D _ (hIx _ _ _ _ hi hs4) hr4.2)⟩


end Go.Proofs.YtjhffbhjiflfeaaGreat
