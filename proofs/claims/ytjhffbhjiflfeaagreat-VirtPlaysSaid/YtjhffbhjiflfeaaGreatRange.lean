/-
  A range over a function, its rounds counted: what comes in round k is known in the round. Nothing of the program stands here.
-/
import Derived.RangeFuncNested
import Derived.RangeFuncBound
import Derived.RangeFuncCalls
import Derived.RangeFuncLeaves
import Derived.Shelf.Abstract
import Derived.Shelf.RegionOpen
import Derived.WalkKit
import Derived.OwnWalkIn
import Derived.TacticsInMore
import Derived.LoopNIn
import Derived.LoopIn
import Derived.Test.YtjhffbhjiflfeaaGreatLib
import Derived.Test.YtjhffbhjiflfeaaGreatLib2
namespace Go.Proofs.YtjhffbhjiflfeaaGreat
set_option linter.unusedVariables false
set_option linter.unusedSimpArgs false
open Go.RowKit Go.Shelf

/-- What a loop over a function (or over a map) keeps its book in. -/
def isBook : Obj → Bool
  | .loop _ => true
  | .deferred _ => true
  | .mapIter _ _ _ _ => true
  | _ => false
/-- Below B, and wherever no book is kept, C is as A was; streams stay; no block goes. -/
structure Stays (B : Nat) (A C : World) : Prop where
  os : C.os = A.os
  tape : C.tape = A.tape
  output : C.output = A.output
  size : A.heap.size ≤ C.heap.size
  low : ∀ k, k < B → C.heap[k]? = A.heap[k]?
  kept : ∀ (k : Nat) (o : Obj), A.heap[k]? = some o → isBook o = false → C.heap[k]? = some o
/-- The two blocks in which the loop from B on keeps its book lie as they lay. -/
structure Holds (B : Nat) (A C : World) : Prop where
  lt : B + 1 < A.heap.size
  size : A.heap.size ≤ C.heap.size
  mark : C.heap[B]? = A.heap[B]?
  book : C.heap[B + 1]? = A.heap[B + 1]?

section
variable {B : Nat} {A C D w : World}
theorem Stays.refl (B : Nat) (A : World) : Stays B A A := ⟨rfl, rfl, rfl, Nat.le_refl _, fun _ _ => rfl, fun _ _ h _ => h⟩
theorem Stays.trans (h : Stays B A C) (k : Stays B C D) : Stays B A D :=
  ⟨k.os.trans h.os, k.tape.trans h.tape, k.output.trans h.output, Nat.le_trans h.size k.size, fun i hi => (k.low i hi).trans (h.low i hi), fun i o e ho => k.kept i o (h.kept i o e ho) ho⟩
theorem Stays.of_below (h : Below A.heap.size A C) (hB : B ≤ A.heap.size) : Stays B A C :=
  ⟨h.os, h.tape, h.output, h.size, fun k hk => h.block k (Nat.lt_of_lt_of_le hk hB), fun k o e _ => (h.block k (Array.getElem?_eq_some_iff.1 e).1).trans e⟩
theorem Stays.alloc (h : Stays B A C) (hB : B ≤ C.heap.size) (o : Obj) : Stays B A (C.alloc o) := h.trans (Stays.of_below ((Below.refl _ _).alloc (Nat.le_refl _) o) hB)
theorem Stays.putObj {l : Nat} {o : Obj} (o' : Obj) (hB : B ≤ l) (hl : A.heap[l]? = some o) (ho : isBook o = true) : Stays B A (A.putObj l o') :=
  ⟨rfl, rfl, rfl, by simp, fun k hk => World.putObj_heap_other (by omega), fun k u e hu => (World.putObj_heap_other (by rintro rfl; rw [hl] at e; cases e; rw [ho] at hu; cases hu)).trans e⟩
theorem Stays.mono {B' : Nat} (h : Stays B A C) (hB : B' ≤ B) : Stays B' A C := ⟨h.os, h.tape, h.output, h.size, fun k hk => h.low k (Nat.lt_of_lt_of_le hk hB), h.kept⟩
theorem Stays.below {n : Nat} (h : Stays B A C) (hn : n ≤ B) : Below n A C := ⟨h.os, h.tape, h.output, h.size, fun k hk => h.low k (Nat.lt_of_lt_of_le hk hn)⟩
theorem Blk.stays {b : Nat} {t : TypeId} {cs : Array Value} (h : Blk A b t cs) (hs : Stays B A C) : Blk C b t cs := hs.kept b _ h rfl
theorem below_stays {n : Nat} (h : Below n w A) (hs : Stays B A C) (hn : n ≤ B) : Below n w C := h.trans (hs.below hn)
theorem ownsRow_stays {base : Nat} {e : TypeId} {size n : Nat} {v : Value} {xs : List Value} (h : A.ownsRow base e size v n xs) (hs : Stays B A C) : C.ownsRow base e size v n xs := by
  obtain ⟨h1, h2⟩ := h
  refine ⟨h1, ?_⟩
  rcases h2 with h2 | ⟨g, cap, cur, hv, hg, hh, r⟩
  · exact Or.inl h2
  · exact Or.inr ⟨g, cap, cur, hv, hg, hs.kept _ _ hh rfl, r⟩
/-- A cell that no book keeps. -/
theorem cell_stays {p : Addr} {v : Value} (h : A.cell? p = some v) (hs : Stays B A C) : C.cell? p = some v := by
  rcases e : A.heap[p.block]? with _ | o
  · simp [World.cell?, e] at h
  · cases o with
    | cells cs t fz => rw [World.cell?_of_block ((hs.kept _ _ e rfl).trans e.symm)]; exact h
    | _ => simp [World.cell?, e] at h

theorem Holds.refl (h : B + 1 < A.heap.size) : Holds B A A := ⟨h, Nat.le_refl _, rfl, rfl⟩
theorem Holds.trans (h : Holds B A C) (k : Holds B C D) : Holds B A D := ⟨h.lt, Nat.le_trans h.size k.size, k.mark.trans h.mark, k.book.trans h.book⟩
theorem Holds.lt' (h : Holds B A C) : B + 1 < C.heap.size := Nat.lt_of_lt_of_le h.lt h.size
theorem Holds.next (h : Holds B A C) (k : Below C.heap.size C D) : Holds B A D := h.trans ⟨h.lt', k.size, k.block _ (by have := h.lt'; omega), k.block _ h.lt'⟩
theorem Holds.alloc (h : Holds B A C) (o : Obj) : Holds B A (C.alloc o) := h.next ((Below.refl _ _).alloc (Nat.le_refl _) o)
theorem Holds.set (h : Holds B A C) {p : Addr} (h1 : p.block ≠ B) (h2 : p.block ≠ B + 1) (u : Value) : Holds B A (C.setCell p u) :=
  h.trans ⟨h.lt', by simp, Below.heap_setCell _ _ _ _ (Ne.symm h1), Below.heap_setCell _ _ _ _ (Ne.symm h2)⟩
theorem Holds.drewN (h : Holds B A C) (n : Nat) : Holds B A (C.drewN n) := ⟨h.lt, h.size, h.mark, h.book⟩
theorem Holds.drew (h : Holds B A C) : Holds B A C.drew := ⟨h.lt, h.size, h.mark, h.book⟩
theorem Holds.fr {S : Nat → Prop} (h : Holds B A C) (k : Fr S C D) (h1 : ¬ S B) (h2 : ¬ S (B + 1)) : Holds B A D := h.trans ⟨h.lt', k.size, k.block _ (by have := h.lt'; omega) h1, k.block _ h.lt' h2⟩
theorem Holds.grown {row : Option Nat} (h : Holds B A C) (k : C.grownBy D row) (h1 : some B ≠ row) (h2 : some (B + 1) ≠ row) : Holds B A D := h.trans ⟨h.lt', k.size, k.block _ (by have := h.lt'; omega) h1, k.block _ h.lt' h2⟩
end

/-- **An iterator whose rounds are counted**: N rounds at most, in round k comes encs k; between two rounds S holds of the world. -/
def Yields (P : Program) (gf : Nat) (lb : Array Value) (N : Nat) (encs : Nat → Array Value) (S : World → Prop) : Prop :=
  ∀ (l : Nat) (J Jx : Nat → World → Prop) (W : World), (∀ k A C, J k A → Below A.heap.size A C → J k C) → (∀ k A C, Jx k A → Below A.heap.size A C → Jx k C) → (∀ k A, J k A → S A) →
    (∀ k W1, k < N → J k W1 → YieldAt Fence.wide 5 P l (encs k) W1 fun e W' => (e = .returned (.bool true) ∧ J (k + 1) W') ∨ (e = .returned (.bool false) ∧ Jx (k + 1) W')) →
    J 0 W → CallsIn Fence.wide 6 P gf (#[.func (.yield l) #[] #[]] ++ lb) W fun e W' => (∃ v, e = .returned v) ∧ (J N W' ∨ ∃ k, k ≤ N ∧ Jx k W')

/-- How a round may be left. -/
def roundEnd (B : Nat) (I : Nat → World → Prop) (Ix : Code → Nat → World → Prop) (k : Nat) (W : World) : Exit → Act → World → Prop
  | .normal, _, W' => Holds B W W' ∧ I k W'
  | .ret, _, W' => Holds B W W' ∧ Ix .ret k W'
  | .exit id, _, W' => Holds B W W' ∧ Ix (.exit id) k W'
  | .goto t, _, W' => Holds B W W' ∧ Ix (.goto t) k W'
  | .panic _, _, _ => False
  | .outgrown, _, _ => False

abbrev markOf (D : Nat) : Deferred := { target := .collected D, args := #[] }

set_option maxHeartbeats 1000000 in
/-- **The statement 'for .. := range g', its rounds counted.** -/
theorem wp_range {P : Program} {g : Operand} {ps : Array Tmp} {assign body : Code} {Q : Exit → Act → World → Prop} {a : Act} {w : World} {gf : Nat} {lb : Array Value} (hg : a.eval g = .func (.func gf) #[] lb)
    (eg : ∀ args w, (callFunc gf args).run P w = .ok (.enter gf args) w) {N : Nat} {encs : Nat → Array Value} {S : World → Prop} (hseq : Yields P gf lb N encs S) (hps : ∀ k, k < N → (encs k).size = ps.size)
    (I : Nat → World → Prop) (Ix : Code → Nat → World → Prop) (hI : ∀ k A C, I k A → Stays w.heap.size A C → I k C) (hIx : ∀ c k A C, Ix c k A → Stays w.heap.size A C → Ix c k C) (hIS : ∀ k A, I k A → S A) (h0 : I 0 w)
    (hround : ∀ k W, k < N → I k W → w.heap.size + 1 < W.heap.size → assign.wpIn (Fence.wide.inRound (w.heap.size + 1)) 5 P
      (Exit.then (fun a1 W1 => Holds w.heap.size W W1 ∧ ∀ W2, Stays w.heap.size W1 W2 → body.wpIn (Fence.wide.inRound (w.heap.size + 1)) 5 P (roundEnd w.heap.size I Ix (k + 1) W2) a1 W2) (fun _ _ _ => False))
      { tmps := (ps.zip (encs k)).foldl (fun t (p, v) => t.setIfInBounds p v) a.tmps, defers := [] } W)
    (hdone : ∀ W, I N W → W.heap[w.heap.size]? = some (.deferred (some [])) → Q .normal { a with defers := markOf w.heap.size :: a.defers } W)
    (hstop : ∀ c k W, k ≤ N → Ix c k W → W.heap[w.heap.size]? = some (.deferred (some [])) → c.wp P Q { a with defers := markOf w.heap.size :: a.defers } W) :
    (Code.rangeFunc g ps assign body).wp P Q a w := by
  refine (wpIn_wide (n := 7)).1 (wpIn_rangeFunc fun fn _ => ?_)
  obtain ⟨rec, hrec⟩ : ∃ rec : LoopState → Option Code → Loop, rec = fun st pe => { state := st, pending := pe, fn, tmps := a.tmps, params := ps, assign, body, defers := w.heap.size } := ⟨_, rfl⟩
  have hent := run_enterLoop_outer (P := P) (w := w) fn a.tmps ps assign body
  obtain ⟨W1, hW1⟩ : ∃ W1, (w.alloc (.deferred (some []))).alloc (.loop (rec .ready none)) = W1 := ⟨_, rfl⟩
  have hbw : Below w.heap.size w W1 := by rw [← hW1]; exact ((Below.refl _ w).alloc (Nat.le_refl _) _).alloc (by simp) _
  have hL1 : W1.heap[w.heap.size + 1]? = some (.loop (rec .ready none)) := by
    have h := World.alloc_heap_new (w.alloc (.deferred (some []))) (.loop (rec .ready none))
    rw [World.size_alloc, hW1] at h
    exact h
  have hK1 : W1.heap[w.heap.size]? = some (.deferred (some [])) := by
    rw [← hW1]
    exact (Below.heap_alloc _ _ _ (by simp)).trans (World.alloc_heap_new w _)
  -- the record, ready, and the block for what rounds defer
  let R : LoopState → Option Code → World → Prop := fun st pe W => W.heap[w.heap.size + 1]? = some (.loop (rec st pe)) ∧ W.heap[w.heap.size]? = some (.deferred (some []))
  have Rnext : ∀ {st pe A C}, R st pe A → Holds w.heap.size A C → R st pe C := fun h k => ⟨k.book.trans h.1, k.mark.trans h.2⟩
  have Rlt : ∀ {st pe A}, R st pe A → w.heap.size + 1 < A.heap.size := fun h => (Array.getElem?_eq_some_iff.1 h.1).1
  have Rput : ∀ {st pe A} (st' pe'), R st pe A → R st' pe' (A.putObj (w.heap.size + 1) (.loop (rec st' pe'))) ∧ Stays w.heap.size A (A.putObj (w.heap.size + 1) (.loop (rec st' pe'))) := fun {st pe A} st' pe' h =>
    ⟨⟨World.putObj_heap_same (Array.getElem?_eq_some_iff.1 h.1).1, (World.putObj_heap_other (by omega)).trans h.2⟩, Stays.putObj _ (by omega) h.1 rfl⟩
  refine ⟨w.heap.size + 1, [markOf w.heap.size], W1, { target := .fn (.func gf) lb, args := #[.func (.yield (w.heap.size + 1)) #[] #[]] }, W1, gf, #[.func (.yield (w.heap.size + 1)) #[] #[]] ++ lb, W1, ?_, ?_, fun _ _ => trivial, ?_, fun _ => by omega, ?_⟩
  · rw [← hW1, hrec]
    exact hent
  · simp only [resolve, hg]
    simp [go_sem]
  · simp [invoke, go_sem, eg]
  · refine (hseq (w.heap.size + 1) (fun k W => I k W ∧ R .ready none W ∧ w.heap.size ≤ W.heap.size) (fun k W => ∃ c, Ix c k W ∧ R .done (some c) W ∧ w.heap.size ≤ W.heap.size) W1 ?_ ?_ (fun k A h => hIS k A h.1) ?_ ⟨hI 0 _ _ h0 (Stays.of_below hbw (Nat.le_refl _)), ⟨hL1, hK1⟩, hbw.size⟩).mono ?_
    · rintro k A C ⟨h1, h2, h3⟩ hb
      exact ⟨hI k A C h1 (Stays.of_below hb h3), Rnext h2 ((Holds.refl (Rlt h2)).next hb), Nat.le_trans h3 hb.size⟩
    · rintro k A C ⟨c, h1, h2, h3⟩ hb
      exact ⟨c, hIx c k A C h1 (Stays.of_below hb h3), Rnext h2 ((Holds.refl (Rlt h2)).next hb), Nat.le_trans h3 hb.size⟩
    · rintro k W hk ⟨hi, hr, hs⟩
      have hy := run_yield (P := P) (args := encs k) hr.1 (by rw [hrec]; exact hps k hk)
      rw [hrec] at hy
      refine ⟨fn, _, assign, body, hy, roundIn_of_wpIn trivial (wpIn_mono (hround k W hk hi (by have := (Array.getElem?_eq_some_iff.1 hr.1).1; omega)) ?_)⟩
      clear hy
      rintro e a1 Wa hp
      cases e with
      | normal =>
        obtain ⟨hkf, hbody⟩ := hp
        have hra := Rnext hr hkf
        obtain ⟨hrb, hst⟩ := Rput .busy none hra
        have hbeg := run_beginRound (P := P) hra.1 (by rw [hrec])
        refine ⟨Wa.putObj (w.heap.size + 1) (.loop (rec .busy none)), by rw [hrec] at hbeg ⊢; exact hbeg, ?_⟩
        refine wpIn_mono (hbody _ hst) ?_
        have fin : ∀ (jump : Option Code) (W3 : World), Holds w.heap.size (Wa.putObj (w.heap.size + 1) (.loop (rec .busy none))) W3 →
            ∃ W4, (Instr.endRound (w.heap.size + 1) jump).run P W3 = .ok (.bool jump.isNone) W4 ∧ R (if jump.isNone then .ready else .done) jump W4 ∧ Stays w.heap.size W3 W4 ∧ w.heap.size ≤ W4.heap.size := fun jump W3 hk3 => by
          have h3 := Rnext hrb hk3
          have he := run_endRound (P := P) jump h3.1
          obtain ⟨h4, hs4⟩ := Rput (if jump.isNone then .ready else .done) jump h3
          refine ⟨_, ?_, h4, hs4, Nat.le_trans (Nat.le_trans (Nat.le_trans hs hkf.size) hst.size) (Nat.le_trans hk3.size hs4.size)⟩
          rw [hrec] at he ⊢
          exact he
        rintro e a3 W3 hp
        cases e with
        | normal =>
          obtain ⟨W4, hrun, h4, hs4, hz4⟩ := fin none W3 hp.1
          exact ⟨_, _, hrun, .inl ⟨rfl, hI _ _ _ hp.2 hs4, h4, hz4⟩⟩
        | ret =>
          obtain ⟨W4, hrun, h4, hs4, hz4⟩ := fin (some .ret) W3 hp.1
          exact ⟨_, _, hrun, .inr ⟨rfl, _, hIx _ _ _ _ hp.2 hs4, h4, hz4⟩⟩
        | exit id =>
          obtain ⟨W4, hrun, h4, hs4, hz4⟩ := fin (some (.exit id)) W3 hp.1
          exact ⟨_, _, hrun, .inr ⟨rfl, _, hIx _ _ _ _ hp.2 hs4, h4, hz4⟩⟩
        | goto t =>
          obtain ⟨W4, hrun, h4, hs4, hz4⟩ := fin (some (.goto t)) W3 hp.1
          exact ⟨_, _, hrun, .inr ⟨rfl, _, hIx _ _ _ _ hp.2 hs4, h4, hz4⟩⟩
        | panic ch => exact hp.elim
        | outgrown => exact hp.elim
      | exit id => exact hp.elim
      | goto t => exact hp.elim
      | ret => exact hp.elim
      | panic ch => exact hp.elim
      | outgrown => exact hp.elim
    · rintro e W2 ⟨⟨v, rfl⟩, (⟨hi, hr, hs⟩ | ⟨k, hk, c, hi, hr, hs⟩)⟩
      · have he := run_endLoop (P := P) hr.1 (by rw [hrec]; simp)
        rw [hrec] at he
        obtain ⟨hr4, hs4⟩ := Rput .exhausted none hr
        rw [hrec] at hr4 hs4
        exact ⟨none, _, he, hdone _ (hI _ _ _ hi hs4) hr4.2⟩
      · have he := run_endLoop (P := P) hr.1 (by rw [hrec]; simp)
        rw [hrec] at he
        obtain ⟨hr4, hs4⟩ := Rput .exhausted (some c) hr
        rw [hrec] at hr4 hs4
        exact ⟨some c, _, he, wpIn_wide.2 (hstop c k _ hk (hIx _ _ _ _ hi hs4) hr4.2)⟩

/-- What the body of a function must achieve that holds a range over a function. -/
def marksPost (P : Program) (fn : Func) (R : Ending → World → Prop) : Exit → Act → World → Prop := bodyPostM Fence.wide 7 P fn R
theorem calls_of_wp_marks {P : Program} {f : FuncId} {fn : Func} {c : Code} {args : Array Value} {w : World} {R : Ending → World → Prop} (hf : P.funcs[f]? = some fn) (hb : fn.body = some c)
    (h : c.wp P (marksPost P fn R) { tmps := args ++ Array.replicate (fn.ntmps - args.size) undef, defers := [] } w) : Calls P f args w R :=
  (callsIn_wide (n := 7)).1 (callsIn_of_wp_marks hf hb trivial (wpIn_wide.2 h) rfl)

theorem leaves_marks {P : Program} {fn : Func} {R : Ending → World → Prop} {tmps : Array Value} {B : Nat} : ∀ (Ds : List Nat) (w : World), (∀ D ∈ Ds, B ≤ D ∧ w.heap[D]? = some (.deferred (some []))) → Ds.Nodup →
    (∀ w', Stays B w w' → ∃ v, (results fn tmps).run P w' = .ok v w' ∧ R (.returned v) w') → LeavesInM Fence.wide 7 P fn tmps R (Ds.map markOf) .returning w
  | [], w, _, _, h => h w (Stays.refl _ _)
  | D :: Ds, w, hD, hn, h => by
    obtain ⟨hB, hk⟩ := hD D (List.mem_cons_self ..)
    have hs : Stays B w (w.putObj D (.deferred none)) := Stays.putObj _ hB hk rfl
    refine ⟨by simp, .inl ⟨D, _, rfl, run_takeDeferred hk, ?_⟩⟩
    refine leaves_marks Ds _ (fun E hE => ⟨(hD E (List.mem_cons_of_mem _ hE)).1, (World.putObj_heap_other ?_).trans (hD E (List.mem_cons_of_mem _ hE)).2⟩) (List.nodup_cons.1 hn).2 (fun w' hw => h w' (hs.trans hw))
    rintro rfl
    exact (List.nodup_cons.1 hn).1 hE

theorem marks_ret {P : Program} {fn : Func} {R : Ending → World → Prop} {a : Act} {w : World} {B : Nat} (Ds : List Nat) (hd : a.defers = Ds.map markOf) (hD : ∀ D ∈ Ds, B ≤ D ∧ w.heap[D]? = some (.deferred (some []))) (hn : Ds.Nodup)
    (h : ∀ w', Stays B w w' → ∃ v, (results fn a.tmps).run P w' = .ok v w' ∧ R (.returned v) w') : marksPost P fn R .ret a w := by
  show LeavesInM Fence.wide 7 P fn a.tmps R a.defers .returning w
  rw [hd]
  exact leaves_marks Ds w hD hn h
theorem marks_end {P : Program} {fn : Func} {R : Ending → World → Prop} {a : Act} {w : World} {B : Nat} (Ds : List Nat) (hd : a.defers = Ds.map markOf) (hD : ∀ D ∈ Ds, B ≤ D ∧ w.heap[D]? = some (.deferred (some []))) (hn : Ds.Nodup)
    (h : ∀ w', Stays B w w' → ∃ v, (results fn a.tmps).run P w' = .ok v w' ∧ R (.returned v) w') : marksPost P fn R .normal a w := by
  show LeavesInM Fence.wide 7 P fn a.tmps R a.defers .returning w
  rw [hd]
  exact leaves_marks Ds w hD hn h

/-- At the wide fence a round wants no depth. -/
theorem YieldAt.any {P : Program} {m m' l : Nat} {args : Array Value} {W : World} {R : Ending → World → Prop} (h : YieldAt Fence.wide m P l args W R) : YieldAt Fence.wide m' P l args W R := by
  obtain ⟨fn, tmps, assign, body, h1, h2, h3⟩ := h
  exact ⟨fn, tmps, assign, body, h1, h2, fun c cs _ => h3 c cs (room_wide _)⟩
theorem YieldAt.mono' {P : Program} {m l : Nat} {args : Array Value} {W : World} {R R' : Ending → World → Prop} (h : YieldAt Fence.wide m P l args W R) (hr : ∀ e w, R e w → R' e w) : YieldAt Fence.wide m P l args W R' := by
  obtain ⟨fn, tmps, assign, body, h1, h2⟩ := h
  exact ⟨fn, tmps, assign, body, h1, h2.mono hr⟩

end Go.Proofs.YtjhffbhjiflfeaaGreat
