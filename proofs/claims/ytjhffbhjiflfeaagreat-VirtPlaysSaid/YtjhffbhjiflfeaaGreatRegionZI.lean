/-
  RegionZ inside the wide fence: a region that draws its order and calls a loop's body. Nothing of the program stands here.
-/
import Derived.Test.YtjhffbhjiflfeaaGreatRegionZ
import Derived.Test.YtjhffbhjiflfeaaGreatRange
import Derived.Sort.BigQuietIn
import Derived.OwnWalkIn
namespace Go.Proofs.YtjhffbhjiflfeaaGreat
set_option linter.unusedVariables false
set_option linter.unusedSimpArgs false
open Go.RowKit

section
variable {n : Nat} {P : Program} {ops : Array Oper} {Q : Exit → Act → World → Prop} {md : Region.Mode} {S : World → Prop} {Z : List Nat}

theorem yieldsIf_wpOpI {i : Nat} {o : Oper} {v : Value} {a : Act} (hi : ops[i]? = some o) (hy : YieldsIf P ops S o v a)
    {K : Act → World → Prop} {w : World} (hS : S w) (h : K (a.put o.dst v) w) : wpOpIn Fence.wide n P ops Q i K a w := by
  unfold Go.wpOpIn
  simp only [hi]
  have hro : Fence.wide.round = none := rfl
  rcases hy with ⟨hw, hv⟩ | ⟨hw, rfl⟩
  · simp only [hw, if_true, Oper.wpIn, hro, Oper.semAt_none, hv w hS, Oper.uponIn]; exact ⟨fun _ _ => trivial, h⟩
  · simp only [hw, Bool.false_eq_true, if_false]; exact ⟨fun _ _ => trivial, h⟩

theorem wpOpI_putIf {j : Nat} {oi oj : Oper} {v : Value} (hj : ops[j]? = some oj) (hap : oi.apart ops oj = true)
    (hsi : ∀ cs b, oi.op ≠ .select cs b) (hsj : ∀ cs b, oj.op ≠ .select cs b)
    (hQ : ∀ c a w, Q (.panic c) (a.put oi.dst v) w → Q (.panic c) a w) {K : Act → World → Prop} {a : Act} {w : World}
    (hy : YieldsIf P ops S oi v a) (h : wpOpIn Fence.wide n P ops Q j K (a.put oi.dst v) w) :
    wpOpIn Fence.wide n P ops Q j (fun a' w' => YieldsIf P ops S oi v a' ∧ K (a'.put oi.dst v) w') a w := by
  have hro : Fence.wide.round = none := rfl
  obtain ⟨h1, h2, h3⟩ := Oper.apart_spec hap
  have keep : ∀ (a : Act), YieldsIf P ops S oi v a → ∀ u, YieldsIf P ops S oi v (a.put oj.dst u) := fun a hy u =>
    hy.of_same (execOp_put oi hsi a oj.dst u h3) (wanted_put oi a oj.dst u h3)
  have keepD : ∀ d, YieldsIf P ops S oi v { a with defers := d :: a.defers } := fun d => hy.of_same rfl rfl
  unfold wpOpIn at *
  simp only [hj] at *
  rw [wanted_put oj a oi.dst v h1] at h
  split
  · rename_i hw
    simp only [hw, if_true] at h
    unfold Oper.wpIn at *
    refine ⟨fun _ _ => trivial, ?_⟩
    have h := h.2
    rw [hro, Oper.semAt_none, execOp_put oj hsj a oi.dst v h1] at h
    rw [hro, Oper.semAt_none]
    generalize (execOp a.eval oj).run P w = r at *
    cases r with
    | ok x w' =>
      cases x <;> simp only [Oper.uponIn] at h ⊢
      case value u => exact ⟨keep a hy u, by rw [← Act.put_comm a v u h2]; exact h⟩
      case skip => exact ⟨keep a hy _, by rw [← Act.put_comm a v undef h2]; exact h⟩
      case defer d =>
        refine ⟨keep _ (keepD d) _, ?_⟩
        rw [← Act.put_comm _ v undef h2, ← Act.put_defers]
        exact h
      case enter f args =>
        refine ⟨h.1, CallsIn.mono h.2 fun e w'' he => ?_⟩
        cases e with
        | returned u => exact ⟨keep a hy u, by rw [← Act.put_comm a v u h2]; exact he⟩
        | panicked c => exact hQ _ _ _ he
        | outgrown => exact he
      case row row args => exact ⟨h.1, RowsIn.mono h.2 fun u w'' he => ⟨keep a hy u, by rw [← Act.put_comm a v u h2]; exact he⟩⟩
      case round l f tmps assign body =>
        refine ⟨h.1, RoundIn.mono h.2 fun e w'' he => ?_⟩
        cases e with
        | returned u => exact ⟨keep a hy u, by rw [← Act.put_comm a v u h2]; exact he⟩
        | panicked c => exact hQ _ _ _ he
        | outgrown => exact he
    | halt x w' =>
      cases x <;> simp only [Oper.uponIn] at h ⊢
      case panic u => exact hQ _ _ _ h
  · rename_i hw
    simp only [hw] at h
    exact ⟨fun _ _ => trivial, keep a hy _, by rw [← Act.put_comm a v undef h2]; exact h.2⟩

/-- Whatever order is picked; S holds behind each operation; behind one of Z it may end for good. -/
def wpAnyI (n : Nat) (P : Program) (md : Region.Mode) (ops : Array Oper) (Q : Exit → Act → World → Prop) (Z : List Nat) : Nat → (World → Prop) → Array Bool → Act → World → Prop
  | 0, _, l, a, w => Region.ready md ops l = [] ∧ Q .normal a w
  | k + 1, S, l, a, w => (Region.ready md ops l = [] → Q .normal a w) ∧ ∀ i ∈ Region.ready md ops l, wpOpIn Fence.wide n P ops Q i (fun a' w' => (S w' ∧ wpAnyI n P md ops Q Z k S (l.setIfInBounds i true) a' w') ∨ (i ∈ Z ∧ wpAnyI n P md ops Q Z k (fun _ => True) (l.setIfInBounds i true) a' w')) a w
theorem wpAnyIn_of_I : ∀ (k : Nat) (S : World → Prop) (l : Array Bool) (a : Act) (w : World), wpAnyI n P md ops Q Z k S l a w → wpAnyIn Fence.wide n P md ops Q k l a w := by
  intro k
  induction k with
  | zero => intro S l a w h; exact h
  | succ k ih => intro S l a w h; exact ⟨h.1, fun i hi => wpOpIn_mono (fun a' w' h' => h'.elim (fun q => ih _ _ a' w' q.2) (fun q => ih _ _ a' w' q.2)) (h.2 i hi)⟩

/-- What comes behind operation i, each link counted. -/
def depsOf (md : Region.Mode) (ops : Array Oper) (i : Nat) : List Nat :=
  (List.range ops.size).foldl (fun acc d => if ((ops[d]?).map fun o => o.after.any fun e => Region.binds md e && (e.on == i || acc.contains e.on)).getD false then d :: acc else acc) []
def behindAll (md : Region.Mode) (ops : Array Oper) (Z : List Nat) (listed : Array Bool) (i : Nat) (D : List Nat) : Bool :=
  (D.all fun d => (listed.getD d true == false) && ((ops[d]?).map fun o => o.after.any fun e => Region.binds md e && (e.on == i || D.contains e.on)).getD false) &&
  Z.all fun z => z == i || listed.getD z false || D.contains z
theorem behindAll_spec {listed : Array Bool} {i : Nat} {D : List Nat} (h : behindAll md ops Z listed i D = true) :
    (∀ d ∈ D, listed.getD d true = false ∧ ∃ o, ops[d]? = some o ∧ ∃ e ∈ o.after, Region.binds md e = true ∧ (e.on = i ∨ e.on ∈ D)) ∧ ∀ z ∈ Z, z = i ∨ listed.getD z false = true ∨ z ∈ D := by
  simp only [behindAll, Bool.and_eq_true] at h
  refine ⟨fun d hd => ?_, fun z hz => ?_⟩
  · have h1 := List.all_eq_true.1 h.1 d hd
    simp only [Bool.and_eq_true, beq_iff_eq] at h1
    refine ⟨h1.1, ?_⟩
    cases ho : ops[d]? with
    | none => rw [ho] at h1; simp at h1
    | some o =>
      rw [ho] at h1
      have h2 := h1.2
      simp only [Option.map_some, Option.getD_some] at h2
      obtain ⟨k, hk, h3⟩ := Array.any_eq_true.1 h2
      simp only [Bool.and_eq_true, Bool.or_eq_true, beq_iff_eq, List.contains_iff_mem] at h3
      exact ⟨o, rfl, _, Array.getElem_mem hk, h3.1, h3.2⟩
  · have h1 := List.all_eq_true.1 h.2 z hz
    simp only [Bool.or_eq_true, beq_iff_eq, List.contains_iff_mem] at h1
    rcases h1 with (h1 | h1) | h1
    · exact Or.inl h1
    · exact Or.inr (Or.inl h1)
    · exact Or.inr (Or.inr h1)
theorem wpAnyI_take {i : Nat} {oi : Oper} {v : Value} {fuel : Nat} {listed : Array Bool} {a : Act} {w : World} (hi : ops[i]? = some oi)
    (hs : Region.noSelect ops = true) (hf : Region.free md ops listed i = true) (hr : (Region.ready md ops listed).contains i = true) (hz : behindAll md ops Z listed i (depsOf md ops i) = true)
    (hQ : ∀ c a w, Q (.panic c) (a.put oi.dst v) w → Q (.panic c) a w) (hy : YieldsIf P ops S oi v a) (hS : S w)
    (h : wpAnyI n P md ops Q Z fuel S (listed.setIfInBounds i true) (a.put oi.dst v) w) : wpAnyI n P md ops Q Z (fuel + 1) S listed a w := by
  have sel := Region.noSelect_spec hs
  have apart0 := Region.free_spec (listed := listed) hi hf
  have hr0 : i ∈ Region.ready md ops listed := by simpa using hr
  obtain ⟨hD, hZ⟩ := behindAll_spec hz
  generalize depsOf md ops i = D at hD hZ
  clear hf hr hz
  induction fuel generalizing listed a w with
  | zero =>
    refine ⟨fun e => (by rw [e] at hr0; cases hr0), fun j hj => ?_⟩
    by_cases e : j = i
    · subst e; exact yieldsIf_wpOpI hi hy hS (Or.inl ⟨hS, h⟩)
    · have := ready_mono hj e
      rw [h.1] at this; cases this
  | succ fuel ih =>
    refine ⟨fun e => (by rw [e] at hr0; cases hr0), fun j hj => ?_⟩
    by_cases e : j = i
    · subst e; exact yieldsIf_wpOpI hi hy hS (Or.inl ⟨hS, h⟩)
    obtain ⟨ju, oj, hoj, jall⟩ := mem_ready.1 hj
    have iu := (mem_ready.1 hr0).1
    have jno : ∀ x ∈ oj.after, Region.binds md x = true → x.on ≠ i := by
      intro x hx hb ex
      have := jall x hx hb
      rw [ex, unlisted_false iu] at this
      cases this
    have jD : j ∉ D := by
      intro hjD
      obtain ⟨_, o, ho, x, hx, hb, ex⟩ := hD j hjD
      rw [hoj] at ho
      obtain rfl := Option.some.inj ho
      rcases ex with ex | ex
      · exact jno x hx hb ex
      · have h1 := jall x hx hb
        rw [unlisted_false (hD _ ex).1] at h1
        cases h1
    have jZ : j ∉ Z := by
      intro hjZ
      rcases hZ j hjZ with h1 | h1 | h1
      · exact e h1
      · rw [unlisted_false ju] at h1; cases h1
      · exact jD h1
    have step := wpOpI_putIf hoj (apart0 j oj hoj e ju jno) (fun cs b => sel i oi cs b hi) (fun cs b => sel j oj cs b hoj) hQ hy (h.2 j (ready_mono hj e))
    refine wpOpIn_mono (fun a' w' q => ?_) step
    rcases q with ⟨q1, q2 | q2⟩
    rotate_left
    · exact absurd q2.1 jZ
    refine Or.inl ⟨q2.1, ?_⟩
    refine ih q1 q2.1 ?_ ?_ (ready_mono hr0 (Ne.symm e)) ?_ ?_
    · rw [Array.setIfInBounds_comm _ _ e]
      exact q2.2
    · intro k ok hk hki ku kno
      refine apart0 k ok hk hki ?_ kno
      by_cases hjk : j = k
      · subst hjk; exact ju
      · rw [getD_set_ne true hjk] at ku; exact ku
    · intro d hd
      refine ⟨?_, (hD d hd).2⟩
      rw [getD_set_ne true (fun (h : j = d) => jD (h ▸ hd))]
      exact (hD d hd).1
    · intro z hz
      rcases hZ z hz with h1 | h1 | h1
      · exact Or.inl h1
      · exact Or.inr (Or.inl (by rw [getD_set_ne false (fun (h : j = z) => jZ (h ▸ hz))]; exact h1))
      · exact Or.inr (Or.inr h1)
theorem wpAnyI_done {listed : Array Bool} {a : Act} {w : World} (hr : Region.ready md ops listed = []) (h : Q .normal a w) : ∀ fuel, wpAnyI n P md ops Q Z fuel S listed a w
  | 0 => ⟨hr, h⟩
  | _ + 1 => ⟨fun _ => h, by rw [hr]; simp⟩
/-- One operation alone may come up. -/
theorem wpAnyI_one {i : Nat} {o : Oper} {fuel : Nat} {listed : Array Bool} {a : Act} {w : World} (hr : Region.ready md ops listed = [i]) (ho : ops[i]? = some o)
    (hw : Region.wanted o (yielded ops a.tmps) = true)
    (h : ∀ K' : Act → World → Prop, Shut (∀ a w, ((S w ∧ wpAnyI n P md ops Q Z fuel S (listed.setIfInBounds i true) a w) ∨ (i ∈ Z ∧ wpAnyI n P md ops Q Z fuel (fun _ => True) (listed.setIfInBounds i true) a w)) → K' a w) → Oper.wpIn Fence.wide n P o a w K' Q) : wpAnyI n P md ops Q Z (fuel + 1) S listed a w := by
  refine ⟨fun e => (by rw [hr] at e; cases e), fun j hj => ?_⟩
  rw [hr] at hj
  obtain rfl := List.mem_singleton.1 hj
  unfold wpOpIn
  rw [ho]
  simp only [hw, if_true]
  exact h _ (fun a w hW => hW)
theorem wpIn_region_Z (Z : List Nat) (S : World → Prop) {id : Nat} {a : Act} {w : World} (hm : P.follows .mixedOrders = true) (hS : S w.drew)
    (h : S w.drew → wpAnyI n P .any ops Q Z ops.size S (Array.replicate ops.size false) a w.drew) : (Code.region id ops true).wpIn Fence.wide n P Q a w :=
  wpIn_region_any hm (wpAnyIn_of_I _ _ _ _ _ (h hS))
end
end Go.Proofs.YtjhffbhjiflfeaaGreat

/-!
  A region that draws its order, in a round of a range over a function: its operations leave the world alone but for draws. Nothing of the program stands here.
-/
namespace Go.Proofs.YtjhffbhjiflfeaaGreat
set_option linter.unusedVariables false
set_option linter.unusedSimpArgs false

section
variable {F : Fence} {n : Nat} {P : Program} {ops : Array Oper} {md : Region.Mode} {C : World → Prop}

/-- No operation is a defer statement. -/
def plainOp (o : Oper) : Bool := match o.op with | .defer _ => false | _ => true
theorem plainOp_spec {o : Oper} (h : plainOp o = true) : ∀ c, o.op ≠ .defer c := by
  intro c e
  simp [plainOp, e] at h

theorem wpIn_of_quiet_plain {o : Oper} {a : Act} {K : Act → Prop} {K' : Act → World → Prop} {Q' : Exit → Act → World → Prop} {w : World} (hp : plainOp o = true) (hw : C w) (h : ∀ a w', C w' → K a → K' a w')
    (ha : o.askedIn F P a C) (hh : o.quietIn F n P a C K) : o.wpIn F n P a w K' Q' := by
  obtain ⟨v, h1, h2⟩ := hh
  have h3 := h1 w hw
  unfold Oper.quietAtIn at h3
  unfold Oper.wpIn
  refine ⟨ha w hw, ?_⟩
  rw [Oper.semAt_plain F _ _ (plainOp_spec hp)]
  generalize (execOp a.eval o).run P w = r at *
  cases r with
  | ok x w' =>
    cases x <;> simp only [Oper.quietUponIn] at h3 <;> simp only [Oper.uponIn]
    case value u =>
      obtain ⟨e1, e2⟩ := h3
      rw [e1, e2]
      exact h _ _ hw h2
    case skip =>
      obtain ⟨e1, e2⟩ := h3
      rw [e1, ← e2]
      exact h _ _ hw h2
    case enter f args =>
      obtain ⟨e1, hd, hc⟩ := h3
      rw [e1]
      exact ⟨hd, hc.mono fun e w'' ⟨he, hw''⟩ => by subst he; exact h _ _ hw'' h2⟩
  | halt x w' => simp only [Oper.quietUponIn] at h3

theorem wpOpIn_of_qOpIn_plain {i : Nat} {a : Act} {K : Act → Prop} {K' : Act → World → Prop} {Q' : Exit → Act → World → Prop} {w : World} (hp : ops.all plainOp = true) (hC : C w) (h : ∀ a w', C w' → K a → K' a w')
    (hh : qOpIn F n P ops C i K a) : wpOpIn F n P ops Q' i K' a w := by
  unfold qOpIn at hh
  unfold wpOpIn
  split
  · rename_i ho; simp only [ho] at hh; exact h _ _ hC hh
  · rename_i o ho
    simp only [ho] at hh
    obtain ⟨ha, hh⟩ := hh
    have hpo : plainOp o = true := by
      obtain ⟨hlt, e⟩ := Array.getElem?_eq_some_iff.1 ho
      have := (Array.all_eq_true.1 hp) i hlt
      rw [e] at this
      exact this
    split
    · rename_i hw; simp only [hw, if_true] at hh; exact wpIn_of_quiet_plain hpo hC h ha hh
    · rename_i hw; simp only [hw] at hh; exact ⟨ha w hC, h _ _ hC hh⟩

theorem wpAnyIn_of_quiet_plain {Q : Act → Prop} {Q' : Exit → Act → World → Prop} (hp : ops.all plainOp = true) (hQ : ∀ a w, C w → Q a → Q' .normal a w) : ∀ (fuel : Nat) (listed : Array Bool) (a : Act) (w : World), C w →
    wpAnyQIn F n P md ops C Q fuel listed a → wpAnyIn F n P md ops Q' fuel listed a w
  | 0, _, _, _, hw, h => ⟨h.1, hQ _ _ hw h.2⟩
  | fuel + 1, _, _, _, hw, h => ⟨fun h0 => hQ _ _ hw (h.1 h0), fun i hi => wpOpIn_of_qOpIn_plain hp hw (fun a' w' hw' => wpAnyIn_of_quiet_plain hp hQ fuel _ a' w' hw') (h.2 i hi)⟩

/-- One walk of the lexical order serves every order, in a round too. -/
theorem wpIn_region_round {id : Nat} {Q : Exit → Act → World → Prop} {a : Act} {w : World} {l : List Oper} (hp : l.toArray.all plainOp = true) (hm : P.follows .mixedOrders = true) (hB : Region.lexB .any l.toArray = true)
    (h : wpQuietIn F n P l.toArray (fun w' => ∃ n, w' = w.drewN n) (fun a' => ∀ w', (∃ n, w' = w.drewN n) → Q .normal a' w') l a) : (Code.region id l.toArray true).wpIn F n P Q a w := by
  simp only [Region.lexB, Bool.and_eq_true] at hB
  refine wpIn_region_any hm (wpAnyIn_of_quiet_plain (C := fun w' => ∃ n, w' = w.drewN n) (Q := fun a' => ∀ w', (∃ n, w' = w.drewN n) → Q .normal a' w') hp (fun _ w' hw' h => h w' hw') _ _ _ _ ⟨1, rfl⟩ ?_)
  have := wpAnyQIn_lex (F := F) (n := n) (C := fun w' => ∃ n, w' = w.drewN n) (md := .any) hB.1 l 0 (Array.replicate l.toArray.size false) a (by simp) (by simpa using hB.2) h
  simpa using this
end

end Go.Proofs.YtjhffbhjiflfeaaGreat

/-!
  RegionZ in a round of a range over a function: a region that draws its order and calls functions. Nothing of the program stands here.
-/
namespace Go.Proofs.YtjhffbhjiflfeaaGreat
set_option linter.unusedVariables false
set_option linter.unusedSimpArgs false
open Go.RowKit

section
variable {n : Nat} {P : Program} {ops : Array Oper} {Q : Exit → Act → World → Prop} {md : Region.Mode} {S : World → Prop} {Z : List Nat} {R : Nat}

theorem yieldsIf_wpOpR {i : Nat} {o : Oper} {v : Value} {a : Act} (hp : plainOp o = true) (hi : ops[i]? = some o) (hy : YieldsIf P ops S o v a)
    {K : Act → World → Prop} {w : World} (hS : S w) (h : K (a.put o.dst v) w) : wpOpIn (Fence.wide.inRound R) n P ops Q i K a w := by
  unfold Go.wpOpIn
  simp only [hi]
  rcases hy with ⟨hw, hv⟩ | ⟨hw, rfl⟩
  · simp only [hw, if_true, Oper.wpIn, Oper.semAt_plain (Fence.wide.inRound R) _ _ (plainOp_spec hp), hv w hS, Oper.uponIn]; exact ⟨fun _ _ => trivial, h⟩
  · simp only [hw, Bool.false_eq_true, if_false]; exact ⟨fun _ _ => trivial, h⟩

theorem wpOpR_putIf {j : Nat} {oi oj : Oper} {v : Value} (hp : plainOp oj = true) (hj : ops[j]? = some oj) (hap : oi.apart ops oj = true)
    (hsi : ∀ cs b, oi.op ≠ .select cs b) (hsj : ∀ cs b, oj.op ≠ .select cs b)
    (hQ : ∀ c a w, Q (.panic c) (a.put oi.dst v) w → Q (.panic c) a w) {K : Act → World → Prop} {a : Act} {w : World}
    (hy : YieldsIf P ops S oi v a) (h : wpOpIn (Fence.wide.inRound R) n P ops Q j K (a.put oi.dst v) w) :
    wpOpIn (Fence.wide.inRound R) n P ops Q j (fun a' w' => YieldsIf P ops S oi v a' ∧ K (a'.put oi.dst v) w') a w := by
  obtain ⟨h1, h2, h3⟩ := Oper.apart_spec hap
  have keep : ∀ (a : Act), YieldsIf P ops S oi v a → ∀ u, YieldsIf P ops S oi v (a.put oj.dst u) := fun a hy u =>
    hy.of_same (execOp_put oi hsi a oj.dst u h3) (wanted_put oi a oj.dst u h3)
  have keepD : ∀ d, YieldsIf P ops S oi v { a with defers := d :: a.defers } := fun d => hy.of_same rfl rfl
  unfold wpOpIn at *
  simp only [hj] at *
  rw [wanted_put oj a oi.dst v h1] at h
  split
  · rename_i hw
    simp only [hw, if_true] at h
    unfold Oper.wpIn at *
    refine ⟨fun _ _ => trivial, ?_⟩
    have h := h.2
    rw [Oper.semAt_plain (Fence.wide.inRound R) _ _ (plainOp_spec hp), execOp_put oj hsj a oi.dst v h1] at h
    rw [Oper.semAt_plain (Fence.wide.inRound R) _ _ (plainOp_spec hp)]
    generalize (execOp a.eval oj).run P w = r at *
    cases r with
    | ok x w' =>
      cases x <;> simp only [Oper.uponIn] at h ⊢
      case value u => exact ⟨keep a hy u, by rw [← Act.put_comm a v u h2]; exact h⟩
      case skip => exact ⟨keep a hy _, by rw [← Act.put_comm a v undef h2]; exact h⟩
      case defer d =>
        refine ⟨keep _ (keepD d) _, ?_⟩
        rw [← Act.put_comm _ v undef h2, ← Act.put_defers]
        exact h
      case enter f args =>
        refine ⟨h.1, CallsIn.mono h.2 fun e w'' he => ?_⟩
        cases e with
        | returned u => exact ⟨keep a hy u, by rw [← Act.put_comm a v u h2]; exact he⟩
        | panicked c => exact hQ _ _ _ he
        | outgrown => exact he
      case row row args => exact ⟨h.1, RowsIn.mono h.2 fun u w'' he => ⟨keep a hy u, by rw [← Act.put_comm a v u h2]; exact he⟩⟩
      case round l f tmps assign body =>
        refine ⟨h.1, RoundIn.mono h.2 fun e w'' he => ?_⟩
        cases e with
        | returned u => exact ⟨keep a hy u, by rw [← Act.put_comm a v u h2]; exact he⟩
        | panicked c => exact hQ _ _ _ he
        | outgrown => exact he
    | halt x w' =>
      cases x <;> simp only [Oper.uponIn] at h ⊢
      case panic u => exact hQ _ _ _ h
  · rename_i hw
    simp only [hw] at h
    exact ⟨fun _ _ => trivial, keep a hy _, by rw [← Act.put_comm a v undef h2]; exact h.2⟩

/-- Whatever order is picked; S holds behind each operation; behind one of Z it may end for good. -/
def wpAnyR (R n : Nat) (P : Program) (md : Region.Mode) (ops : Array Oper) (Q : Exit → Act → World → Prop) (Z : List Nat) : Nat → (World → Prop) → Array Bool → Act → World → Prop
  | 0, _, l, a, w => Region.ready md ops l = [] ∧ Q .normal a w
  | k + 1, S, l, a, w => (Region.ready md ops l = [] → Q .normal a w) ∧ ∀ i ∈ Region.ready md ops l, wpOpIn (Fence.wide.inRound R) n P ops Q i (fun a' w' => (S w' ∧ wpAnyR R n P md ops Q Z k S (l.setIfInBounds i true) a' w') ∨ (i ∈ Z ∧ wpAnyR R n P md ops Q Z k (fun _ => True) (l.setIfInBounds i true) a' w')) a w
theorem wpAnyIn_of_R : ∀ (k : Nat) (S : World → Prop) (l : Array Bool) (a : Act) (w : World), wpAnyR R n P md ops Q Z k S l a w → wpAnyIn (Fence.wide.inRound R) n P md ops Q k l a w := by
  intro k
  induction k with
  | zero => intro S l a w h; exact h
  | succ k ih => intro S l a w h; exact ⟨h.1, fun i hi => wpOpIn_mono (fun a' w' h' => h'.elim (fun q => ih _ _ a' w' q.2) (fun q => ih _ _ a' w' q.2)) (h.2 i hi)⟩

theorem plainAt {ops : Array Oper} (hp : ops.all plainOp = true) {i : Nat} {o : Oper} (ho : ops[i]? = some o) : plainOp o = true := by
  obtain ⟨hlt, e⟩ := Array.getElem?_eq_some_iff.1 ho
  have := (Array.all_eq_true.1 hp) i hlt
  rw [e] at this
  exact this
theorem wpAnyR_take {i : Nat} {oi : Oper} {v : Value} {fuel : Nat} {listed : Array Bool} {a : Act} {w : World} (hi : ops[i]? = some oi)
    (hp : ops.all plainOp = true) (hs : Region.noSelect ops = true) (hf : Region.free md ops listed i = true) (hr : (Region.ready md ops listed).contains i = true) (hz : behindAll md ops Z listed i (depsOf md ops i) = true)
    (hQ : ∀ c a w, Q (.panic c) (a.put oi.dst v) w → Q (.panic c) a w) (hy : YieldsIf P ops S oi v a) (hS : S w)
    (h : wpAnyR R n P md ops Q Z fuel S (listed.setIfInBounds i true) (a.put oi.dst v) w) : wpAnyR R n P md ops Q Z (fuel + 1) S listed a w := by
  have sel := Region.noSelect_spec hs
  have apart0 := Region.free_spec (listed := listed) hi hf
  have hr0 : i ∈ Region.ready md ops listed := by simpa using hr
  obtain ⟨hD, hZ⟩ := behindAll_spec hz
  generalize depsOf md ops i = D at hD hZ
  clear hf hr hz
  induction fuel generalizing listed a w with
  | zero =>
    refine ⟨fun e => (by rw [e] at hr0; cases hr0), fun j hj => ?_⟩
    by_cases e : j = i
    · subst e; exact yieldsIf_wpOpR (plainAt hp hi) hi hy hS (Or.inl ⟨hS, h⟩)
    · have := ready_mono hj e
      rw [h.1] at this; cases this
  | succ fuel ih =>
    refine ⟨fun e => (by rw [e] at hr0; cases hr0), fun j hj => ?_⟩
    by_cases e : j = i
    · subst e; exact yieldsIf_wpOpR (plainAt hp hi) hi hy hS (Or.inl ⟨hS, h⟩)
    obtain ⟨ju, oj, hoj, jall⟩ := mem_ready.1 hj
    have iu := (mem_ready.1 hr0).1
    have jno : ∀ x ∈ oj.after, Region.binds md x = true → x.on ≠ i := by
      intro x hx hb ex
      have := jall x hx hb
      rw [ex, unlisted_false iu] at this
      cases this
    have jD : j ∉ D := by
      intro hjD
      obtain ⟨_, o, ho, x, hx, hb, ex⟩ := hD j hjD
      rw [hoj] at ho
      obtain rfl := Option.some.inj ho
      rcases ex with ex | ex
      · exact jno x hx hb ex
      · have h1 := jall x hx hb
        rw [unlisted_false (hD _ ex).1] at h1
        cases h1
    have jZ : j ∉ Z := by
      intro hjZ
      rcases hZ j hjZ with h1 | h1 | h1
      · exact e h1
      · rw [unlisted_false ju] at h1; cases h1
      · exact jD h1
    have step := wpOpR_putIf (plainAt hp hoj) hoj (apart0 j oj hoj e ju jno) (fun cs b => sel i oi cs b hi) (fun cs b => sel j oj cs b hoj) hQ hy (h.2 j (ready_mono hj e))
    refine wpOpIn_mono (fun a' w' q => ?_) step
    rcases q with ⟨q1, q2 | q2⟩
    rotate_left
    · exact absurd q2.1 jZ
    refine Or.inl ⟨q2.1, ?_⟩
    refine ih q1 q2.1 ?_ ?_ (ready_mono hr0 (Ne.symm e)) ?_ ?_
    · rw [Array.setIfInBounds_comm _ _ e]
      exact q2.2
    · intro k ok hk hki ku kno
      refine apart0 k ok hk hki ?_ kno
      by_cases hjk : j = k
      · subst hjk; exact ju
      · rw [getD_set_ne true hjk] at ku; exact ku
    · intro d hd
      refine ⟨?_, (hD d hd).2⟩
      rw [getD_set_ne true (fun (h : j = d) => jD (h ▸ hd))]
      exact (hD d hd).1
    · intro z hz
      rcases hZ z hz with h1 | h1 | h1
      · exact Or.inl h1
      · exact Or.inr (Or.inl (by rw [getD_set_ne false (fun (h : j = z) => jZ (h ▸ hz))]; exact h1))
      · exact Or.inr (Or.inr h1)
theorem wpAnyR_done {listed : Array Bool} {a : Act} {w : World} (hr : Region.ready md ops listed = []) (h : Q .normal a w) : ∀ fuel, wpAnyR R n P md ops Q Z fuel S listed a w
  | 0 => ⟨hr, h⟩
  | _ + 1 => ⟨fun _ => h, by rw [hr]; simp⟩
/-- One operation alone may come up. -/
theorem wpAnyR_one {i : Nat} {o : Oper} {fuel : Nat} {listed : Array Bool} {a : Act} {w : World} (hr : Region.ready md ops listed = [i]) (ho : ops[i]? = some o)
    (hw : Region.wanted o (yielded ops a.tmps) = true)
    (h : ∀ K' : Act → World → Prop, Shut (∀ a w, ((S w ∧ wpAnyR R n P md ops Q Z fuel S (listed.setIfInBounds i true) a w) ∨ (i ∈ Z ∧ wpAnyR R n P md ops Q Z fuel (fun _ => True) (listed.setIfInBounds i true) a w)) → K' a w) → Oper.wpIn (Fence.wide.inRound R) n P o a w K' Q) : wpAnyR R n P md ops Q Z (fuel + 1) S listed a w := by
  refine ⟨fun e => (by rw [hr] at e; cases e), fun j hj => ?_⟩
  rw [hr] at hj
  obtain rfl := List.mem_singleton.1 hj
  unfold wpOpIn
  rw [ho]
  simp only [hw, if_true]
  exact h _ (fun a w hW => hW)
theorem wpIn_region_ZR (Z : List Nat) (S : World → Prop) {id : Nat} {a : Act} {w : World} (hm : P.follows .mixedOrders = true) (hS : S w.drew)
    (h : S w.drew → wpAnyR R n P .any ops Q Z ops.size S (Array.replicate ops.size false) a w.drew) : (Code.region id ops true).wpIn (Fence.wide.inRound R) n P Q a w :=
  wpIn_region_any hm (wpAnyIn_of_R _ _ _ _ _ (h hS))
end
end Go.Proofs.YtjhffbhjiflfeaaGreat
