/-
  Z-regions where Z waits for what is taken over others that have not come up yet.
-/
import Derived.Test.YtjhffbhjiflfeaaGreatRegionZ
namespace Go.Proofs.YtjhffbhjiflfeaaGreat
set_option linter.unusedVariables false
set_option linter.unusedSimpArgs false
open Go.RowKit

section
variable {P : Program} {ops : Array Oper} {Q : Exit → Act → World → Prop} {md : Region.Mode} {S : World → Prop} {Z : List Nat}
/-- z waits for i. -/
def direct (md : Region.Mode) (ops : Array Oper) (z i : Nat) : Bool := ((ops[z]?).map fun o => o.after.any fun e => Region.binds md e && e.on == i).getD false
theorem direct_spec {z i : Nat} (h : direct md ops z i = true) : ∃ o, ops[z]? = some o ∧ ∃ e ∈ o.after, Region.binds md e = true ∧ e.on = i := by
  unfold direct at h
  cases ho : ops[z]? with
  | none => rw [ho] at h; simp at h
  | some o =>
    rw [ho] at h
    simp only [Option.map_some, Option.getD_some] at h
    obtain ⟨k, hk, h3⟩ := Array.any_eq_true.1 h
    simp only [Bool.and_eq_true, beq_iff_eq] at h3
    exact ⟨o, rfl, _, Array.getElem_mem hk, h3.1, h3.2⟩
/-- z waits for i, over others that are not listed. -/
inductive Waits (md : Region.Mode) (ops : Array Oper) (l : Array Bool) : Nat → Nat → Prop
  | base {z i : Nat} : direct md ops z i = true → Waits md ops l z i
  | step {z m i : Nat} : direct md ops z m = true → l.getD m true = false → Waits md ops l m i → Waits md ops l z i
def waitsB (md : Region.Mode) (ops : Array Oper) (l : Array Bool) : Nat → Nat → Nat → Bool
  | 0, z, i => direct md ops z i
  | k + 1, z, i => direct md ops z i || (List.range ops.size).any fun m => direct md ops z m && (!l.getD m true) && waitsB md ops l k m i
theorem waits_of {l : Array Bool} : ∀ {k z i : Nat}, waitsB md ops l k z i = true → Waits md ops l z i
  | 0, z, i, h => .base h
  | k + 1, z, i, h => by
    unfold waitsB at h
    rw [Bool.or_eq_true] at h
    rcases h with h | h
    · exact .base h
    · obtain ⟨m, -, hm⟩ := List.any_eq_true.1 h
      simp only [Bool.and_eq_true, Bool.not_eq_true'] at hm
      exact .step hm.1.1 hm.1.2 (waits_of hm.2)
theorem direct_ready {l : Array Bool} {z i : Nat} (h : direct md ops z i = true) (hi : l.getD i true = false) : z ∉ Region.ready md ops l := by
  intro hz
  obtain ⟨o, ho, e, he, hb, rfl⟩ := direct_spec h
  obtain ⟨-, o', ho', hall⟩ := mem_ready.1 hz
  rw [ho] at ho'
  obtain rfl := Option.some.inj ho'
  have := hall e he hb
  rw [unlisted_false hi] at this
  cases this
theorem Waits.ready {l : Array Bool} {z i : Nat} (h : Waits md ops l z i) (hi : l.getD i true = false) : z ∉ Region.ready md ops l := by
  cases h with
  | base h => exact direct_ready h hi
  | step h hm _ => exact direct_ready h hm
theorem Waits.set {l : Array Bool} {z i j : Nat} (h : Waits md ops l z i) (hi : l.getD i true = false) (hj : j ∈ Region.ready md ops l) : Waits md ops (l.setIfInBounds j true) z i := by
  induction h with
  | base h => exact .base h
  | step h hm hw ih =>
    refine .step h ?_ (ih hi)
    rename_i m _
    by_cases e : j = m
    · subst e
      exact absurd hj (hw.ready hi)
    · rw [getD_set_ne true e]
      exact hm
def behindC (md : Region.Mode) (ops : Array Oper) (Z : List Nat) (l : Array Bool) (i : Nat) : Bool := Z.all fun z => waitsB md ops l 8 z i
theorem wpAnyZ_takeW {i : Nat} {oi : Oper} {v : Value} {fuel : Nat} {listed : Array Bool} {a : Act} {w : World} (hi : ops[i]? = some oi)
    (hs : Region.noSelect ops = true) (hf : Region.free md ops listed i = true) (hr : (Region.ready md ops listed).contains i = true) (hz : ∀ z ∈ Z, Waits md ops listed z i)
    (hQ : ∀ c a w, Q (.panic c) (a.put oi.dst v) w → Q (.panic c) a w) (hy : YieldsIf P ops S oi v a) (hS : S w)
    (h : wpAnyZ P md ops Q S Z fuel (listed.setIfInBounds i true) (a.put oi.dst v) w) : wpAnyZ P md ops Q S Z (fuel + 1) listed a w := by
  have sel := Region.noSelect_spec hs
  have apart0 := Region.free_spec (listed := listed) hi hf
  have hr0 : i ∈ Region.ready md ops listed := by simpa using hr
  clear hf hr
  induction fuel generalizing listed a w with
  | zero =>
    refine ⟨fun e => (by rw [e] at hr0; cases hr0), fun j hj => ?_⟩
    by_cases e : j = i
    · subst e; exact hy.wpOp hi hS ⟨fun _ => hS, h⟩
    · have := ready_mono hj e
      rw [h.1] at this; cases this
  | succ fuel ih =>
    refine ⟨fun e => (by rw [e] at hr0; cases hr0), fun j hj => ?_⟩
    by_cases e : j = i
    · subst e; exact hy.wpOp hi hS ⟨fun _ => hS, h⟩
    obtain ⟨ju, oj, hoj, jall⟩ := mem_ready.1 hj
    have iu := (mem_ready.1 hr0).1
    have jno : ∀ x ∈ oj.after, Region.binds md x = true → x.on ≠ i := by
      intro x hx hb ex
      have := jall x hx hb
      rw [ex, unlisted_false iu] at this
      cases this
    have jZ : j ∉ Z := fun hjZ => (hz j hjZ).ready iu hj
    have step := wpOp_putIf hoj (apart0 j oj hoj e ju jno) (fun cs b => sel i oi cs b hi) (fun cs b => sel j oj cs b hoj) hQ hy (h.2 j (ready_mono hj e))
    refine wpOp_mono (fun a' w' q => ⟨q.2.1, ?_⟩) step
    refine ih (fun z hzZ => (hz z hzZ).set iu hj) q.1 (q.2.1 jZ) ?_ ?_ (ready_mono hr0 (Ne.symm e))
    · rw [Array.setIfInBounds_comm _ _ e]
      exact q.2.2
    · intro k ok hk hki ku kno
      refine apart0 k ok hk hki ?_ kno
      by_cases hjk : j = k
      · subst hjk; exact ju
      · rw [getD_set_ne true hjk] at ku; exact ku
theorem wpAnyZ_takeC {i : Nat} {oi : Oper} {v : Value} {fuel : Nat} {listed : Array Bool} {a : Act} {w : World} (hi : ops[i]? = some oi)
    (hs : Region.noSelect ops = true) (hf : Region.free md ops listed i = true) (hr : (Region.ready md ops listed).contains i = true) (hz : behindC md ops Z listed i = true)
    (hQ : ∀ c a w, Q (.panic c) (a.put oi.dst v) w → Q (.panic c) a w) (hy : YieldsIf P ops S oi v a) (hS : S w)
    (h : wpAnyZ P md ops Q S Z fuel (listed.setIfInBounds i true) (a.put oi.dst v) w) : wpAnyZ P md ops Q S Z (fuel + 1) listed a w :=
  wpAnyZ_takeW hi hs hf hr (fun z hzZ => waits_of (List.all_eq_true.1 hz z hzZ)) hQ hy hS h
end

end Go.Proofs.YtjhffbhjiflfeaaGreat
