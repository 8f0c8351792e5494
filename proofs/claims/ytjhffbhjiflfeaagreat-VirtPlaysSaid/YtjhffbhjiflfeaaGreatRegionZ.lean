/-
  A region that draws its order, of which some operations, Z, come behind all that is taken first: what is held need not be shown behind those. And words on rows that grow. Nothing of the program stands here.
-/
import Derived.Test.YtjhffbhjiflfeaaGreatLib2
import Derived.Maps.AppendAt
namespace Go.Proofs.YtjhffbhjiflfeaaGreat
set_option linter.unusedVariables false
set_option linter.unusedSimpArgs false
open Go.RowKit

section
variable {P : Program} {ops : Array Oper} {Q : Exit → Act → World → Prop} {md : Region.Mode} {S : World → Prop} {Z : List Nat}

/-- Whatever order is picked; S holds behind each operation outside Z. -/
def wpAnyZ (P : Program) (md : Region.Mode) (ops : Array Oper) (Q : Exit → Act → World → Prop) (S : World → Prop) (Z : List Nat) : Nat → Array Bool → Act → World → Prop
  | 0, l, a, w => Region.ready md ops l = [] ∧ Q .normal a w
  | k + 1, l, a, w => (Region.ready md ops l = [] → Q .normal a w) ∧ ∀ i ∈ Region.ready md ops l, wpOp P ops Q i (fun a' w' => (i ∉ Z → S w') ∧ wpAnyZ P md ops Q S Z k (l.setIfInBounds i true) a' w') a w
theorem wpAny_of_Z : ∀ (k : Nat) (l : Array Bool) (a : Act) (w : World), wpAnyZ P md ops Q S Z k l a w → wpAny P md ops Q k l a w := by
  intro k
  induction k with
  | zero => intro l a w h; exact h
  | succ k ih => intro l a w h; exact ⟨h.1, fun i hi => wpOp_mono (fun a' w' h' => ih _ a' w' h'.2) (h.2 i hi)⟩

/-- Each of Z waits for operation i. -/
def behind (md : Region.Mode) (ops : Array Oper) (Z : List Nat) (i : Nat) : Bool :=
  Z.all fun z => z != i && ((ops[z]?).map fun o => o.after.any fun e => Region.binds md e && e.on == i).getD false
theorem behind_spec {i z : Nat} (h : behind md ops Z i = true) (hz : z ∈ Z) : z ≠ i ∧ ∃ o, ops[z]? = some o ∧ ∃ e ∈ o.after, Region.binds md e = true ∧ e.on = i := by
  have h1 := List.all_eq_true.1 h z hz
  simp only [Bool.and_eq_true, bne_iff_ne, ne_eq] at h1
  refine ⟨h1.1, ?_⟩
  cases ho : ops[z]? with
  | none => rw [ho] at h1; simp at h1
  | some o =>
    rw [ho] at h1
    have h2 := h1.2
    simp only [Option.map_some, Option.getD_some] at h2
    obtain ⟨k, hk, h3⟩ := Array.any_eq_true.1 h2
    simp only [Bool.and_eq_true, beq_iff_eq] at h3
    exact ⟨o, rfl, _, Array.getElem_mem hk, h3.1, h3.2⟩
theorem unlisted_false {l : Array Bool} {i : Nat} (h : l.getD i true = false) : l.getD i false = false := by
  rcases Nat.lt_or_ge i l.size with c | c
  · simp [Array.getD, c] at h ⊢; exact h
  · simp [Array.getD, Nat.not_lt.2 c] at h
/-- One that may come up, yields its value in every world that meets S, and that all of Z waits for, may be taken first. -/
theorem wpAnyZ_take {i : Nat} {oi : Oper} {v : Value} {fuel : Nat} {listed : Array Bool} {a : Act} {w : World} (hi : ops[i]? = some oi)
    (hs : Region.noSelect ops = true) (hf : Region.free md ops listed i = true) (hr : (Region.ready md ops listed).contains i = true) (hz : behind md ops Z i = true)
    (hQ : ∀ c a w, Q (.panic c) (a.put oi.dst v) w → Q (.panic c) a w) (hy : YieldsIf P ops S oi v a) (hS : S w)
    (h : wpAnyZ P md ops Q S Z fuel (listed.setIfInBounds i true) (a.put oi.dst v) w) : wpAnyZ P md ops Q S Z (fuel + 1) listed a w := by
  have sel := Region.noSelect_spec hs
  have apart0 := Region.free_spec (listed := listed) hi hf
  have hr0 : i ∈ Region.ready md ops listed := by simpa using hr
  clear hf hr
  induction fuel generalizing listed a w with
  | zero =>
    refine ⟨fun e => (by rw [e] at hr0; cases hr0), fun j hj => ?_⟩
    by_cases e : j = i
    · subst e; exact hy.wpOp hi hS ⟨fun _ => hS, h⟩
    · have := ready_mono hj e
      rw [h.1] at this; cases this
  | succ fuel ih =>
    refine ⟨fun e => (by rw [e] at hr0; cases hr0), fun j hj => ?_⟩
    by_cases e : j = i
    · subst e; exact hy.wpOp hi hS ⟨fun _ => hS, h⟩
    obtain ⟨ju, oj, hoj, jall⟩ := mem_ready.1 hj
    have iu := (mem_ready.1 hr0).1
    have jno : ∀ x ∈ oj.after, Region.binds md x = true → x.on ≠ i := by
      intro x hx hb ex
      have := jall x hx hb
      rw [ex, unlisted_false iu] at this
      cases this
    have jZ : j ∉ Z := by
      intro hjZ
      obtain ⟨_, o, ho, x, hx, hb, ex⟩ := behind_spec hz hjZ
      rw [hoj] at ho
      obtain rfl := Option.some.inj ho
      exact jno x hx hb ex
    have step := wpOp_putIf hoj (apart0 j oj hoj e ju jno) (fun cs b => sel i oi cs b hi) (fun cs b => sel j oj cs b hoj) hQ hy (h.2 j (ready_mono hj e))
    refine wpOp_mono (fun a' w' q => ⟨q.2.1, ?_⟩) step
    refine ih q.1 (q.2.1 jZ) ?_ ?_ (ready_mono hr0 (Ne.symm e))
    · rw [Array.setIfInBounds_comm _ _ e]
      exact q.2.2
    · intro k ok hk hki ku kno
      refine apart0 k ok hk hki ?_ kno
      by_cases hjk : j = k
      · subst hjk; exact ju
      · rw [getD_set_ne true hjk] at ku; exact ku
theorem wpAnyZ_done {listed : Array Bool} {a : Act} {w : World} (hr : Region.ready md ops listed = []) (h : Q .normal a w) : ∀ fuel, wpAnyZ P md ops Q S Z fuel listed a w
  | 0 => ⟨hr, h⟩
  | _ + 1 => ⟨fun _ => h, by rw [hr]; simp⟩
def AllReadyZ (P : Program) (md : Region.Mode) (ops : Array Oper) (Q : Exit → Act → World → Prop) (S : World → Prop) (Z : List Nat) (fuel : Nat) (listed : Array Bool) (a : Act) (w : World) (rs : List Nat) : Prop :=
  ∀ i ∈ rs, wpOp P ops Q i (fun a' w' => (i ∉ Z → S w') ∧ wpAnyZ P md ops Q S Z fuel (listed.setIfInBounds i true) a' w') a w
theorem AllReadyZ.nil {fuel : Nat} {listed : Array Bool} {a : Act} {w : World} : AllReadyZ P md ops Q S Z fuel listed a w [] := fun _ h => by cases h
theorem AllReadyZ.cons {fuel : Nat} {listed : Array Bool} {a : Act} {w : World} {i : Nat} {o : Oper} {rs : List Nat} (ho : ops[i]? = some o)
    (h : ∀ K' : Act → World → Prop, Shut (∀ a w, (i ∉ Z → S w) → wpAnyZ P md ops Q S Z fuel (listed.setIfInBounds i true) a w → K' a w) → if Region.wanted o (yielded ops a.tmps) = true then Oper.wp P o a w K' Q else K' (a.put o.dst undef) w)
    (hs : AllReadyZ P md ops Q S Z fuel listed a w rs) : AllReadyZ P md ops Q S Z fuel listed a w (i :: rs) := fun j hj => by
  rcases List.mem_cons.1 hj with rfl | hj
  · exact wpOp_step ho (fun K' hK => h K' (fun a w hS hW => hK a w ⟨hS, hW⟩))
  · exact hs j hj
theorem wpAnyZ_ready {rs : List Nat} {fuel : Nat} {listed : Array Bool} {a : Act} {w : World} (hr : Region.ready md ops listed = rs) (hne : rs ≠ [])
    (h : AllReadyZ P md ops Q S Z fuel listed a w rs) : wpAnyZ P md ops Q S Z (fuel + 1) listed a w := ⟨fun e => absurd (hr ▸ e) hne, hr ▸ h⟩
theorem wp_region_Z (Z : List Nat) (S : World → Prop) {id : Nat} {a : Act} {w : World} (hm : P.follows .mixedOrders = true) (hS : S w.drew)
    (h : S w.drew → wpAnyZ P .any ops Q S Z ops.size (Array.replicate ops.size false) a w.drew) : (Code.region id ops true).wp P Q a w :=
  wp_region_any hm (wpAny_of_Z _ _ _ _ (h hS))

theorem want_yes {c : Prop} [Decidable c] {A B : Prop} (h : c) (ha : A) : if c then A else B := by rw [if_pos h]; exact ha

/-- append of one element of one cell. -/
theorem wp_append_one {o : Oper} {a : Act} {w : World} {K : Act → World → Prop} (s x : Operand) (t : TypeId) (ho : o.op = .call { callee := .builtin .append, args := #[s, x], argTypes := #[t, t] })
    (base : Nat) (e : TypeId) (i : TypeInfo) (z : Value) (bytes : Nat) (ht : P.underlying t = some (.slice e)) (hi : P.info? e = some i) (hz : i.zero = some z)
    (hsize : i.size = 1) (hby : i.bytes = bytes) (hzs : z.cells.size = 1) (v : Value) (n : Nat) (xs : List Value) (hs : a.eval s = v) (hown : w.ownsRow base e 1 v n xs)
    (ad : Addr) (c : Nat) (u : Value) (hx : a.eval x = .slice (some ad) 1 c) (hu : w.cell? ad = some u) (h1 : u.oneCell' = true)
    (h63 : n + 1 ≤ maxLen) (hbytes : (n + 1) * bytes ≤ 140737488355328) (hbase : base ≤ w.heap.size)
    (h : ∀ v' w', w'.ownsRow base e 1 v' (n + 1) (xs ++ [u]) → w.grownBy w' v.ownBlock → (v'.ownBlock = v.ownBlock ∨ v'.ownBlock = some w.heap.size) → K (a.put o.dst v') w') : o.wp P a w K Q := by
  obtain ⟨v', w', hr, h2, h3, -, h5⟩ := run_append_own_at (P := P) w base t o.type e i z 1 bytes ht hi hz hsize hby hzs (by omega) v n xs hown ad 1 c [u] rfl
    (fun j y hj => by
      match j, hj with
      | 0, hj =>
        simp only [List.getElem?_cons_zero, Option.some.injEq] at hj
        subst hj
        have : ad.add 0 = ad := by unfold Addr.add; split <;> simp_all
        rw [this]; exact hu)
    (fun y hy => by rw [List.mem_singleton] at hy; subst hy; exact h1) h63 hbytes hbase
  unfold Oper.wp execOp
  simp only [ho, resolve, invoke, builtin, Sem.run_bind, Sem.run_pure, Result.andThen_ok, List.map_toArray, List.map_cons, List.map_nil, hs, hx, hr]
  exact h v' w' h2 h3 h5
theorem own_next {w w' : World} {base : Nat} {e : TypeId} {size n : Nat} {v : Value} {xs : List Value} (h : w.ownsRow base e size v n xs) (hb : Below w.heap.size w w') : w'.ownsRow base e size v n xs :=
  ownsRow_fr h (Fr.of_below hb) fun k hk => by have := (h.lt k hk).2; omega
theorem own_form {w : World} {base : Nat} {e : TypeId} {size n : Nat} {v : Value} {xs : List Value} (h : w.ownsRow base e size v n xs) (hn : 0 < n) : ∃ g c, v = .slice (some ⟨g, 0, none⟩) n c ∧ base ≤ g := by
  rcases h.2 with ⟨_, h0⟩ | ⟨g, cap, cur, rfl, hb, _⟩
  · omega
  · exact ⟨g, cap, rfl, hb⟩
/-- Two rows that lie apart. -/
def Apart (v v' : Value) : Prop := ∀ g, v.ownBlock = some g → v'.ownBlock ≠ some g
theorem Apart.symm {v v' : Value} (h : Apart v v') : Apart v' v := fun g hg e => h g e hg
theorem Apart.ne {v v' : Value} (h : Apart v v') : v'.ownBlock = none ∨ v'.ownBlock ≠ v.ownBlock := by
  cases e : v'.ownBlock with
  | none => exact .inl rfl
  | some g => exact .inr fun k => h g k.symm e
theorem Apart.new {w : World} {base : Nat} {e : TypeId} {size n : Nat} {v v' v2 : Value} {xs : List Value} (h : Apart v v') (ho : w.ownsRow base e size v' n xs) (hat : v2.ownBlock = v.ownBlock ∨ v2.ownBlock = some w.heap.size) : Apart v2 v' := by
  intro g hg k
  rcases hat with c | c
  · exact h g (by rw [← c]; exact hg) k
  · rw [c] at hg
    have := (ho.lt g k).2
    injection hg; omega
theorem Apart.kept {w w' : World} {base : Nat} {e : TypeId} {size n : Nat} {v v' : Value} {xs : List Value} (h : Apart v v') (ho : w.ownsRow base e size v' n xs) (hg : w.grownBy w' v.ownBlock) : w'.ownsRow base e size v' n xs := ho.kept hg h.ne
theorem apart_nil (v : Value) : Apart (.slice none 0 0) v := fun g hg => by cases hg
/-- What append does to the rest. -/
theorem below_grown {w0 w w' : World} {B : Nat} {row : Option Nat} (h : Below B w0 w) (hg : w.grownBy w' row) (hB : B ≤ w.heap.size) (hr : ∀ k, row = some k → B ≤ k) : Below B w0 w' :=
  h.trans ⟨hg.os, hg.tape, hg.output, hg.size, fun k hk => hg.block k (by omega) fun e => by have := hr k e.symm; omega⟩
end

end Go.Proofs.YtjhffbhjiflfeaaGreat
