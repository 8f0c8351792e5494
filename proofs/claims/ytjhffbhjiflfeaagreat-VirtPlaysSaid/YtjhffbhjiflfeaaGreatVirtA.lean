/-
  A family in memory; what is asked of a member.
-/
import Derived.Test.YtjhffbhjiflfeaaGreatRunA
import Derived.Test.YtjhffbhjiflfeaaGreatMapI
namespace Go.Proofs.YtjhffbhjiflfeaaGreat
set_option linter.unusedVariables false
set_option linter.unusedSimpArgs false
set_option maxRecDepth 100000
open Go.RowKit Go.Shelf

/-- A member: its id, its blocks (own, run's, what the run leads to), total, virtual time, awake?, run. -/
structure Mem where
  id : Int
  m : Nat
  p : Nat
  q : Nat
  T : Int
  v : Int
  up : Bool
  s : RS
def MemAt (w : World) (x : Mem) : Prop := Blk w x.m 70 #[.int .u64 x.T, .int .u64 x.v, .pointer (some ⟨x.p, 0, none⟩), .bool x.up] ∧ RunAt w x.p x.q x.s
theorem MemAt.next {w w' : World} {x : Mem} (h : MemAt w x) (hb : Below w.heap.size w w') : MemAt w' x := ⟨h.1.next hb, h.2.next hb⟩
def mptr (x : Mem) : Value := .pointer (some ⟨x.m, 0, none⟩)
def famM (Ms : List Mem) : IMap := Ms.map fun x => (x.id, mptr x)
/-- A family. -/
structure FamAt (w : World) (f mb : Nat) (mark : Int) (Ms : List Mem) : Prop where
  blk : Blk w f 43 #[.map (some mb), .int .u64 mark]
  map : MpAt w mb (famM Ms)
  mem : ∀ x ∈ Ms, MemAt w x
  nm : (Ms.map (·.m)).Nodup
  nq : (Ms.map (·.q)).Nodup
theorem FamAt.next {w w' : World} {f mb : Nat} {mark : Int} {Ms : List Mem} (h : FamAt w f mb mark Ms) (hb : Below w.heap.size w w') : FamAt w' f mb mark Ms :=
  ⟨h.blk.next hb, h.map.next hb, fun x hx => (h.mem x hx).next hb, h.nm, h.nq⟩
def fnd (id : Int) : List Mem → Option Mem
  | [] => none
  | x :: Ms => if x.id = id then some x else fnd id Ms
theorem mget_fam (id : Int) : ∀ Ms : List Mem, mget id (famM Ms) = (fnd id Ms).map mptr
  | [] => rfl
  | x :: Ms => by
    show (if x.id = id then some (mptr x) else mget id (famM Ms)) = _
    unfold fnd
    by_cases h : x.id = id
    · rw [if_pos h, if_pos h]; rfl
    · rw [if_neg h, if_neg h]; exact mget_fam id Ms
theorem fnd_mem {id : Int} {x : Mem} : ∀ {Ms : List Mem}, fnd id Ms = some x → x ∈ Ms ∧ x.id = id
  | [], h => by cases h
  | y :: Ms, h => by
    unfold fnd at h
    split at h
    · cases h
      exact ⟨List.mem_cons_self .., by assumption⟩
    · have := fnd_mem h
      exact ⟨List.mem_cons_of_mem _ this.1, this.2⟩
theorem fam_desc : Tryz.prog.underlying 41 = some (.map 3 64) := Tryz.underlying41
theorem fint_desc : Tryz.prog.underlying 3 = some (.int .i64) := Tryz.underlying3
theorem mem_zero (w : World) : (zeroValue 64).run Tryz.prog w = .ok (.pointer none) w := by kernel_rfl
def optP (o : Option Mem) : Value := match o with
  | none => .pointer none
  | some x => .pointer (some ⟨x.m, 0, none⟩)

set_option maxHeartbeats 2000000 in
theorem vat_any (f mb : Nat) (mark id : Int) (Ms : List Mem) (w : World) (h : FamAt w f mb mark Ms) :
    Calls Tryz.prog 32 #[.pointer (some ⟨f, 0, none⟩), .int .i64 id] w fun e w' => e = .returned (optP (fnd id Ms)) ∧ w = w' := by
  have LK := (h.map.look fam_desc fint_desc (mem_zero w) id).2
  rw [mget_fam] at LK
  have e : ((fnd id Ms).map mptr).getD (.pointer none) = optP (fnd id Ms) := by cases fnd id Ms <;> rfl
  rw [e] at LK
  generalize optP (fnd id Ms) = v at LK ⊢
  have c0 := h.blk.get 0 rfl
  clear h e
  go_enter Tryz.func32, Tryz.ntmps32
  go_wp2_with fail
  go_ret
  exact ⟨by simp, rfl⟩
set_option maxHeartbeats 2000000 in
theorem vmark_any (f mb : Nat) (mark : Int) (Ms : List Mem) (w : World) (h : FamAt w f mb mark Ms) :
    Calls Tryz.prog 24 #[.pointer (some ⟨f, 0, none⟩)] w fun e w' => e = .returned (.int .u64 mark) ∧ w = w' := by
  have c1 := h.blk.get 1 rfl
  clear h
  go_enter Tryz.func24, Tryz.ntmps24
  go_wp2_with fail
  go_ret
  exact ⟨by simp, rfl⟩

end Go.Proofs.YtjhffbhjiflfeaaGreat

/-!
  A family: what is told of a member; a new one; one sleeps; a virtual time is made.
-/
namespace Go.Proofs.YtjhffbhjiflfeaaGreat
set_option linter.unusedVariables false
set_option linter.unusedSimpArgs false
set_option maxRecDepth 100000
open Go.RowKit Go.Shelf

def vOf (id : Int) (Ms : List Mem) : Int := match fnd id Ms with
  | none => 0
  | some x => x.v
def tOf (id : Int) (Ms : List Mem) : Int := match fnd id Ms with
  | none => 0
  | some x => x.T
def upOf (id : Int) (Ms : List Mem) : Bool := match fnd id Ms with
  | none => false
  | some x => x.up

set_option maxHeartbeats 2000000 in
theorem vv_any (f mb : Nat) (mark id : Int) (Ms : List Mem) (w : World) (h : FamAt w f mb mark Ms) :
    Calls Tryz.prog 22 #[.pointer (some ⟨f, 0, none⟩), .int .i64 id] w fun e w' => e = .returned (.int .u64 (vOf id Ms)) ∧ w = w' := by
  have AT := Lib.hid (vat_any f mb mark id Ms w h)
  unfold vOf
  cases hf : fnd id Ms with
  | none =>
    rw [hf] at AT
    clear h hf
    go_enter Tryz.func22, Tryz.ntmps22
    go_wp2_with fail
    with_reducible refine (AT.out).mono ?_
    rintro e wx ⟨rfl, rfl⟩
    simp only [optP]
    go_wp2_with fail
    go_ret
    exact ⟨by simp, rfl⟩
  | some x =>
    rw [hf] at AT
    have c := (h.mem x (fnd_mem hf).1).1.get 1 rfl
    obtain ⟨z, hz⟩ : ∃ z, x.v = z := ⟨_, rfl⟩
    show Calls _ _ _ _ fun e w' => e = .returned (.int .u64 x.v) ∧ w = w'
    rw [hz] at c ⊢
    have AT : Hid (Calls Tryz.prog 32 #[.pointer (some ⟨f, 0, none⟩), .int .i64 id] w fun e w' => e = .returned (.pointer (some ⟨x.m, 0, none⟩)) ∧ w = w') := AT
    clear h hf hz
    go_enter Tryz.func22, Tryz.ntmps22
    go_wp2_with fail
    with_reducible refine (AT.out).mono ?_
    rintro e wx ⟨rfl, rfl⟩
    go_wp2_with fail
    go_ret
    exact ⟨by simp, rfl⟩

set_option maxHeartbeats 2000000 in
theorem vtotal_any (f mb : Nat) (mark id : Int) (Ms : List Mem) (w : World) (h : FamAt w f mb mark Ms) :
    Calls Tryz.prog 23 #[.pointer (some ⟨f, 0, none⟩), .int .i64 id] w fun e w' => e = .returned (.int .u64 (tOf id Ms)) ∧ w = w' := by
  have AT := Lib.hid (vat_any f mb mark id Ms w h)
  unfold tOf
  cases hf : fnd id Ms with
  | none =>
    rw [hf] at AT
    clear h hf
    go_enter Tryz.func23, Tryz.ntmps23
    go_wp2_with fail
    with_reducible refine (AT.out).mono ?_
    rintro e wx ⟨rfl, rfl⟩
    simp only [optP]
    go_wp2_with fail
    go_ret
    exact ⟨by simp, rfl⟩
  | some x =>
    rw [hf] at AT
    have c := (h.mem x (fnd_mem hf).1).1.get 0 rfl
    obtain ⟨z, hz⟩ : ∃ z, x.T = z := ⟨_, rfl⟩
    show Calls _ _ _ _ fun e w' => e = .returned (.int .u64 x.T) ∧ w = w'
    rw [hz] at c ⊢
    have AT : Hid (Calls Tryz.prog 32 #[.pointer (some ⟨f, 0, none⟩), .int .i64 id] w fun e w' => e = .returned (.pointer (some ⟨x.m, 0, none⟩)) ∧ w = w') := AT
    clear h hf hz
    go_enter Tryz.func23, Tryz.ntmps23
    go_wp2_with fail
    with_reducible refine (AT.out).mono ?_
    rintro e wx ⟨rfl, rfl⟩
    go_wp2_with fail
    go_ret
    exact ⟨by simp, rfl⟩

set_option maxHeartbeats 2000000 in
theorem vawake_any (f mb : Nat) (mark id : Int) (Ms : List Mem) (w : World) (h : FamAt w f mb mark Ms) :
    Calls Tryz.prog 21 #[.pointer (some ⟨f, 0, none⟩), .int .i64 id] w fun e w' => e = .returned (.bool (upOf id Ms)) ∧ w = w' := by
  have AT := Lib.hid (vat_any f mb mark id Ms w h)
  unfold upOf
  cases hf : fnd id Ms with
  | none =>
    rw [hf] at AT
    clear h hf
    go_enter Tryz.func21, Tryz.ntmps21
    go_wp2_with fail
    with_reducible refine (AT.out).mono ?_
    rintro e wx ⟨rfl, rfl⟩
    simp only [optP]
    go_wp2_with fail
    go_ret
    exact ⟨by simp, rfl⟩
  | some x =>
    rw [hf] at AT
    have c := (h.mem x (fnd_mem hf).1).1.get 3 rfl
    obtain ⟨z, hz⟩ : ∃ z, x.up = z := ⟨_, rfl⟩
    show Calls _ _ _ _ fun e w' => e = .returned (.bool x.up) ∧ w = w'
    rw [hz] at c ⊢
    have AT : Hid (Calls Tryz.prog 32 #[.pointer (some ⟨f, 0, none⟩), .int .i64 id] w fun e w' => e = .returned (.pointer (some ⟨x.m, 0, none⟩)) ∧ w = w') := AT
    clear h hf hz
    go_enter Tryz.func21, Tryz.ntmps21
    go_wp2_with fail
    with_reducible refine (AT.out).mono ?_
    rintro e wx ⟨rfl, rfl⟩
    go_wp2_with fail
    go_ret
    exact ⟨by simp, rfl⟩

set_option maxHeartbeats 2000000 in
theorem vnew_any (w : World) : Calls Tryz.prog 8 #[] w fun e w' => ∃ f mb, e = .returned (.pointer (some ⟨f, 0, none⟩)) ∧ w.heap.size ≤ f ∧ w.heap.size ≤ mb ∧ FamAt w' f mb 0 [] ∧ Below w.heap.size w w' := by
  have mk : ∀ w, (Instr.makeMap 41 none).run Tryz.prog w = .ok (.map (some w.heap.size)) (w.alloc (.map #[] 0)) := fun w => by simp [Instr.makeMap, Result.andThen]
  go_enter Tryz.func8, Tryz.ntmps8
  go_wp2_with fail
  go_ret
  refine ⟨w.heap.size + 1, w.heap.size, by simp, by omega, by omega, ⟨Blk.new_at (by simp), (MpAt.new w).next ((Below.refl _ _).alloc (Nat.le_refl _) _), (fun x hx => by cases hx), List.nodup_nil, List.nodup_nil⟩, by go_grown⟩

end Go.Proofs.YtjhffbhjiflfeaaGreat

/-!
  A family: one member is changed.
-/
namespace Go.Proofs.YtjhffbhjiflfeaaGreat
set_option linter.unusedVariables false
set_option linter.unusedSimpArgs false
set_option maxRecDepth 100000
open Go.RowKit Go.Shelf

theorem MpAt.ne {w : World} {b b' : Nat} {M : IMap} {t : TypeId} {cs : Array Value} (h : MpAt w b M) (h' : Blk w b' t cs) : b ≠ b' := by
  obtain ⟨es, cl, h1, -⟩ := h
  rintro rfl
  unfold Blk at h'
  rw [h1] at h'
  cases h'
theorem OwnK.has {w : World} {B : Nat} {v : Value} {K : List (Int × Int)} (h : OwnK w B v K) (g : Nat) (hg : v.ownBlock = some g) : ∃ cs, Blk w g 192 cs := by
  rcases h.2 with ⟨rfl, _⟩ | ⟨g', cap, cur, rfl, _, hc, _⟩
  · cases hg
  · cases hg
    exact ⟨_, hc⟩
/-- What a run leads to. -/
theorem RunAt.parts {w : World} {p q : Nat} {s : RS} (h : RunAt w p q s) : (∃ cs, Blk w p 98 cs) ∧ ((∃ cs, Blk w q 120 cs) ∨ ∃ cs, Blk w q 123 cs) := by
  cases s with
  | bent F L R n x f r => exact ⟨⟨_, h.1⟩, Or.inl ⟨_, h.2⟩⟩
  | sag F L R n x K => obtain ⟨kv, h1, h2, h3⟩ := h; exact ⟨⟨_, h1⟩, Or.inr ⟨_, h2⟩⟩
theorem RunAt.fr {w w' : World} {p q : Nat} {s : RS} {S : Nat → Prop} (h : RunAt w p q s) (hf : Fr S w w') (hp : ¬ S p) (hq : ¬ S q) (hr : ∀ b cs, Blk w b 192 cs → ¬ S b) : RunAt w' p q s := by
  cases s with
  | bent F L R n x f r => exact ⟨h.1.fr hf hp, h.2.fr hf hq⟩
  | sag F L R n x K =>
    obtain ⟨kv, h1, h2, h3⟩ := h
    refine ⟨kv, h1.fr hf hp, Blk.fr h2 hf hq, h3.fr hf fun k hk => ?_⟩
    obtain ⟨cs, hc⟩ := h3.has k hk
    exact hr k cs hc
/-- The member with this one's id becomes this one. -/
def setM (y : Mem) : List Mem → List Mem
  | [] => []
  | x :: Ms => if x.id = y.id then y :: Ms else x :: setM y Ms
theorem setM_id {y x : Mem} : ∀ {Ms : List Mem}, fnd y.id Ms = some x → x.m = y.m → x.q = y.q → famM (setM y Ms) = famM Ms ∧ (setM y Ms).map (·.m) = Ms.map (·.m) ∧ (setM y Ms).map (·.q) = Ms.map (·.q)
  | [], h, _, _ => by cases h
  | z :: Ms, h, hm, hq => by
    unfold fnd at h
    unfold setM
    by_cases e : z.id = y.id
    · rw [if_pos e] at h
      injection h with h
      subst h
      rw [if_pos e]
      simp [famM, mptr, hm, hq, e]
    · rw [if_neg e] at h
      rw [if_neg e]
      obtain ⟨h1, h2, h3⟩ := setM_id (Ms := Ms) h hm hq
      refine ⟨?_, ?_, ?_⟩
      · show _ :: famM (setM y Ms) = _ :: famM Ms
        rw [h1]
      · show _ :: (setM y Ms).map (·.m) = _ :: Ms.map (·.m)
        rw [h2]
      · show _ :: (setM y Ms).map (·.q) = _ :: Ms.map (·.q)
        rw [h3]
theorem mem_setM {y x : Mem} : ∀ {Ms : List Mem}, x ∈ setM y Ms → x = y ∨ (x ∈ Ms ∧ x.id ≠ y.id) ∨ x ∈ Ms
  | [], h => by cases h
  | z :: Ms, h => by
    unfold setM at h
    split at h
    · rcases List.mem_cons.1 h with h | h
      · exact Or.inl h
      · exact Or.inr (Or.inr (List.mem_cons_of_mem _ h))
    · rcases List.mem_cons.1 h with h | h
      · exact Or.inr (Or.inr (h ▸ List.mem_cons_self ..))
      · rcases mem_setM h with h | h | h
        · exact Or.inl h
        · exact Or.inr (Or.inr (List.mem_cons_of_mem _ h.1))
        · exact Or.inr (Or.inr (List.mem_cons_of_mem _ h))
theorem setM_others {y x : Mem} : ∀ {Ms : List Mem}, (Ms.map (·.m)).Nodup → fnd y.id Ms = some x → ∀ z ∈ setM y Ms, z = y ∨ (z ∈ Ms ∧ z.m ≠ x.m)
  | [], _, h, _, _ => by cases h
  | c :: Ms, hn, h, z, hz => by
    have hn2 := List.nodup_cons.1 hn
    unfold fnd at h
    unfold setM at hz
    by_cases e : c.id = y.id
    · rw [if_pos e] at h hz
      injection h with h
      subst h
      rcases List.mem_cons.1 hz with hz | hz
      · exact Or.inl hz
      · exact Or.inr ⟨List.mem_cons_of_mem _ hz, fun e2 => hn2.1 (List.mem_map.2 ⟨z, hz, e2⟩)⟩
    · rw [if_neg e] at h hz
      rcases List.mem_cons.1 hz with hz | hz
      · subst hz
        exact Or.inr ⟨List.mem_cons_self .., fun e2 => hn2.1 (List.mem_map.2 ⟨x, (fnd_mem h).1, e2.symm⟩)⟩
      · rcases setM_others hn2.2 h z hz with hz | hz
        · exact Or.inl hz
        · exact Or.inr ⟨List.mem_cons_of_mem _ hz.1, hz.2⟩
theorem nodup_apart {α : Type} {g : α → Nat} : ∀ {l : List α}, (l.map g).Nodup → ∀ {a b : α}, a ∈ l → b ∈ l → g a = g b → a = b
  | [], _, _, _, h, _, _ => by cases h
  | c :: l, hn, a, b, ha, hb, e => by
    have h2 := List.nodup_cons.1 hn
    rcases List.mem_cons.1 ha with ha | ha
    · rcases List.mem_cons.1 hb with hb | hb
      · rw [ha, hb]
      · exact absurd (List.mem_map.2 ⟨b, hb, by rw [← e, ha]⟩) h2.1
    · rcases List.mem_cons.1 hb with hb | hb
      · exact absurd (List.mem_map.2 ⟨a, ha, by rw [e, hb]⟩) h2.1
      · exact nodup_apart h2.2 ha hb e

theorem FamAt.set {w w' : World} {f mb : Nat} {mark mark' : Int} {Ms : List Mem} {x y : Mem} (h : FamAt w f mb mark Ms) (hx : fnd y.id Ms = some x) (hm : x.m = y.m) (hq : x.q = y.q) (hy : MemAt w' y)
    (hb : Blk w' f 43 #[.map (some mb), .int .u64 mark']) (hf : Fr (fun k => k = f ∨ k = x.m ∨ k = x.q) w w') : FamAt w' f mb mark' (setM y Ms) := by
  obtain ⟨e1, e2, e3⟩ := setM_id hx hm hq
  have hxm := h.mem x (fnd_mem hx).1
  have tq : ∀ (b : Nat) (t : TypeId) (cs : Array Value), Blk w b t cs → t ≠ 120 → t ≠ 123 → b ≠ x.q := by
    intro b t cs hbk n1 n2
    rcases hxm.2.parts.2 with ⟨c, hc⟩ | ⟨c, hc⟩
    · exact Blk.ne_of_type hbk hc n1
    · exact Blk.ne_of_type hbk hc n2
  have far : ∀ (b : Nat) (t : TypeId) (cs : Array Value), Blk w b t cs → t ≠ 43 → t ≠ 70 → t ≠ 120 → t ≠ 123 → ¬ (b = f ∨ b = x.m ∨ b = x.q) := by
    rintro b t cs hbk n0 n3 n1 n2 (e | e | e)
    · exact Blk.ne_of_type hbk h.blk n0 e
    · exact Blk.ne_of_type hbk hxm.1 n3 e
    · exact tq b t cs hbk n1 n2 e
  have mq : mb ≠ x.q := by
    rcases hxm.2.parts.2 with ⟨c, hc⟩ | ⟨c, hc⟩
    · exact h.map.ne hc
    · exact h.map.ne hc
  refine ⟨hb, ?_, ?_, by rw [e2]; exact h.nm, by rw [e3]; exact h.nq⟩
  · rw [e1]
    refine h.map.fr hf ?_
    rintro (e | e | e)
    · exact h.map.ne h.blk e
    · exact h.map.ne hxm.1 e
    · exact mq e
  · intro z hz
    rcases setM_others h.nm hx z hz with rfl | ⟨hz, hne⟩
    · exact hy
    · have hzm := h.mem z hz
      refine ⟨hzm.1.fr hf ?_, hzm.2.fr hf ?_ ?_ ?_⟩
      · rintro (e | e | e)
        · exact Blk.ne_of_type hzm.1 h.blk (by decide) e
        · exact hne e
        · exact tq _ _ _ hzm.1 (by decide) (by decide) e
      · obtain ⟨c, hc⟩ := hzm.2.parts.1
        exact far _ _ _ hc (by decide) (by decide) (by decide) (by decide)
      · rintro (e | e | e)
        · rcases hzm.2.parts.2 with ⟨c, hc⟩ | ⟨c, hc⟩
          · exact Blk.ne_of_type hc h.blk (by decide) e
          · exact Blk.ne_of_type hc h.blk (by decide) e
        · rcases hzm.2.parts.2 with ⟨c, hc⟩ | ⟨c, hc⟩
          · exact Blk.ne_of_type hc hxm.1 (by decide) e
          · exact Blk.ne_of_type hc hxm.1 (by decide) e
        · exact hne (congrArg (·.m) (nodup_apart h.nq hz (fnd_mem hx).1 e))
      · intro b cs hc
        exact far _ _ _ hc (by decide) (by decide) (by decide) (by decide)

set_option maxHeartbeats 2000000 in
theorem vsleep_any (f mb : Nat) (mark id : Int) (Ms : List Mem) (w : World) (h : FamAt w f mb mark Ms) :
    Calls Tryz.prog 15 #[.pointer (some ⟨f, 0, none⟩), .int .i64 id] w fun e w' => e = .returned (.tuple #[]) ∧
      (match fnd id Ms with
        | none => w = w'
        | some x => FamAt w' f mb mark (setM { x with up := false } Ms) ∧ Fr (fun k => k = x.m) w w') := by
  have AT := Lib.hid (vat_any f mb mark id Ms w h)
  cases hf : fnd id Ms with
  | none =>
    rw [hf] at AT
    clear h hf
    go_enter Tryz.func15, Tryz.ntmps15
    go_wp2_with fail
    with_reducible refine (AT.out).mono ?_
    rintro e wx ⟨rfl, rfl⟩
    simp only [optP]
    go_wp2_with fail
    first | go_ret | go_end0
    exact ⟨rfl, rfl⟩
  | some x =>
    rw [hf] at AT
    have AT : Hid (Calls Tryz.prog 32 #[.pointer (some ⟨f, 0, none⟩), .int .i64 id] w fun e w' => e = .returned (.pointer (some ⟨x.m, 0, none⟩)) ∧ w = w') := AT
    have hx := h.mem x (fnd_mem hf).1
    have c3 := hx.1.get 3 rfl
    have f3 := hx.1.frozen 3
    have H := Lib.hid h
    have HF := Lib.hid hf
    have HX := Lib.hid hx
    clear h hf hx
    go_enter Tryz.func15, Tryz.ntmps15
    go_wp2_with fail
    with_reducible refine (AT.out).mono ?_
    rintro e wx ⟨rfl, rfl⟩
    go_wp2_with fail
    first | go_ret | go_end0
    have hfr : Fr (fun k => k = x.m) w (w.setCell ⟨x.m, 3, none⟩ (.bool false)) := Fr.setCell (S := fun k => k = x.m) (p := ⟨x.m, 3, none⟩) (Fr.refl _ w) (fun _ => rfl) _
    have hne : ¬ f = x.m := Blk.ne_of_type H.out.blk HX.out.1 (by decide)
    have hid := (fnd_mem HF.out).2
    refine ⟨rfl, FamAt.set (x := x) (y := { x with up := false }) H.out (by show fnd x.id Ms = some x; rw [hid]; exact HF.out) rfl rfl ⟨Blk.put HX.out.1 3 _, ?_⟩ (H.out.blk.fr hfr hne) (hfr.mono (fun k _ e => Or.inr (Or.inl e))), hfr⟩
    refine HX.out.2.fr hfr ?_ ?_ ?_
    · obtain ⟨c, hc⟩ := HX.out.2.parts.1
      exact Blk.ne_of_type hc HX.out.1 (by decide)
    · rcases HX.out.2.parts.2 with ⟨c, hc⟩ | ⟨c, hc⟩
      · exact Blk.ne_of_type hc HX.out.1 (by decide)
      · exact Blk.ne_of_type hc HX.out.1 (by decide)
    · intro b cs hc
      exact Blk.ne_of_type hc HX.out.1 (by decide)

end Go.Proofs.YtjhffbhjiflfeaaGreat

/-!
  A family: a virtual time is made; one gains.
-/
namespace Go.Proofs.YtjhffbhjiflfeaaGreat
set_option linter.unusedVariables false
set_option linter.unusedSimpArgs false
set_option maxRecDepth 100000
open Go.RowKit Go.Shelf

/-- A member's own block is not its run's. -/
theorem MemAt.run {w w' : World} {x : Mem} {S : Nat → Prop} (h : MemAt w x) (hf : Fr S w w') (hS : ∀ k, S k → k = x.m ∨ ∃ cs, Blk w k 43 cs) : RunAt w' x.p x.q x.s := by
  have far : ∀ (b : Nat) (t : TypeId) (cs : Array Value), Blk w b t cs → t ≠ 43 → t ≠ 70 → ¬ S b := by
    intro b t cs hb n0 n1 hs
    rcases hS b hs with e | ⟨c, hc⟩
    · exact Blk.ne_of_type hb h.1 n1 e
    · exact Blk.ne_of_type hb hc n0 rfl
  refine h.2.fr hf ?_ ?_ ?_
  · obtain ⟨c, hc⟩ := h.2.parts.1
    exact far _ _ _ hc (by decide) (by decide)
  · rcases h.2.parts.2 with ⟨c, hc⟩ | ⟨c, hc⟩
    · exact far _ _ _ hc (by decide) (by decide)
    · exact far _ _ _ hc (by decide) (by decide)
  · intro b cs hc
    exact far _ _ _ hc (by decide) (by decide)

set_option maxHeartbeats 2000000 in
theorem vmade_any (f mb : Nat) (mark v : Int) (Ms : List Mem) (x : Mem) (w : World) (h : FamAt w f mb mark Ms) (hf : fnd x.id Ms = some x) :
    Calls Tryz.prog 38 #[.pointer (some ⟨f, 0, none⟩), .pointer (some ⟨x.m, 0, none⟩), .int .u64 v] w fun e w' => e = .returned (.tuple #[]) ∧
      FamAt w' f mb (max mark v) (setM { x with v := v } Ms) ∧ Fr (fun k => k = f ∨ k = x.m) w w' := by
  have hx := h.mem x (fnd_mem hf).1
  have hne : ¬ f = x.m := Blk.ne_of_type h.blk hx.1 (by decide)
  obtain ⟨w1, hw1⟩ : ∃ z, w.setCell ⟨x.m, 1, none⟩ (.int .u64 v) = z := ⟨_, rfl⟩
  have fr1 : Fr (fun k => k = f ∨ k = x.m) w w1 := by rw [← hw1]; exact Fr.setCell (S := fun k => k = f ∨ k = x.m) (p := ⟨x.m, 1, none⟩) (Fr.refl _ w) (fun _ => Or.inr rfl) _
  have b1 : Blk w1 x.m 70 #[.int .u64 x.T, .int .u64 v, .pointer (some ⟨x.p, 0, none⟩), .bool x.up] := by rw [← hw1]; exact Blk.put hx.1 1 _
  have bf : Blk w1 f 43 #[.map (some mb), .int .u64 mark] := by rw [← hw1]; exact Blk.far h.blk (p := ⟨x.m, 1, none⟩) hne _
  have c1 := hx.1.get 1 rfl
  have f1 := hx.1.frozen 1
  have d1 := bf.get 1 rfl
  have g1 := bf.frozen 1
  have H := Lib.hid h
  have HF := Lib.hid hf
  have HX := Lib.hid hx
  have HNE := Lib.hid hne
  have HW := Lib.hid hw1
  have H1 := Lib.hid (And.intro fr1 (And.intro b1 bf))
  obtain ⟨mk, emk⟩ : ∃ z, max mark v = z := ⟨_, rfl⟩
  rw [emk]
  clear h hf hx hne hw1 fr1 b1 bf
  go_enter Tryz.func38, Tryz.ntmps38
  go_upto_region 1 with (fail)
  rw [HW.out]
  go_wp2_with fail
  first | go_ret | go_end0
  have hfr : Fr (fun k => k = f ∨ k = x.m) w (w1.setCell ⟨f, 1, none⟩ (.int .u64 mk)) := Fr.setCell (S := fun k => k = f ∨ k = x.m) (p := ⟨f, 1, none⟩) H1.out.1 (fun _ => Or.inl rfl) _
  refine ⟨rfl, FamAt.set (x := x) (y := { x with v := v }) H.out HF.out rfl rfl ⟨Blk.far H1.out.2.1 (p := ⟨f, 1, none⟩) (Ne.symm HNE.out) _, ?_⟩ (Blk.put H1.out.2.2 1 _) (hfr.mono (fun k _ e => e.imp id Or.inl)), hfr⟩
  refine HX.out.run hfr ?_
  rintro k (rfl | rfl)
  · exact Or.inr ⟨_, H.out.blk⟩
  · exact Or.inl rfl

end Go.Proofs.YtjhffbhjiflfeaaGreat
