/-
  A family's ids: how two are compared.
-/
import Derived.Test.YtjhffbhjiflfeaaGreatVirtI
import Derived.Test.YtjhffbhjiflfeaaGreatSortW
import Derived.Test.YtjhffbhjiflfeaaGreatProg
import Derived.Shelf.SlSortCmp.NoneTotal
import Derived.Maps.AppendAt
namespace Go.Proofs.YtjhffbhjiflfeaaGreat
set_option linter.unusedVariables false
set_option linter.unusedSimpArgs false
set_option maxRecDepth 100000
open Go.RowKit Go.Shelf

def cmpI (a b : Int) : Int := if a < b then -1 else if b < a then 1 else 0
set_option maxHeartbeats 2000000 in
theorem nan_u (x : Int) (w : World) : Calls Tryz.prog 67 #[.int .u64 x] w fun e w' => e = .returned (.bool false) ∧ w = w' := by
  go_enter Tryz.func67, Tryz.ntmps67
  go_wp2_with fail
  go_ret
  exact ⟨by simp, rfl⟩
set_option maxHeartbeats 2000000 in
theorem nan_i (x : Int) (w : World) : Calls Tryz.prog 68 #[.int .i64 x] w fun e w' => e = .returned (.bool false) ∧ w = w' := by
  go_enter Tryz.func68, Tryz.ntmps68
  go_wp2_with fail
  go_ret
  exact ⟨by simp, rfl⟩
set_option maxHeartbeats 2000000 in
theorem cmp_u (a b : Int) (w : World) : Calls Tryz.prog 55 #[.int .u64 a, .int .u64 b] w fun e w' => e = .returned (.int .i64 (cmpI a b)) ∧ w = w' := by
  unfold cmpI
  by_cases h1 : a < b
  · have d1 : decide (a < b) = true := decide_eq_true h1
    rw [if_pos h1]
    clear h1
    go_enter Tryz.func55, Tryz.ntmps55
    go_wp2_with (with_reducible refine (nan_u _ w).mono ?_; rintro e w' ⟨rfl, rfl⟩)
    go_ret
    exact ⟨by simp, rfl⟩
  · have d1 : decide (a < b) = false := decide_eq_false h1
    rw [if_neg h1]
    clear h1
    by_cases h2 : b < a
    · have d2 : decide (b < a) = true := decide_eq_true h2
      rw [if_pos h2]
      clear h2
      go_enter Tryz.func55, Tryz.ntmps55
      go_wp2_with (with_reducible refine (nan_u _ w).mono ?_; rintro e w' ⟨rfl, rfl⟩)
      go_ret
      exact ⟨by simp, rfl⟩
    · have d2 : decide (b < a) = false := decide_eq_false h2
      rw [if_neg h2]
      clear h2
      go_enter Tryz.func55, Tryz.ntmps55
      go_wp2_with (with_reducible refine (nan_u _ w).mono ?_; rintro e w' ⟨rfl, rfl⟩)
      go_ret
      exact ⟨by simp, rfl⟩
set_option maxHeartbeats 2000000 in
theorem cmp_i (a b : Int) (w : World) : Calls Tryz.prog 56 #[.int .i64 a, .int .i64 b] w fun e w' => e = .returned (.int .i64 (cmpI a b)) ∧ w = w' := by
  unfold cmpI
  by_cases h1 : a < b
  · have d1 : decide (a < b) = true := decide_eq_true h1
    rw [if_pos h1]
    clear h1
    go_enter Tryz.func56, Tryz.ntmps56
    go_wp2_with (with_reducible refine (nan_i _ w).mono ?_; rintro e w' ⟨rfl, rfl⟩)
    go_ret
    exact ⟨by simp, rfl⟩
  · have d1 : decide (a < b) = false := decide_eq_false h1
    rw [if_neg h1]
    clear h1
    by_cases h2 : b < a
    · have d2 : decide (b < a) = true := decide_eq_true h2
      rw [if_pos h2]
      clear h2
      go_enter Tryz.func56, Tryz.ntmps56
      go_wp2_with (with_reducible refine (nan_i _ w).mono ?_; rintro e w' ⟨rfl, rfl⟩)
      go_ret
      exact ⟨by simp, rfl⟩
    · have d2 : decide (b < a) = false := decide_eq_false h2
      rw [if_neg h2]
      clear h2
      go_enter Tryz.func56, Tryz.ntmps56
      go_wp2_with (with_reducible refine (nan_i _ w).mono ?_; rintro e w' ⟨rfl, rfl⟩)
      go_ret
      exact ⟨by simp, rfl⟩
set_option maxHeartbeats 2000000 in
theorem or_two (g : Nat) (a b : Int) (w : World) (h : Blk w g 3 #[.int .i64 a, .int .i64 b]) : Calls Tryz.prog 54 #[.slice (some ⟨g, 0, none⟩) 2 2] w fun e w' => e = .returned (.int .i64 (if a = 0 then b else a)) ∧ w = w' := by
  have c0 := h.get 0 rfl
  have c1 := h.get 1 rfl
  clear h
  by_cases ha : a = 0
  · subst ha
    rw [if_pos rfl]
    by_cases hb : b = 0
    · subst hb
      go_enter Tryz.func54, Tryz.ntmps54
      go_wp2_with fail
      refine wp_loop_rounds 3 ?_
      rw [rounds_succ]
      go_wp2_with fail
      rw [rounds_succ]
      go_wp2_with fail
      rw [rounds_succ]
      go_wp2_with fail
      go_ret
      exact ⟨by simp, rfl⟩
    · have d1 : (b != 0) = true := by simpa using hb
      have d2 : decide (b = 0) = false := decide_eq_false hb
      clear hb
      go_enter Tryz.func54, Tryz.ntmps54
      go_wp2_with fail
      refine wp_loop_rounds 3 ?_
      rw [rounds_succ]
      go_wp2_with fail
      rw [rounds_succ]
      go_wp2_with fail
      go_ret
      exact ⟨by simp, rfl⟩
  · have d1 : (a != 0) = true := by simpa using ha
    have d2 : decide (a = 0) = false := decide_eq_false ha
    rw [if_neg ha]
    clear ha
    go_enter Tryz.func54, Tryz.ntmps54
    go_wp2_with fail
    refine wp_loop_rounds 3 ?_
    rw [rounds_succ]
    go_wp2_with fail
    go_ret
    exact ⟨by simp, rfl⟩

end Go.Proofs.YtjhffbhjiflfeaaGreat

/-!
  slices.SortFunc at whole numbers: what the program bears of it.
-/
namespace Go.Proofs.YtjhffbhjiflfeaaGreat
set_option linter.unusedVariables false
set_option maxRecDepth 100000
set_option maxHeartbeats 4000000
open Go.Shelf

def Tryz.sortInt_ren : Go.Shelf.Ren := ⟨fun | 6 => 52 | 15 => 66 | 14 => 65 | 28 => 80 | 29 => 81 | 20 => 72 | 21 => 73 | 22 => 74 | 23 => 75 | 24 => 76 | 25 => 77 | 26 => 78 | 27 => 79 | 46 => 84 | 47 => 85 | 48 => 86 | 49 => 87 | 50 => 88 | 57 => 91 | n => n, fun | 22 => 47 | 24 => 3 | 25 => 88 | 3 => 3 | 39 => 115 | 0 => 0 | 53 => 133 | 55 => 28 | 4 => 4 | 46 => 126 | 45 => 125 | 50 => 130 | 5 => 5 | 9 => 9 | 66 => 139 | 70 => 142 | 76 => 146 | 77 => 147 | n => n, fun | n => n⟩
theorem Tryz.sortInt : SlLaysF.n6 Tryz.prog Tryz.sortInt_ren := {
  mixed := by kernel_rfl
  f6 := ⟨Tryz.f52.name, by decide, Tryz.func52.trans (congrArg some (by kernel_rfl))⟩
  f14 := ⟨Tryz.f65.name, by decide, Tryz.func65.trans (congrArg some (by kernel_rfl))⟩
  f15 := Tryz.func66.trans (congrArg some (by kernel_rfl))
  f20 := ⟨Tryz.f72.name, by decide, Tryz.func72.trans (congrArg some (by kernel_rfl))⟩
  f21 := ⟨Tryz.f73.name, by decide, Tryz.func73.trans (congrArg some (by kernel_rfl))⟩
  f22 := ⟨Tryz.f74.name, by decide, Tryz.func74.trans (congrArg some (by kernel_rfl))⟩
  f23 := ⟨Tryz.f75.name, by decide, Tryz.func75.trans (congrArg some (by kernel_rfl))⟩
  f24 := ⟨Tryz.f76.name, by decide, Tryz.func76.trans (congrArg some (by kernel_rfl))⟩
  f25 := ⟨Tryz.f77.name, by decide, Tryz.func77.trans (congrArg some (by kernel_rfl))⟩
  f26 := ⟨Tryz.f78.name, by decide, Tryz.func78.trans (congrArg some (by kernel_rfl))⟩
  f27 := ⟨Tryz.f79.name, by decide, Tryz.func79.trans (congrArg some (by kernel_rfl))⟩
  f28 := Tryz.func80.trans (congrArg some (by kernel_rfl))
  f29 := Tryz.func81.trans (congrArg some (by kernel_rfl))
  f46 := ⟨Tryz.f84.name, by decide, Tryz.func84.trans (congrArg some (by kernel_rfl))⟩
  f47 := Tryz.func85.trans (congrArg some (by kernel_rfl))
  f48 := Tryz.func86.trans (congrArg some (by kernel_rfl))
  f49 := ⟨Tryz.f87.name, by decide, Tryz.func87.trans (congrArg some (by kernel_rfl))⟩
  f50 := ⟨Tryz.f88.name, by decide, Tryz.func88.trans (congrArg some (by kernel_rfl))⟩
  f57 := ⟨Tryz.f91.name, by decide, Tryz.func91.trans (congrArg some (by kernel_rfl))⟩
  t0 := Tryz.underlying0
  a0 := Tryz.isAgg0
  z0 := Tryz.sizeOf0
  v0 := Tryz.zeroValue0
  t3 := Tryz.underlying3
  a3 := Tryz.isAgg3
  z3 := Tryz.sizeOf3
  v3 := Tryz.zeroValue3
  t4 := Tryz.underlying4
  a4 := Tryz.isAgg4
  z4 := Tryz.sizeOf4
  v4 := Tryz.zeroValue4
  t5 := Tryz.underlying5
  a5 := Tryz.isAgg5
  z5 := Tryz.sizeOf5
  v5 := Tryz.zeroValue5
  t9 := Tryz.underlying9
  a9 := Tryz.isAgg9
  z9 := Tryz.sizeOf9
  v9 := Tryz.zeroValue9
  t22 := Tryz.underlying47
  a22 := Tryz.isAgg47
  z22 := Tryz.sizeOf47
  v22 := Tryz.zeroValue47
  a24 := Tryz.isAgg3
  z24 := Tryz.sizeOf3
  t25 := Tryz.underlying88
  a25 := Tryz.isAgg88
  z25 := Tryz.sizeOf88
  v25 := Tryz.zeroValue88
  t39 := Tryz.underlying115
  a39 := Tryz.isAgg115
  z39 := Tryz.sizeOf115
  v39 := Tryz.zeroValue115
  t45 := Tryz.underlying125
  a45 := Tryz.isAgg125
  z45 := Tryz.sizeOf125
  v45 := Tryz.zeroValue125
  t46 := Tryz.underlying126
  a46 := Tryz.isAgg126
  z46 := Tryz.sizeOf126
  v46 := Tryz.zeroValue126
  t50 := Tryz.underlying130
  a50 := Tryz.isAgg130
  z50 := Tryz.sizeOf130
  v50 := Tryz.zeroValue130
  t53 := Tryz.underlying133
  a53 := Tryz.isAgg133
  z53 := Tryz.sizeOf133
  v53 := Tryz.zeroValue133
  t55 := Tryz.underlying28
  a55 := Tryz.isAgg28
  z55 := Tryz.sizeOf28
  v55 := Tryz.zeroValue28
  t66 := Tryz.underlying139
  a66 := Tryz.isAgg139
  z66 := Tryz.sizeOf139
  v66 := Tryz.zeroValue139
  t70 := Tryz.underlying142
  a70 := Tryz.isAgg142
  z70 := Tryz.sizeOf142
  v70 := Tryz.zeroValue142
  t76 := Tryz.underlying146
  a76 := Tryz.isAgg146
  z76 := Tryz.sizeOf146
  v76 := Tryz.zeroValue146
  t77 := Tryz.underlying147
  a77 := Tryz.isAgg147
  z77 := Tryz.sizeOf147
  v77 := Tryz.zeroValue147 }


end Go.Proofs.YtjhffbhjiflfeaaGreat

/-!
  A family's ids: in order.
-/
namespace Go.Proofs.YtjhffbhjiflfeaaGreat
set_option linter.unusedVariables false
set_option linter.unusedSimpArgs false
set_option maxRecDepth 100000
open Go.RowKit Go.Shelf

def cmpM (x y : Mem) : Int := if cmpI x.v y.v = 0 then cmpI x.id y.id else cmpI x.v y.v
/-- So much more of the world: drawn, and blocks behind. -/
def Grew (w w' : World) : Prop := ∃ q os', w' = Sort.grow (w.drewN q) os'
theorem Grew.refl (w : World) : Grew w w := ⟨0, #[], by rw [Sort.grow_empty]; rfl⟩
theorem Grew.drew (w : World) : Grew w w.drew := ⟨1, #[], by rw [Sort.grow_empty]; rfl⟩
theorem Grew.alloc {w w' : World} (h : Grew w w') (o : Obj) : Grew w (w'.alloc o) := by
  obtain ⟨q, os, rfl⟩ := h
  exact ⟨q, os ++ #[o], by rw [Sort.alloc_eq_grow, Sort.grow_grow]⟩
theorem Grew.below {w w' : World} (h : Grew w w') : Below w.heap.size w w' := by
  obtain ⟨q, os, rfl⟩ := h
  refine ⟨rfl, rfl, rfl, by show w.heap.size ≤ (w.heap ++ os).size; simp, fun k hk => ?_⟩
  show (w.heap ++ os)[k]? = w.heap[k]?
  exact Array.getElem?_append_left hk
theorem fnd_of_mem : ∀ {Ms : List Mem}, (Ms.map (·.id)).Nodup → ∀ {x : Mem}, x ∈ Ms → fnd x.id Ms = some x
  | [], _, _, h => by cases h
  | c :: Ms, hn, x, h => by
    have h2 := List.nodup_cons.1 hn
    unfold fnd
    rcases List.mem_cons.1 h with h | h
    · subst h; exact if_pos rfl
    · rw [if_neg (fun e => h2.1 (List.mem_map.2 ⟨x, h, e.symm⟩))]
      exact fnd_of_mem h2.2 h
theorem FamAt.ids {w : World} {f mb : Nat} {mark : Int} {Ms : List Mem} (h : FamAt w f mb mark Ms) : (Ms.map (·.id)).Nodup := by
  have := h.map.nodup
  unfold MNodup famM at this
  rw [List.map_map] at this
  exact this

set_option maxHeartbeats 4000000 in
theorem vcmp_any (f mb B0 : Nat) (mark : Int) (Ms : List Mem) (x y : Mem) (w : World) (h : FamAt w f mb mark Ms) (hB : Blk w B0 24 #[.pointer (some ⟨f, 0, none⟩)]) (hx : x ∈ Ms) (hy : y ∈ Ms) :
    Calls Tryz.prog 53 #[.int .i64 x.id, .int .i64 y.id, .pointer (some ⟨B0, 0, none⟩)] w fun e w' => e = .returned (.int .i64 (cmpM x y)) ∧ Grew w w' := by
  have CU := Lib.hid (fun w => cmp_u x.v y.v w)
  have CI := Lib.hid (fun w => cmp_i x.id y.id w)
  have S5 : ∀ w' : World, Grew w w' → ((w'.cell? ⟨B0, 0, none⟩ = some (.pointer (some ⟨f, 0, none⟩)) ∧ w'.cell? ⟨f, 0, none⟩ = some (.map (some mb)) ∧ w'.cell? ⟨x.m, 1, none⟩ = some (.int .u64 x.v) ∧ w'.cell? ⟨y.m, 1, none⟩ = some (.int .u64 y.v) ∧
      (Instr.lookup 41 (.map (some mb)) (.int .i64 x.id) false).run Tryz.prog w' = .ok (.pointer (some ⟨x.m, 0, none⟩)) w' ∧ (Instr.lookup 41 (.map (some mb)) (.int .i64 y.id) false).run Tryz.prog w' = .ok (.pointer (some ⟨y.m, 0, none⟩)) w') ∧ Grew w w') := by
    intro w' hg
    have hb := hg.below
    have LX := ((h.map.next hb).look fam_desc fint_desc (mem_zero w') x.id).2
    have LY := ((h.map.next hb).look fam_desc fint_desc (mem_zero w') y.id).2
    rw [mget_fam, fnd_of_mem h.ids hx] at LX
    rw [mget_fam, fnd_of_mem h.ids hy] at LY
    simp only [Option.map_some, Option.getD_some, mptr] at LX LY
    exact ⟨⟨(hB.next hb).get 0 rfl, (h.blk.next hb).get 0 rfl, ((h.mem x hx).1.next hb).get 1 rfl, ((h.mem y hy).1.next hb).get 1 rfl, LX, LY⟩, hg⟩
  have S6 := Lib.hid S5
  clear S5
  clear h hB hx hy
  unfold cmpM
  obtain ⟨a, ea⟩ : ∃ z, cmpI x.v y.v = z := ⟨_, rfl⟩
  obtain ⟨b, eb⟩ : ∃ z, cmpI x.id y.id = z := ⟨_, rfl⟩
  rw [ea] at CU ⊢
  rw [eb] at CI ⊢
  have OR := Lib.hid (fun g w hg => or_two g a b w hg)
  obtain ⟨c, ec⟩ : ∃ z, (if a = 0 then b else a) = z := ⟨_, rfl⟩
  rw [ec] at OR ⊢
  clear ea eb ec
  go_enter Tryz.func53, Tryz.ntmps53
  go_wp2_with fail
  go_region_held3 (fun w' => (w'.cell? ⟨B0, 0, none⟩ = some (.pointer (some ⟨f, 0, none⟩)) ∧ w'.cell? ⟨f, 0, none⟩ = some (.map (some mb)) ∧ w'.cell? ⟨x.m, 1, none⟩ = some (.int .u64 x.v) ∧ w'.cell? ⟨y.m, 1, none⟩ = some (.int .u64 y.v) ∧
      (Instr.lookup 41 (.map (some mb)) (.int .i64 x.id) false).run Tryz.prog w' = .ok (.pointer (some ⟨x.m, 0, none⟩)) w' ∧ (Instr.lookup 41 (.map (some mb)) (.int .i64 y.id) false).run Tryz.prog w' = .ok (.pointer (some ⟨y.m, 0, none⟩)) w') ∧ Grew w w')
    (first | (exact S6.out _ (Grew.drew w)) | (exact S6.out _ ((Grew.drew w).alloc _)))
    (first | ((with_reducible refine (CU.out _).mono ?_); rintro e w2 ⟨rfl, rfl⟩) | ((with_reducible refine (CI.out _).mono ?_); rintro e w2 ⟨rfl, rfl⟩) | ((with_reducible refine (OR.out w.heap.size _ (Blk.new w.drew _ _)).mono ?_); rintro e w2 ⟨rfl, rfl⟩))
  all_goals (go_wp2_with fail)
  all_goals go_ret
  all_goals (exact ⟨by simp, (Grew.drew w).alloc _⟩)

end Go.Proofs.YtjhffbhjiflfeaaGreat

/-!
  A family's ids.
-/
namespace Go.Proofs.YtjhffbhjiflfeaaGreat
set_option linter.unusedVariables false
set_option linter.unusedSimpArgs false
set_option maxRecDepth 100000
open Go.RowKit Go.Shelf
attribute [local go_sem] Oper.semAt_some

theorem own_less {w : World} {B B' : Nat} {e : TypeId} {size n : Nat} {v : Value} {xs : List Value} (h : w.ownsRow B e size v n xs) (hb : B' ≤ B) : w.ownsRow B' e size v n xs := by
  obtain ⟨h1, h2⟩ := h
  refine ⟨h1, ?_⟩
  rcases h2 with h2 | ⟨g, c, cur, a1, a2, a3⟩
  · exact Or.inl h2
  · exact Or.inr ⟨g, c, cur, a1, Nat.le_trans hb a2, a3⟩
theorem own_ne {W : World} {base b : Nat} {e : TypeId} {size n : Nat} {v : Value} {xs : List Value} (h : W.ownsRow base e size v n xs) (hb : b < base) : some b ≠ v.ownBlock := by
  rcases h.2 with ⟨rfl, _⟩ | ⟨g, cap, cur, rfl, hg, _⟩
  · intro e; cases e
  · intro e; simp only [Value.ownBlock, Option.some.injEq] at e; omega
theorem own_ge {W : World} {base : Nat} {e : TypeId} {size n : Nat} {v : Value} {xs : List Value} (h : W.ownsRow base e size v n xs) {k : Nat} (hk : v.ownBlock = some k) : base ≤ k := by
  rcases h.2 with ⟨rfl, _⟩ | ⟨g, cap, cur, rfl, hg, _⟩
  · cases hk
  · simp only [Value.ownBlock, Option.some.injEq] at hk; omega
theorem own_blk {W : World} {base : Nat} {e : TypeId} {size n : Nat} {v : Value} {xs : List Value} (h : W.ownsRow base e size v n xs) {k : Nat} (hk : v.ownBlock = some k) : ∃ t cs, Blk W k t cs := by
  rcases h.2 with ⟨rfl, _⟩ | ⟨g, cap, cur, rfl, hg, hh, _⟩
  · cases hk
  · simp only [Value.ownBlock, Option.some.injEq] at hk; subst hk; exact ⟨_, _, hh⟩

def mlt (x y : Mem) : Prop := x.v < y.v ∨ (x.v = y.v ∧ x.id < y.id)
theorem cmpM_lt (x y : Mem) : cmpM x y < 0 ↔ mlt x y := by
  unfold cmpM cmpI mlt
  repeat' split
  all_goals omega
def idVal (x : Mem) : Value := .int .i64 x.id
/-- Those of D, as members. -/
def subs (Ms : List Mem) : (D : List Mem) → (∀ x ∈ D, x ∈ Ms) → List {x : Mem // x ∈ Ms}
  | [], _ => []
  | x :: D, h => ⟨x, h x (List.mem_cons_self ..)⟩ :: subs Ms D (fun y hy => h y (List.mem_cons_of_mem _ hy))
theorem subs_val {Ms : List Mem} : ∀ (D : List Mem) (h : ∀ x ∈ D, x ∈ Ms), (subs Ms D h).map (·.1) = D
  | [], _ => rfl
  | x :: D, h => by show x :: (subs Ms D _).map (·.1) = _; rw [subs_val D]
theorem subs_len {Ms : List Mem} (D : List Mem) (h : ∀ x ∈ D, x ∈ Ms) : (subs Ms D h).length = D.length := by
  have := congrArg List.length (subs_val D h)
  simpa using this
def encS (Ms : List Mem) (x : {x : Mem // x ∈ Ms}) : Value := .int .i64 x.1.id
theorem subs_enc {Ms : List Mem} (D : List Mem) (h : ∀ x ∈ D, x ∈ Ms) : (subs Ms D h).map (encS Ms) = D.map idVal := by
  have := congrArg (List.map idVal) (subs_val D h)
  rw [List.map_map] at this
  exact this
def cfS (Ms : List Mem) (x y : {x : Mem // x ∈ Ms}) : Int := cmpM x.1 y.1
theorem swoS (Ms : List Mem) : Sort.SWO (ltOf (cfS Ms)) where
  irrefl x := by unfold ltOf cfS; simp only [cmpM_lt, mlt]; simp
  trans x y z h1 h2 := by unfold ltOf cfS at *; simp only [cmpM_lt, mlt, decide_eq_true_eq] at *; omega
  ntrans x y z h1 h2 := by unfold ltOf cfS at *; simp only [cmpM_lt, mlt, decide_eq_false_iff_not] at *; omega
/-- These are the ids told: of those awake, the one with the least virtual time first, of equals the one with the least id. -/
def IdsOf (Ms L : List Mem) : Prop := L.Perm (ups Ms) ∧ L.Pairwise fun x y => ¬ mlt y x
theorem ids_sorted {Ms D : List Mem} (hD : D.Perm (ups Ms)) {d d' : Array {x : Mem // x ∈ Ms}} [Inhabited {x : Mem // x ∈ Ms}] (hd : d.toList.map (·.1) = D) (hp : Sort.PermIn 0 d.size d d') (hs : Sort.SortedIn (ltOf (cfS Ms)) 0 d.size d') : IdsOf Ms (d'.toList.map (·.1)) := by
  obtain ⟨h1, -, h3⟩ := hp
  have e1 : d.extract 0 d.size = d := Array.extract_size ..
  have e2 : d'.extract 0 d.size = d' := by rw [← h1]; exact Array.extract_size ..
  rw [e1, e2] at h3
  have h4 := h3.map (fun x : {x : Mem // x ∈ Ms} => x.1)
  rw [hd] at h4
  refine ⟨h4.trans hD, ?_⟩
  rw [List.pairwise_map]
  rw [List.pairwise_iff_getElem]
  intro i j hi hj hij
  have hi' : i < d'.size := by simpa using hi
  have hj' : j < d'.size := by simpa using hj
  have := hs i j (Nat.zero_le _) hij (by rw [← h1]; exact hj')
  unfold ltOf cfS at this
  simp only [cmpM_lt, decide_eq_false_iff_not] at this
  rw [getElem!_pos d' i hi', getElem!_pos d' j hj'] at this
  simpa using this

theorem vsort_any (f mb B0 base : Nat) (mark : Int) (Ms D : List Mem) (v : Value) (w W : World) (h : FamAt w f mb mark Ms) (hb : Below w.heap.size w W) (hB : Blk W B0 24 #[.pointer (some ⟨f, 0, none⟩)]) (hv : W.ownsRow base 3 1 v D.length (D.map idVal))
    (h1 : w.heap.size ≤ base) (h2 : B0 < base) (hD : D.Perm (ups Ms)) (hN : D.length ≤ 100000) :
    Calls Tryz.prog 52 #[v, .func (.func 53) #[] #[.pointer (some ⟨B0, 0, none⟩)]] W fun e W' => e = .returned (.tuple #[]) ∧
      ∃ L, IdsOf Ms L ∧ W'.ownsRow base 3 1 v L.length (L.map idVal) ∧ Fr (fun k => v.ownBlock = some k) W W' := by
  have hin : ∀ x ∈ D, x ∈ Ms := fun x hx => (List.mem_filter.1 (hD.subset hx)).1
  rcases hv.2 with ⟨rfl, h0⟩ | ⟨g, cap, cur, rfl, hg, hh, hn, hc, hs, ht⟩
  · refine (AnyF.slices_SortFunc_none (P := Tryz.prog) (ρ := Tryz.sortInt_ren) { Tryz.sortInt with } none 0 _ W).mono ?_
    rintro e W' ⟨rfl, rfl⟩
    exact ⟨rfl, D, ⟨hD, by rw [List.length_eq_zero_iff.1 h0]; exact List.Pairwise.nil⟩, hv, Fr.refl _ _⟩
  · by_cases hz : D = []
    · subst hz
      refine (AnyF.slices_SortFunc_none (P := Tryz.prog) (ρ := Tryz.sortInt_ren) { Tryz.sortInt with } _ cap _ W).mono ?_
      rintro e W' ⟨rfl, rfl⟩
      exact ⟨rfl, [], ⟨hD, List.Pairwise.nil⟩, hv, Fr.refl _ _⟩
    · obtain ⟨x0, hx0⟩ : ∃ x, x ∈ D := List.exists_mem_of_ne_nil D hz
      haveI : Inhabited {x : Mem // x ∈ Ms} := ⟨⟨x0, hin x0 hx0⟩⟩
      have hl : (subs Ms D hin).toArray.size = D.length := by simp [subs_len]
      have hv2 := hv
      rw [← subs_enc D hin] at hv2
      have hbx : ∀ m (d : Array {x : Mem // x ∈ Ms}) (os : Array Obj), Below w.heap.size w (sortWorld (encS Ms) W g 0 m d os) := fun m d os =>
        hb.trans ((sort_fr (encS Ms) W g m d os).below hb.size (fun k hk e => by have e : k = g := e; omega))
      have hgl : g < W.heap.size := (Array.getElem?_eq_some_iff.1 hh).1
      have key := Any.slices_SortFunc (P := Tryz.prog) (ρ := Tryz.sortInt_ren) Tryz.sortInt (encS Ms) (fun _ => rfl) (cfS Ms) (swoS Ms) 53 #[.pointer (some ⟨B0, 0, none⟩)] g 0 cap (subs Ms D hin).toArray W
        (enters_of Tryz.func53 (by kernel_rfl) rfl) ?_ (own_holds (B := base) hv2 hl) hgl (by rw [hl]; omega)
      · rw [hl] at key
        refine key.mono ?_
        rintro e W' ⟨rfl, d', n, os, hp, hsrt, rfl⟩
        have hL := ids_sorted hD (d := (subs Ms D hin).toArray) (by simpa using subs_val D hin) (by rw [hl]; exact hp) (by rw [hl]; exact hsrt)
        have hsz : d'.size = D.length := hp.1.trans hl
        refine ⟨rfl, d'.toList.map (·.1), hL, ?_, (sort_fr (encS Ms) W g n d' os).mono (fun k _ e => by have e : k = g := e; subst e; rfl)⟩
        have ho := sort_own (enc := encS Ms) (m := n) (os := os) (d := d') hv hsz
        have e : (d'.toList.map (fun x : {x : Mem // x ∈ Ms} => x.1)).length = D.length := by rw [List.length_map]; exact hsz
        rw [e, List.map_map]
        exact ho
      · intro m os dk hk x y
        have hF := hbx m dk os
        refine (vcmp_any f mb B0 mark Ms x.1 y.1 _ (h.next hF) (hB.fr (sort_fr (encS Ms) W g m dk os) (show ¬ B0 = g by omega)) x.2 y.2).mono ?_
        rintro e w' ⟨rfl, hgr⟩
        exact ⟨rfl, hgr⟩

set_option maxHeartbeats 4000000 in
theorem vids_any (f mb : Nat) (mark : Int) (Ms : List Mem) (w : World) (h : FamAt w f mb mark Ms) (hN : Ms.length ≤ 100000) :
    Calls Tryz.prog 25 #[.pointer (some ⟨f, 0, none⟩)] w fun e w' => ∃ v L, e = .returned v ∧ IdsOf Ms L ∧ w'.ownsRow w.heap.size 3 1 v L.length (L.map idVal) ∧ Below w.heap.size w w' := by
  have UP := Lib.hid (fun w => vup_any f w)
  have H := Lib.hid h
  have HN := Lib.hid hN
  clear h hN
  refine calls_of_wp_marks Tryz.func25 rfl ?_
  simp only [Tryz.ntmps25, List.size_toArray, List.length_cons, List.length_nil, Nat.reduceAdd, Nat.reduceSub, Array.replicate_succ, Array.replicate_zero, List.push_toArray, List.append_toArray, List.nil_append, List.cons_append]
  go_wp2_with fail
  have bF := (Blk.new w 24 #[.pointer (some ⟨f, 0, none⟩)]).alloc (.cells #[.slice none 0 0] 47)
  have bO := Blk.new (w.alloc (.cells #[.pointer (some ⟨f, 0, none⟩)] 24)) 47 #[.slice none 0 0]
  have hB0 : Below w.heap.size w ((w.alloc (.cells #[.pointer (some ⟨f, 0, none⟩)] 24)).alloc (.cells #[.slice none 0 0] 47)) := by go_grown
  have hsz0 : ((w.alloc (.cells #[.pointer (some ⟨f, 0, none⟩)] 24)).alloc (.cells #[.slice none 0 0] 47)).heap.size = w.heap.size + 2 := by simp
  simp only [World.size_alloc] at bO
  obtain ⟨W0, hW0⟩ : ∃ z, (w.alloc (.cells #[.pointer (some ⟨f, 0, none⟩)] 24)).alloc (.cells #[.slice none 0 0] 47) = z := ⟨_, rfl⟩
  rw [hW0] at bF bO hB0 hsz0 ⊢
  clear hW0
  with_reducible refine (UP.out W0).mono ?_
  rintro e W1 ⟨rfl, bU, hB1⟩
  rw [hsz0] at bU
  have hs1 : w.heap.size + 3 ≤ W1.heap.size := by have := bU.lt; omega
  have hB2 : Below w.heap.size w W1 := below_next hB0 hB1
  have H1 := Lib.hid (And.intro (bO.next hB1) (And.intro (bF.next hB1) (And.intro bU (And.intro hB2 hs1))))
  have HS1 := Lib.hid hsz0
  clear bF bO hB0 hsz0 hB1 bU hB2 hs1
  rw [HS1.out]
  go_wp2_with fail
  refine wp_rangeP (gf := 64) (lb := #[.pointer (some ⟨w.heap.size + 2, 0, none⟩)]) rfl (enters_of Tryz.func64 (by kernel_rfl) rfl) (up_yields f mb mark Ms (w.heap.size + 2)) (fun _ => rfl)
    (fun D W => (∃ v, Blk W (w.heap.size + 1) 47 #[v] ∧ W.ownsRow (W1.heap.size + 2) 3 1 v D.length (D.map idVal)) ∧ Blk W w.heap.size 24 #[.pointer (some ⟨f, 0, none⟩)] ∧ Blk W (w.heap.size + 2) 24 #[.pointer (some ⟨f, 0, none⟩)] ∧ Below w.heap.size w W ∧ w.heap.size + 3 ≤ W.heap.size)
    (fun _ _ _ => False) ?hI (fun _ _ _ _ h _ => h) (fun k A h => ⟨H.out.next h.2.2.2.1, h.2.2.1⟩) ?h0 ?hround ?hdone (fun _ _ _ h _ => h.elim)
  case hI =>
    rintro k A C ⟨⟨v, h1, h2⟩, h3, h4, h5, h6⟩ hs
    exact ⟨⟨v, h1.stays hs, ownsRow_stays h2 hs⟩, h3.stays hs, h4.stays hs, below_stays h5 hs (by have := H1.out.2.2.2.2; omega), Nat.le_trans h6 hs.size⟩
  case h0 => exact ⟨⟨_, H1.out.1, World.ownsRow_nil _ _ _ _⟩, H1.out.2.1, H1.out.2.2.1, H1.out.2.2.2.1, H1.out.2.2.2.2⟩
  case hround =>
    rintro D y W hcm ⟨⟨v, h1, h2⟩, h3, h4, h5, h6⟩ hlt
    have hlen : D.length < 100000 := by
      obtain ⟨R, hR⟩ := hcm
      have e1 := hR.length_eq
      have e2 : (ups Ms).length ≤ Ms.length := List.length_filter_le ..
      have := HN.out
      simp only [List.length_append, List.length_cons] at e1
      omega
    unfold encU
    gi_wp2
    refine ⟨⟨Holds.refl hlt, KeepsM.refl _⟩, fun W2 hs => ?_⟩
    have HI := Lib.hid (And.intro (Blk.stays h1 hs) (And.intro (ownsRow_stays h2 hs) (And.intro (Blk.stays h3 hs) (And.intro (Blk.stays h4 hs) (And.intro (below_stays h5 hs (by have := H1.out.2.2.2.2; omega)) (Nat.le_trans h6 hs.size))))))
    have HS2 := Lib.hid (Nat.lt_of_lt_of_le hlt hs.size)
    have HL := Lib.hid hlen
    clear h1 h2 h3 h4 h5 h6 hs hlt hcm hlen
    have c1 := HI.out.1.get 0 rfl
    have f1 := HI.out.1.frozen 0
    obtain ⟨i0, hi0, hz0, hs0, hb0⟩ := info_parts (show (Tryz.prog.info? 3).map (fun i => (i.zero, i.size, i.bytes)) = some (some (.int .i64 0), 1, 8) by kernel_rfl)
    have HIF := Lib.hid (And.intro hi0 (And.intro hz0 (And.intro hs0 hb0)))
    clear hi0 hz0 hs0 hb0
    gi_wp2_with (gi_at_builtin; refine wpListIn_append_own _ rfl (.tmp 11) (.tmp 13) 47 rfl (W1.heap.size + 2) 3 i0 (.int .i64 0) 1 8 Tryz.underlying47 HIF.out.1 HIF.out.2.1 HIF.out.2.2.1 HIF.out.2.2.2 rfl (by decide) _ _ _ rfl (HI.out.2.1.alloc _) ⟨W2.heap.size, 0, none⟩ 1 1 [.int .i64 y.id] rfl rfl (cell_one_new _ _ _) (by simp [Value.oneCell']) (by have := HL.out; unfold maxLen; omega) (by have := HL.out; omega) (by have := HS2.out; simp; omega) ?_; intro v' w1 hown' hgrow _; obtain ⟨g', cap', rfl⟩ := ownsRow_succ hown'; have HO := Lib.hid (And.intro hown' hgrow); clear hown' hgrow; have b1 := (HI.out.1.alloc _).grown HO.out.2 (own_ne HI.out.2.1 (by have := H1.out.2.2.2.2; omega)); have c2 := b1.get 0 rfl; have f2 := b1.frozen 0)
    have h13 := H1.out.2.2.2.2
    have F : Fr (fun j => j = w.heap.size + 1 ∨ v.ownBlock = some j) W2 (w1.setCell ⟨w.heap.size + 1, 0, none⟩ (Value.slice (some ⟨g', 0, none⟩) (D.length + 1) cap')) := Fr.setCell (S := fun j => j = w.heap.size + 1 ∨ v.ownBlock = some j) (p := ⟨w.heap.size + 1, 0, none⟩) (((Fr.refl (fun j => j = w.heap.size + 1 ∨ v.ownBlock = some j) W2).alloc _).grown HO.out.2 (fun j e _ => Or.inr e)) (fun _ => Or.inl rfl) _
    have hown := HI.out.2.1
    refine ⟨⟨(Holds.refl HS2.out).fr F (fun e => ?_) (fun e => ?_), KeepsM.of_fr F ?_⟩, ⟨_, b1.put 0 _, ?_⟩, HI.out.2.2.1.fr F (fun e => ?_), HI.out.2.2.2.1.fr F (fun e => ?_), HI.out.2.2.2.2.1.trans (F.below (by have := HI.out.2.2.2.2.2; omega) (fun j hj e => ?_)), Nat.le_trans HI.out.2.2.2.2.2 F.size⟩
    · rcases e with e | e
      · omega
      · have := own_ge hown e; omega
    · rcases e with e | e
      · omega
      · have := own_ge hown e; omega
    · rintro k hk (rfl | e)
      · exact ⟨_, _, HI.out.1⟩
      · exact own_blk hown e
    · rw [List.length_append, List.map_append]
      exact ownsRow_setCell_below HO.out.1 (show w.heap.size + 1 < W1.heap.size + 2 by omega) _
    · rcases e with e | e
      · omega
      · have := own_ge hown e; omega
    · rcases e with e | e
      · omega
      · have := own_ge hown e; omega
    · rcases e with e | e
      · omega
      · have := own_ge hown e; omega
  case hdone =>
    rintro D W hperm ⟨⟨v, h1, h2⟩, h3, h4, h5, h6⟩ hD
    have c1 := h1.get 0 rfl
    have h13 := H1.out.2.2.2.2
    have hlen : D.length ≤ 100000 := by
      have e1 := hperm.length_eq
      have e2 : (ups Ms).length ≤ Ms.length := List.length_filter_le ..
      have := HN.out
      omega
    have ST := Lib.hid (vsort_any f mb w.heap.size (W1.heap.size + 2) mark Ms D v w W H.out h5 h3 h2 (by omega) (by omega) hperm hlen)
    have HI := Lib.hid (And.intro h1 (And.intro h2 (And.intro h5 hD)))
    clear h1 h2 h3 h4 h5 h6 hD hlen h13
    go_wp2_with fail
    with_reducible refine (ST.out).mono ?_
    rintro e W3 ⟨rfl, L, g1, g2, g3⟩
    have h13 := H1.out.2.2.2.2
    have b3 : Blk W3 (w.heap.size + 1) 47 #[v] := HI.out.1.fr g3 (fun e => by have := own_ge HI.out.2.1 e; omega)
    have hB3 : Below w.heap.size w W3 := HI.out.2.2.1.trans (g3.below HI.out.2.2.1.size (fun j hj e => by have := own_ge HI.out.2.1 e; omega))
    have hlm := (Array.getElem?_eq_some_iff.1 HI.out.2.2.2).1
    have hD3 : W3.heap[W1.heap.size]? = some (.deferred (some [])) := (g3.block _ hlm (fun e => by have := own_ge HI.out.2.1 e; omega)).trans HI.out.2.2.2
    have c3 := b3.get 0 rfl
    have HG := Lib.hid (And.intro g1 (And.intro g2 (And.intro hB3 hD3)))
    clear c1 g1 g2 g3 b3 hB3 hD3 hlm h13
    go_wp2_with fail
    refine marks_ret (B := w.heap.size) [W1.heap.size] rfl (by intro D hd; simp only [List.mem_singleton] at hd; subst hd; exact ⟨by have := H1.out.2.2.2.2; omega, HG.out.2.2.2⟩) (by simp) ?_
    intro w' hs
    exact ⟨_, results_tmp rfl _ _ _, v, L, rfl, HG.out.1, own_less (ownsRow_stays HG.out.2.1 hs) (by have := H1.out.2.2.2.2; omega), below_stays HG.out.2.2.1 hs (Nat.le_refl _)⟩

end Go.Proofs.YtjhffbhjiflfeaaGreat
