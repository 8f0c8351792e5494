/-
  Straight families: whose members are known; what two of them gain is fair.
-/
import Derived.Test.YtjhffbhjiflfeaaGreatVirtX
namespace Go.Proofs.YtjhffbhjiflfeaaGreat
set_option linter.unusedVariables false
set_option linter.unusedSimpArgs false

theorem fnd_set_other {y x : Mem} {j : Int} : ∀ {Ms : List Mem}, fnd y.id Ms = some x → j ≠ y.id → fnd j (setM y Ms) = fnd j Ms
  | [], h, _ => by cases h
  | z :: Ms, h, hj => by
    unfold fnd at h
    unfold setM
    by_cases e : z.id = y.id
    · rw [if_pos e]
      show (if y.id = j then some y else fnd j Ms) = (if z.id = j then some z else fnd j Ms)
      rw [if_neg (Ne.symm hj), if_neg (by rw [e]; exact Ne.symm hj)]
    · rw [if_neg e] at h
      rw [if_neg e]
      show (if z.id = j then some z else fnd j (setM y Ms)) = (if z.id = j then some z else fnd j Ms)
      rw [fnd_set_other h hj]
theorem fnd_setM {y x : Mem} {j : Int} {Ms : List Mem} (h : fnd y.id Ms = some x) : fnd j (setM y Ms) = if j = y.id then some y else fnd j Ms := by
  by_cases e : j = y.id
  · subst e; rw [if_pos rfl]; exact fnd_set y h
  · rw [if_neg e]; exact fnd_set_other h e
/-- The members are 0 .. n-1, each of its slope. -/
structure Kin (n : Int) (r : Int → Int) (S : FS) : Prop where
  mem : ∀ x ∈ S.L, 0 ≤ x.id ∧ x.id < n ∧ ∃ m a K, x.s = .sag 0 0 (r x.id) m a K
  all : ∀ j, 0 ≤ j → j < n → ∃ x, fnd j S.L = some x
section
variable {n : Int} {r : Int → Int} {S : FS}
theorem Kin.setM {k : Int} {y x : Mem} (h : Kin n r S) (hf : fnd y.id S.L = some x) (hs : ∃ m a K, y.s = .sag 0 0 (r y.id) m a K) : Kin n r ⟨k, setM y S.L⟩ := by
  have hx := h.mem x (fnd_mem hf).1
  have hid := (fnd_mem hf).2
  refine ⟨fun z hz => ?_, fun j h0 h1 => ?_⟩
  · rcases mem_set hz with rfl | hz
    · exact ⟨by rw [← hid]; exact hx.1, by rw [← hid]; exact hx.2.1, hs⟩
    · exact h.mem z hz
  · show ∃ z, fnd j (Go.Proofs.YtjhffbhjiflfeaaGreat.setM y S.L) = some z
    rw [fnd_setM hf]
    split
    · exact ⟨_, rfl⟩
    · exact h.all j h0 h1
theorem start_sag {s : RS} {R X Y : Int} (h : ∃ m a K, s = .sag 0 0 R m a K) : ∃ m a K, s.start X Y = .sag 0 0 R m a K := by
  obtain ⟨m, a, K, rfl⟩ := h
  exact ⟨_, _, _, rfl⟩
theorem Kin.wake (h : Kin n r S) (id : Int) : Kin n r (S.wake id) := by
  unfold FS.wake
  cases hf : fnd id S.L with
  | none => exact h
  | some x =>
    have hid := (fnd_mem hf).2
    have hx := h.mem x (fnd_mem hf).1
    dsimp only
    split
    · exact h
    · exact h.setM (y := wokenM S.k S.L x) (x := x) (by show fnd x.id S.L = some x; rw [hid]; exact hf) (start_sag hx.2.2)
theorem Kin.sleep (h : Kin n r S) (id : Int) : Kin n r (S.sleep id) := by
  unfold FS.sleep
  cases hf : fnd id S.L with
  | none => exact h
  | some x =>
    have hid := (fnd_mem hf).2
    have hx := h.mem x (fnd_mem hf).1
    exact h.setM (y := { x with up := false }) (x := x) (by show fnd x.id S.L = some x; rw [hid]; exact hf) hx.2.2
theorem Kin.gain (h : Kin n r S) (id g : Int) : Kin n r (S.gain id g) := by
  unfold FS.gain
  cases hf : fnd id S.L with
  | none => exact h
  | some x =>
    have hid := (fnd_mem hf).2
    have hx := h.mem x (fnd_mem hf).1
    dsimp only
    split
    · exact h.setM (y := { x with T := gainT x g, v := x.s.reach (gainT x g) }) (x := x) (by show fnd x.id S.L = some x; rw [hid]; exact hf) hx.2.2
    · exact h.setM (y := { x with T := gainT x g }) (x := x) (by show fnd x.id S.L = some x; rw [hid]; exact hf) hx.2.2
end
/-- As many have come. -/
structure Come (i : Nat) (r : Int → Int) (S : FS) : Prop where
  mem : ∀ x ∈ S.L, 0 ≤ x.id ∧ x.id < i ∧ ∃ m a K, x.s = .sag 0 0 (r x.id) m a K
  all : ∀ j : Int, 0 ≤ j → j < i → ∃ x, fnd j S.L = some x
theorem fnd_none {j : Int} : ∀ {Ms : List Mem}, (∀ x ∈ Ms, x.id ≠ j) → fnd j Ms = none
  | [], _ => rfl
  | x :: Ms, h => by
    unfold fnd
    rw [if_neg (h x (List.mem_cons_self ..))]
    exact fnd_none fun y hy => h y (List.mem_cons_of_mem _ hy)
theorem fnd_app {j : Int} {y z : Mem} : ∀ {Ms : List Mem}, fnd j Ms = some z → fnd j (Ms ++ [y]) = some z
  | [], h => by cases h
  | x :: Ms, h => by
    unfold fnd at h
    show (if x.id = j then some x else fnd j (Ms ++ [y])) = some z
    split at h
    · rename_i e; rw [if_pos e]; exact h
    · rename_i e; rw [if_neg e]; exact fnd_app h
theorem Come.add {i : Nat} {r : Int → Int} {S S' : FS} (h : Come i r S) (hr : 1 ≤ r i) (hr1 : r i ≤ 4096) (ha : Added (i : Int) 0 0 (r i) S S') : Come (i + 1) r S' := by
  have hn : fnd (i : Int) S.L = none := fnd_none fun x hx => by have := (h.mem x hx).2.1; omega
  have hm : mayB 0 0 (r i) = true := by
    unfold mayB
    rw [if_neg (by omega)]
    rfl
  have hadd : addR (i : Int) 0 0 (r i) S = true := by unfold addR; rw [hn, hm]; rfl
  rcases ha with ⟨-, -, m, p, q, rfl⟩ | ⟨e, -⟩
  · refine ⟨fun x hx => ?_, fun j h0 h1 => ?_⟩
    · rcases List.mem_append.1 hx with hx | hx
      · have := h.mem x hx
        exact ⟨this.1, by have := this.2.1; omega, this.2.2⟩
      · rw [List.mem_singleton.1 hx]
        exact ⟨by show (0 : Int) ≤ (i : Int); omega, by show (i : Int) < ((i + 1 : Nat) : Int); omega, 0, 0, [], by show RS.new 0 0 (r i) = _; unfold RS.new; rw [if_neg (by omega)]; rfl⟩
    · by_cases e : j = (i : Int)
      · subst e
        exact ⟨_, fnd_app_new (y := newM (i : Int) m p q 0 0 (r i)) rfl hn⟩
      · obtain ⟨x, hx⟩ := h.all j h0 (by omega)
        exact ⟨x, fnd_app hx⟩
  · rw [hadd] at e; cases e
theorem Come.kin {i : Nat} {r : Int → Int} {S : FS} (h : Come i r S) : Kin i r S := ⟨h.mem, h.all⟩
theorem come_none (r : Int → Int) : Come 0 r ⟨0, []⟩ := ⟨fun x hx => (by cases hx), fun j h0 h1 => by omega⟩

/-! ### What one gained since -/
/-- c is awake, its run is this one, and it has gained g since its total was T0. -/
def Got (c r m a b T0 g : Int) (S : FS) : Prop := ∃ x, fnd c S.L = some x ∧ x.up = true ∧ x.s = .sag 0 0 r m a [(a, b)] ∧ x.T = T0 + g
section
variable {c r m a b T0 g : Int} {S : FS}
theorem Got.wake (h : Got c r m a b T0 g S) (id : Int) : Got c r m a b T0 g (S.wake id) := by
  obtain ⟨x, h1, h2, h3, h4⟩ := h
  unfold FS.wake
  cases hf : fnd id S.L with
  | none => exact ⟨x, h1, h2, h3, h4⟩
  | some z =>
    dsimp only
    split
    · exact ⟨x, h1, h2, h3, h4⟩
    · rename_i hu
      have hid := (fnd_mem hf).2
      refine ⟨x, ?_, h2, h3, h4⟩
      show fnd c (setM (wokenM S.k S.L z) S.L) = some x
      rw [fnd_setM (y := wokenM S.k S.L z) (x := z) (by show fnd z.id S.L = some z; rw [hid]; exact hf)]
      show (if c = z.id then _ else fnd c S.L) = some x
      rw [if_neg (fun e => by rw [hid] at e; subst e; rw [hf] at h1; cases h1; exact hu h2)]
      exact h1
theorem Got.sleep (h : Got c r m a b T0 g S) {id : Int} (hne : id ≠ c) : Got c r m a b T0 g (S.sleep id) := by
  obtain ⟨x, h1, h2, h3, h4⟩ := h
  unfold FS.sleep
  cases hf : fnd id S.L with
  | none => exact ⟨x, h1, h2, h3, h4⟩
  | some z =>
    have hid := (fnd_mem hf).2
    refine ⟨x, ?_, h2, h3, h4⟩
    show fnd c (setM { z with up := false } S.L) = some x
    rw [fnd_setM (y := { z with up := false }) (x := z) (by show fnd z.id S.L = some z; rw [hid]; exact hf)]
    show (if c = z.id then _ else fnd c S.L) = some x
    rw [if_neg (fun e => hne (by rw [← hid, ← e]))]
    exact h1
theorem Got.gain (h : Got c r m a b T0 g S) {id d : Int} (hT : ∀ x, fnd id S.L = some x → gainT x d = x.T + d) : Got c r m a b T0 (if c = id then g + d else g) (S.gain id d) := by
  obtain ⟨x, h1, h2, h3, h4⟩ := h
  unfold FS.gain
  by_cases e : c = id
  · subst e
    rw [h1, if_pos rfl]
    dsimp only
    rw [if_pos h2]
    have hid := (fnd_mem h1).2
    refine ⟨{ x with T := gainT x d, v := x.s.reach (gainT x d) }, ?_, h2, h3, by show gainT x d = _; rw [hT x h1, h4]; omega⟩
    show fnd c (setM { x with T := gainT x d, v := x.s.reach (gainT x d) } S.L) = _
    rw [fnd_setM (y := { x with T := gainT x d, v := x.s.reach (gainT x d) }) (x := x) (by show fnd x.id S.L = some x; rw [hid]; exact h1)]
    show (if c = x.id then _ else fnd c S.L) = _
    rw [if_pos hid.symm]
  · rw [if_neg e]
    cases hf : fnd id S.L with
    | none => exact ⟨x, h1, h2, h3, h4⟩
    | some z =>
      have hid := (fnd_mem hf).2
      dsimp only
      split
      · refine ⟨x, ?_, h2, h3, h4⟩
        show fnd c (setM { z with T := gainT z d, v := z.s.reach (gainT z d) } S.L) = some x
        rw [fnd_setM (y := { z with T := gainT z d, v := z.s.reach (gainT z d) }) (x := z) (by show fnd z.id S.L = some z; rw [hid]; exact hf)]
        show (if c = z.id then _ else fnd c S.L) = some x
        rw [if_neg (by rw [hid]; exact e)]
        exact h1
      · refine ⟨x, ?_, h2, h3, h4⟩
        show fnd c (setM { z with T := gainT z d } S.L) = some x
        rw [fnd_setM (y := { z with T := gainT z d }) (x := z) (by show fnd z.id S.L = some z; rw [hid]; exact hf)]
        show (if c = z.id then _ else fnd c S.L) = some x
        rw [if_neg (by rw [hid]; exact e)]
        exact h1
/-- What is so of who is awake now. -/
theorem got_begin {l M n : Int} {i N : Nat} {rr : Int → Int} (hs : Strt l M i S) (ok : S.ok N) (hk : Kin n rr S) {x : Mem} (hf : fnd c S.L = some x) (hu : x.up = true) :
    ∃ m a b, 1 ≤ m ∧ Got c (rr c) m a b x.T 0 S ∧ IsUp (rr c) (x.T - b) (x.v - a) := by
  obtain ⟨hin, hid⟩ := fnd_mem hf
  obtain ⟨r', m, a, K, h1, h2, h3, h4⟩ := (hs.mem x hin).1
  obtain ⟨-, -, m', a', K', e⟩ := hk.mem x hin
  have hm := (ok.mem x hin).one hu
  rw [h1] at hm
  rw [h1] at e
  rw [hid] at e
  injection e with e1 e2 e3 e4 e5 e6
  subst e3
  rcases h4 with ⟨e0, -⟩ | ⟨-, b, rfl, -, -, -, hq⟩
  · have : (1 : Int) ≤ m := hm
    omega
  · exact ⟨m, a, b, hm, ⟨x, hf, hu, h1, by omega⟩, hq⟩
theorem Got.now {l M : Int} {i : Nat} (h : Got c r m a b T0 g S) (hs : Strt l M i S) (hm : 1 ≤ m) : ∃ x, fnd c S.L = some x ∧ x.up = true ∧ l ≤ r ∧ r ≤ 4096 ∧ IsUp r (T0 + g - b) (x.v - a) := by
  obtain ⟨x, h1, h2, h3, h4⟩ := h
  obtain ⟨r', m', a', K, k1, k2, k3, k4⟩ := (hs.mem x (fnd_mem h1).1).1
  rw [h3] at k1
  injection k1 with e1 e2 e3 e4 e5 e6
  subst e3 e4 e5 e6
  rcases k4 with ⟨e0, -⟩ | ⟨-, b', e, -, -, -, hq⟩
  · omega
  · injection e with e _
    injection e with _ e
    subst e
    exact ⟨x, h1, h2, k2, k3, by rw [← h4]; exact hq⟩
end
/-- The plain law. -/
theorem fair_le {ra rb l M D ga gb va vb va0 vb0 aa ab ba bb Ta Tb : Int} (hra : 1 ≤ ra) (hrb : 1 ≤ rb) (hl : 1 ≤ l) (hD : IsUp l M D)
    (a0 : IsUp ra (Ta - ba) (va0 - aa)) (a1 : IsUp ra (Ta + ga - ba) (va - aa)) (b0 : IsUp rb (Tb - bb) (vb0 - ab)) (b1 : IsUp rb (Tb + gb - bb) (vb - ab)) (h0 : vb0 - va0 ≤ D) (h1 : va - vb ≤ D) :
    (ga * rb - gb * ra) * l ≤ (2 * M + 4 * l) * ra * rb := by
  obtain ⟨-, a02, a03⟩ := a0
  obtain ⟨-, a12, a13⟩ := a1
  obtain ⟨-, b02, b03⟩ := b0
  obtain ⟨-, b12, b13⟩ := b1
  obtain ⟨-, -, d3⟩ := hD
  have g1 : ga ≤ ra * (va - va0 + 1) := by
    have e : ra * (va - va0 + 1) = ra * (va - aa) - ra * (va0 - aa - 1) := by rw [← Int.mul_sub]; congr 1; omega
    omega
  have g2 : rb * (vb - vb0 - 1) ≤ gb := by
    have e : rb * (vb - vb0 - 1) = rb * (vb - ab - 1) - rb * (vb0 - ab) := by rw [← Int.mul_sub]; congr 1; omega
    omega
  have p0 : 0 ≤ ra * rb := Int.mul_nonneg (by omega) (by omega)
  have k1 : ga * rb ≤ ra * rb * (va - va0 + 1) := by
    have := Int.mul_le_mul_of_nonneg_right g1 (show 0 ≤ rb by omega)
    rw [show ra * rb * (va - va0 + 1) = ra * (va - va0 + 1) * rb by rw [Int.mul_assoc, Int.mul_comm rb, ← Int.mul_assoc]]
    exact this
  have k2 : ra * rb * (vb - vb0 - 1) ≤ gb * ra := by
    have := Int.mul_le_mul_of_nonneg_right g2 (show 0 ≤ ra by omega)
    rw [show ra * rb * (vb - vb0 - 1) = rb * (vb - vb0 - 1) * ra by rw [Int.mul_comm ra, Int.mul_assoc, Int.mul_comm ra, ← Int.mul_assoc]]
    exact this
  have k3 : ga * rb - gb * ra ≤ ra * rb * (2 * D + 2) := by
    have e : ra * rb * (va - va0 + 1) - ra * rb * (vb - vb0 - 1) = ra * rb * (va - va0 + 1 - (vb - vb0 - 1)) := by rw [← Int.mul_sub]
    have := Int.mul_le_mul_of_nonneg_left (show va - va0 + 1 - (vb - vb0 - 1) ≤ 2 * D + 2 by omega) p0
    omega
  have k4 : (2 * D + 2) * l ≤ 2 * M + 4 * l := by
    have e : l * (D - 1) = D * l - l := by rw [Int.mul_sub, Int.mul_one, Int.mul_comm]
    rw [Int.add_mul, Int.mul_assoc]
    omega
  have k5 := Int.mul_le_mul_of_nonneg_right k3 (show 0 ≤ l by omega)
  have k6 := Int.mul_le_mul_of_nonneg_left k4 p0
  have e1 : ra * rb * (2 * D + 2) * l = ra * rb * ((2 * D + 2) * l) := by rw [Int.mul_assoc]
  have e2 : (2 * M + 4 * l) * ra * rb = ra * rb * (2 * M + 4 * l) := by rw [Int.mul_assoc, Int.mul_comm]
  omega

end Go.Proofs.YtjhffbhjiflfeaaGreat
