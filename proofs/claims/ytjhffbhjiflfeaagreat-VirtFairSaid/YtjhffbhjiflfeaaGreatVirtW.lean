/-
  Families of straight curves: who is awake is near the others.
-/
import Derived.Test.YtjhffbhjiflfeaaGreatVirtP
namespace Go.Proofs.YtjhffbhjiflfeaaGreat
set_option linter.unusedVariables false
set_option linter.unusedSimpArgs false

/-- q is d by r, rounded up. -/
def IsUp (r d q : Int) : Prop := 0 ≤ q ∧ d ≤ r * q ∧ r * (q - 1) < d
theorem isUp_zero {r : Int} (hr : 1 ≤ r) : IsUp r 0 0 := ⟨Int.le_refl _, by omega, by omega⟩
theorem isUp_up {M l : Int} (hl : 1 ≤ l) (hM : 0 ≤ M) : IsUp l M ((M + l - 1) / l) := by
  have e := Int.emod_add_mul_ediv (M + l - 1) l
  have r0 := Int.emod_nonneg (M + l - 1) (show l ≠ 0 by omega)
  have r1 := Int.emod_lt_of_pos (M + l - 1) (show 0 < l by omega)
  have q0 : 0 ≤ (M + l - 1) / l := Int.ediv_nonneg (by omega) (by omega)
  refine ⟨q0, by omega, ?_⟩
  rw [Int.mul_sub, Int.mul_one]
  omega
theorem isUp_le {r d d' q q' : Int} (hr : 1 ≤ r) (h : IsUp r d q) (h' : IsUp r d' q') (hd : d ≤ d') : q ≤ q' := by
  obtain ⟨a, b, c⟩ := h
  obtain ⟨a', b', c'⟩ := h'
  have : r * (q - 1) < r * q' := by omega
  have := Int.lt_of_mul_lt_mul_left this (by omega)
  omega
/-- So much more, by no lesser a slope, is at most so many ticks more. -/
theorem isUp_more {r l d g M q q' Q : Int} (hl : 1 ≤ l) (hr : l ≤ r) (h : IsUp r d q) (h' : IsUp r (d + g) q') (hQ : IsUp l M Q) (hg : g ≤ M) : q' ≤ q + Q := by
  obtain ⟨a, b, c⟩ := h
  obtain ⟨a', b', c'⟩ := h'
  obtain ⟨aq, bq, cq⟩ := hQ
  have h1 := Int.mul_le_mul_of_nonneg_right hr aq
  have h2 : r * (q' - 1) < r * (q + Q) := by rw [Int.mul_add]; omega
  have := Int.lt_of_mul_lt_mul_left h2 (by omega)
  omega
theorem up_mono {M M' l : Int} (hl : 1 ≤ l) (h : M ≤ M') : (M + l - 1) / l ≤ (M' + l - 1) / l := Int.ediv_le_ediv (by omega) (by omega)
theorem up_anti {M l l' : Int} (hl : 1 ≤ l') (h : l' ≤ l) (hM : 0 ≤ M) : (M + l - 1) / l ≤ (M + l' - 1) / l' := by
  have a := isUp_up (M := M) (l := l) (by omega) hM
  have b := isUp_up (M := M) (l := l') hl hM
  obtain ⟨a0, a1, a2⟩ := a
  obtain ⟨b0, b1, b2⟩ := b
  have h1 := Int.mul_le_mul_of_nonneg_right h b0
  have h2 : l * ((M + l - 1) / l - 1) < l * ((M + l' - 1) / l') := by omega
  have := Int.lt_of_mul_lt_mul_left h2 (by omega)
  omega
theorem up_le_self {M l : Int} (hl : 1 ≤ l) (hM : 0 ≤ M) : (M + l - 1) / l ≤ M := by
  have := up_anti (M := M) (l := l) (l' := 1) (Int.le_refl _) hl hM
  rw [Int.add_sub_cancel, Int.ediv_one] at this
  exact this
theorem reach_straight {r d : Int} (h1 : 1 ≤ r) (hd : 0 ≤ d) (hd1 : d ≤ 4611686018427387904) : IsUp r d (reachN 0 0 r d) := by
  unfold reachN
  rw [if_neg (by omega), if_neg (by omega)]
  by_cases h0 : d - 0 * 0 = 0
  · rw [if_pos h0]
    have : d = 0 := by omega
    subst this
    exact isUp_zero h1
  · rw [if_neg h0, if_neg (by omega)]
    have hs := up_spec (y := d - 0 * 0) (s := r) (by omega) (by omega) (by omega) rfl
    have e : (d - 0 * 0) = d := by omega
    rw [e] at hs ⊢
    exact ⟨by omega, by rw [Int.zero_add]; exact hs.1, by rw [Int.zero_add]; exact hs.2.1⟩

/-- A member of a straight curve, of no lesser slope than l. -/
def Str (l : Int) (x : Mem) : Prop := ∃ r n a K, x.s = .sag 0 0 r n a K ∧ l ≤ r ∧ r ≤ 4096 ∧
  ((n = 0 ∧ a = 0 ∧ K = [] ∧ x.T = 0 ∧ x.v = 0) ∨ (1 ≤ n ∧ ∃ b, K = [(a, b)] ∧ 0 ≤ b ∧ b ≤ x.T ∧ 0 ≤ a ∧ IsUp r (x.T - b) (x.v - a)))
theorem Str.less {l l' : Int} {x : Mem} (h : Str l x) (hl : l' ≤ l) : Str l' x := by
  obtain ⟨r, n, a, K, h1, h2, h3, h4⟩ := h
  exact ⟨r, n, a, K, h1, by omega, h3, h4⟩
theorem str_new {l r : Int} (id : Int) (m p q : Nat) (h0 : 0 ≤ r) (hl : l ≤ r) (hr : r ≤ 4096) : Str l (newM id m p q 0 0 r) :=
  ⟨r, 0, 0, [], by show RS.new 0 0 r = _; unfold RS.new; rw [if_neg (by omega)], hl, hr, Or.inl ⟨rfl, rfl, rfl, rfl, rfl⟩⟩
/-- One that is awake gains. -/
theorem str_gain {l g : Int} {x : Mem} (h : Str l x) (hl : 1 ≤ l) (ha : 1 ≤ x.s.many) (hT : x.T + g ≤ 4611686018427387904) (hg : 0 ≤ g) (hv : x.v + g < 9223372036854775808) (up : Bool) :
    gainT x g = x.T + g ∧ x.v ≤ x.s.reach (x.T + g) ∧ x.s.reach (x.T + g) ≤ x.v + (g + l - 1) / l ∧ Str l { x with T := x.T + g, v := x.s.reach (x.T + g), up := up } := by
  obtain ⟨r, n, a, K, h1, h2, h3, h4⟩ := h
  rw [h1] at ha
  have ha : 1 ≤ n := ha
  rcases h4 with ⟨e, -⟩ | ⟨-, b, rfl, hb0, hbT, ha0, hu⟩
  · omega
  · have hq := reach_straight (r := r) (d := x.T + g - b) (by omega) (by omega) (by omega)
    have hle := isUp_le (by omega) hu hq (by omega)
    have hmore := isUp_more (d := x.T - b) (g := g) hl h2 hu (by rw [show x.T - b + g = x.T + g - b by omega]; exact hq) (isUp_up (M := g) hl hg) (Int.le_refl _)
    have hself := up_le_self (M := g) hl hg
    have hm : minusN (x.T + g) b = x.T + g - b := by unfold minusN; rw [if_neg (by omega), stop_small (by omega)]
    have hr : x.s.reach (x.T + g) = a + reachN 0 0 r (x.T + g - b) := by
      rw [h1]
      show sReach 0 0 r n a [(a, b)] (x.T + g) = _
      unfold sReach
      rw [if_neg (by omega), if_neg (by omega)]
      unfold sGo
      dsimp only
      rw [hm, if_neg (by omega)]
      unfold sGo
      have := hq.1
      omega
    refine ⟨by unfold gainT; omega, by rw [hr]; omega, by rw [hr]; omega, r, n, a, [(a, b)], h1, h2, h3, Or.inr ⟨ha, b, rfl, hb0, by show b ≤ x.T + g; omega, ha0, ?_⟩⟩
    show IsUp r (x.T + g - b) (x.s.reach (x.T + g) - a)
    rw [hr, show a + reachN 0 0 r (x.T + g - b) - a = reachN 0 0 r (x.T + g - b) by omega]
    exact hq
/-- One wakes, at no earlier a tick. -/
theorem str_wake {l X : Int} {x : Mem} (h : Str l x) (hl : 1 ≤ l) (hX : x.v ≤ X) (hX1 : X ≤ 9223372036854775808) (hT : 0 ≤ x.T ∧ x.T ≤ 4611686018427387904) (hv : 0 ≤ x.v) : Str l { x with v := X, s := x.s.start X x.T, up := true } := by
  obtain ⟨r, n, a, K, h1, h2, h3, h4⟩ := h
  have hc : capN x.T = x.T := by unfold capN; omega
  rcases h4 with ⟨rfl, rfl, rfl, hT0, hv0⟩ | ⟨hn, b, rfl, hb0, hbT, ha0, hu⟩
  · have hx : nextX 0 X = X := by unfold nextX; omega
    refine ⟨r, 0 + 1, X, [(X, x.T)], ?_, h2, h3, Or.inr ⟨by omega, x.T, rfl, hT.1, Int.le_refl _, by omega, ?_⟩⟩
    · show x.s.start X x.T = _
      rw [h1]
      show RS.sag 0 0 r (0 + 1) (nextX 0 X) (sNext 0 0 r 0 X x.T []) = _
      unfold sNext
      rw [hx, hc]
      rfl
    · show IsUp r (x.T - x.T) (X - X)
      rw [Int.sub_self, Int.sub_self]
      exact isUp_zero (by omega)
  · have hav : a ≤ x.v := by have := hu.1; omega
    have hx : nextX a X = X := by unfold nextX; omega
    have hrun : x.T ≤ r * (X - a) + b := by
      have h5 := hu.2.1
      have h6 := Int.mul_le_mul_of_nonneg_left (show x.v - a ≤ X - a by omega) (show 0 ≤ r by omega)
      omega
    refine ⟨r, n + 1, X, [(X, x.T)], ?_, h2, h3, Or.inr ⟨by omega, x.T, rfl, hT.1, Int.le_refl _, by omega, ?_⟩⟩
    · show x.s.start X x.T = _
      rw [h1]
      show RS.sag 0 0 r (n + 1) (nextX a X) (sNext 0 0 r a X x.T [(a, b)]) = _
      unfold sNext
      rw [hx, hc]
      have e1 : sHas 0 0 r X (X, x.T) = x.T := by unfold sHas rawN; dsimp only; simp
      have e2 : sHas 0 0 r X (a, b) = r * (X - a) + b := by
        unfold sHas rawN
        dsimp only
        rw [show min (X - a) 0 = 0 by omega]
        simp
      have e3 : sKept 0 0 r X ([(a, b)] ++ [(X, x.T)]) = [(X, x.T)] := by
        show sPush 0 0 r X (sPush 0 0 r X [] (a, b)) (X, x.T) = _
        have f1 : sPush 0 0 r X [] (a, b) = [(a, b)] := rfl
        rw [f1]
        unfold sPush
        rw [e1]
        unfold sPop
        rw [e2, if_pos hrun]
        rfl
      rw [e3]
      rfl
    · show IsUp r (x.T - x.T) (X - X)
      rw [Int.sub_self, Int.sub_self]
      exact isUp_zero (by omega)

/-! ### All of them -/
structure Strt (l M : Int) (i : Nat) (S : FS) : Prop where
  l1 : 1 ≤ l
  l2 : l ≤ 4096
  m0 : 0 ≤ M
  m1 : M ≤ 384000
  i1 : i ≤ 1000
  mem : ∀ x ∈ S.L, Str l x ∧ x.T ≤ 384000 * i
  mark : S.k ≤ 384000 * i
  near : ups S.L ≠ [] → S.k ≤ lowOf (ups S.L) + (M + l - 1) / l
theorem low_ge {A : List Mem} {b : Int} (h : ∀ z ∈ A, b ≤ z.v) (hb : b ≤ 9223372036854775808) : b ≤ lowOf A := by
  rcases (low_is (D := A)).1 with e | ⟨x, hx, e⟩
  · omega
  · rw [← e]; exact h x hx
theorem mem_ups {x : Mem} {Ms : List Mem} : x ∈ ups Ms ↔ x ∈ Ms ∧ x.up = true := List.mem_filter
section
variable {l M : Int} {i N : Nat} {S : FS}
theorem Strt.lower {l' : Int} (h : Strt l M i S) (h1 : 1 ≤ l') (hl : l' ≤ l) : Strt l' M i S :=
  ⟨h1, by have := h.l2; omega, h.m0, h.m1, h.i1, fun x hx => ⟨(h.mem x hx).1.less hl, (h.mem x hx).2⟩, h.mark, fun hn => Int.le_trans (h.near hn) (by have := up_anti (M := M) h1 hl h.m0; omega)⟩
theorem Strt.more {M' : Int} {i' : Nat} (h : Strt l M i S) (hM : M ≤ M') (hM1 : M' ≤ 384000) (hi : i ≤ i') (hi1 : i' ≤ 1000) : Strt l M' i' S :=
  ⟨h.l1, h.l2, by have := h.m0; omega, hM1, hi1, fun x hx => ⟨(h.mem x hx).1, by have := (h.mem x hx).2; omega⟩, by have := h.mark; omega, fun hn => Int.le_trans (h.near hn) (by have := up_mono (l := l) h.l1 hM; omega)⟩
/-- Where fewer are awake, and nothing else is otherwise. -/
theorem Strt.fewer {S' : FS} (h : Strt l M i S) (ok : S.ok N) (hk : S'.k = S.k) (hm : ∀ x ∈ S'.L, Str l x ∧ x.T ≤ 384000 * i) (hu : ∀ x ∈ ups S'.L, x ∈ ups S.L) : Strt l M i S' := by
  refine ⟨h.l1, h.l2, h.m0, h.m1, h.i1, hm, by rw [hk]; exact h.mark, fun hn => ?_⟩
  obtain ⟨y, hy⟩ := List.exists_mem_of_ne_nil _ hn
  have hn0 : ups S.L ≠ [] := fun e => by have := hu y hy; rw [e] at this; cases this
  have hl := low_le (hu y hy)
  have hyk := (ok.mem y (mem_ups.1 (hu y hy)).1).v1
  have := low_ge (A := ups S'.L) (b := lowOf (ups S.L)) (fun z hz => (low_le (hu z hz)).1) (by have := ok.k1; omega)
  have := h.near hn0
  rw [hk]
  omega
theorem Strt.sleep (h : Strt l M i S) (ok : S.ok N) (id : Int) : Strt l M i (S.sleep id) := by
  unfold FS.sleep
  cases hf : fnd id S.L with
  | none => exact h
  | some x =>
    refine h.fewer (S' := ⟨S.k, setM { x with up := false } S.L⟩) ok rfl (fun z hz => ?_) (fun z hz => ?_)
    · rcases mem_set hz with rfl | hz
      · exact h.mem x (fnd_mem hf).1
      · exact h.mem z hz
    · obtain ⟨hz1, hz2⟩ := mem_ups.1 hz
      rcases mem_set hz1 with rfl | hz1
      · cases hz2
      · exact mem_ups.2 ⟨hz1, hz2⟩
theorem Strt.drop (h : Strt l M i S) (ok : S.ok N) (id : Int) : Strt l M i (S.drop id) :=
  h.fewer (S' := S.drop id) ok rfl (fun z hz => h.mem z ((dropM_sub id S.L).subset hz)) (fun z hz => by
    obtain ⟨hz1, hz2⟩ := mem_ups.1 hz
    exact mem_ups.2 ⟨(dropM_sub id S.L).subset hz1, hz2⟩)
theorem Strt.added {S' : FS} {id r : Int} (h : Strt l M i S) (ok : S.ok N) (ha : Added id 0 0 r S S') (h0 : 0 ≤ r) (hl : l ≤ r) (hr : r ≤ 4096) : Strt l M i S' := by
  rcases ha with ⟨-, -, m, p, q, rfl⟩ | ⟨-, rfl⟩
  · refine h.fewer (S' := S.add id m p q 0 0 r) ok rfl (fun z hz => ?_) (fun z hz => ?_)
    · rcases List.mem_append.1 hz with hz | hz
      · exact h.mem z hz
      · rw [List.mem_singleton.1 hz]
        exact ⟨str_new id m p q h0 hl hr, by show (0 : Int) ≤ _; omega⟩
    · obtain ⟨hz1, hz2⟩ := mem_ups.1 hz
      rcases List.mem_append.1 hz1 with hz1 | hz1
      · exact mem_ups.2 ⟨hz1, hz2⟩
      · rw [List.mem_singleton.1 hz1] at hz2
        cases hz2
  · exact h
theorem Strt.wake (h : Strt l M i S) (ok : S.ok N) (id : Int) : Strt l M i (S.wake id) := by
  unfold FS.wake
  cases hf : fnd id S.L with
  | none => exact h
  | some x =>
    dsimp only
    split
    · exact h
    · rename_i hu
      have hin := (fnd_mem hf).1
      have hx := ok.mem x hin
      have hb := startV_bounds ok.vok (ok.vok x hin) ⟨ok.k0, ok.k1⟩
      have hge := startV_ge S.k (ups S.L) x.v
      have hle : startV S.k (ups S.L) x.v ≤ S.k ∧ (ups S.L = [] → startV S.k (ups S.L) x.v = S.k) ∧ (ups S.L ≠ [] → lowOf (ups S.L) ≤ startV S.k (ups S.L) x.v) := by
        have hv1 := hx.v1
        refine ⟨?_, ?_, ?_⟩
        · by_cases hn : ups S.L = []
          · rw [hn]; show max x.v S.k ≤ S.k; omega
          · obtain ⟨y, hy⟩ := List.exists_mem_of_ne_nil _ hn
            have hl := low_le hy
            have hh : highOf (ups S.L) ≤ S.k := by
              rcases (low_is (D := ups S.L)).2 with e | ⟨z, hz, e⟩
              · have := ok.k0; omega
              · rw [← e]; exact (ok.mem z (mem_ups.1 hz).1).v1
            unfold startV
            rw [if_neg (by omega)]
            omega
        · intro hn; rw [hn]; show max x.v S.k = S.k; omega
        · intro hn
          obtain ⟨y, hy⟩ := List.exists_mem_of_ne_nil _ hn
          have hl := low_le hy
          unfold startV
          rw [if_neg (by omega)]
          omega
      have hkk : max S.k (startV S.k (ups S.L) x.v) = S.k := by omega
      refine ⟨h.l1, h.l2, h.m0, h.m1, h.i1, fun z hz => ?_, by show max _ _ ≤ _; rw [hkk]; exact h.mark, fun hn => ?_⟩
      · rcases mem_set hz with rfl | hz
        · exact ⟨str_wake (h.mem x hin).1 h.l1 hge hb.2 ⟨hx.t0, hx.t1⟩ hx.v0, (h.mem x hin).2⟩
        · exact h.mem z hz
      · show max S.k (startV S.k (ups S.L) x.v) ≤ lowOf (ups (setM (wokenM S.k S.L x) S.L)) + _
        rw [hkk]
        have hD : 0 ≤ (M + l - 1) / l := (isUp_up h.l1 h.m0).1
        by_cases hn0 : ups S.L = []
        · have := low_ge (A := ups (setM (wokenM S.k S.L x) S.L)) (b := S.k) (fun z hz => by
            obtain ⟨hz1, hz2⟩ := mem_ups.1 hz
            rcases mem_set hz1 with rfl | hz1
            · show S.k ≤ startV S.k (ups S.L) x.v; rw [hle.2.1 hn0]; exact Int.le_refl _
            · have : z ∈ ups S.L := mem_ups.2 ⟨hz1, hz2⟩
              rw [hn0] at this; cases this) ok.k1
          omega
        · have hnear := h.near hn0
          have := low_ge (A := ups (setM (wokenM S.k S.L x) S.L)) (b := lowOf (ups S.L)) (fun z hz => by
            obtain ⟨hz1, hz2⟩ := mem_ups.1 hz
            rcases mem_set hz1 with rfl | hz1
            · exact hle.2.2 hn0
            · exact (low_le (mem_ups.2 ⟨hz1, hz2⟩)).1) (by
              obtain ⟨y, hy⟩ := List.exists_mem_of_ne_nil _ hn0
              have := low_le hy
              have := (ok.mem y (mem_ups.1 hy).1).v1
              have := ok.k1
              omega)
          omega
/-- The one with the least virtual time gains. -/
theorem Strt.gain {x : Mem} {g : Int} (h : Strt l M i S) (ok : S.ok N) (hx : x ∈ ups S.L) (hf : fnd x.id S.L = some x) (hlow : x.v = lowOf (ups S.L)) (hg : 0 ≤ g) (hg1 : g ≤ 384000) (hi : i + 1 ≤ 1000) : Strt l (max M g) (i + 1) (S.gain x.id g) := by
  obtain ⟨hin, hup⟩ := mem_ups.1 hx
  have hm := ok.mem x hin
  have hT := (h.mem x hin).2
  have hmark := h.mark
  have hi1 := h.i1
  have hvk := hm.v1
  obtain ⟨e1, e2, e3, e4⟩ := str_gain (g := g) (h.mem x hin).1 h.l1 (hm.one hup) (by omega) hg (by omega) x.up
  have hs := up_le_self (M := g) h.l1 hg
  have hu1 := up_mono (l := l) (M := g) (M' := max M g) h.l1 (by omega)
  have hu2 := up_mono (l := l) (M := M) (M' := max M g) h.l1 (by omega)
  unfold FS.gain
  rw [hf]
  dsimp only
  rw [if_pos hup, e1]
  refine ⟨h.l1, h.l2, by have := h.m0; omega, by have := h.m1; omega, hi, fun z hz => ?_, by show max S.k (x.s.reach (x.T + g)) ≤ _; omega, fun hn => ?_⟩
  · rcases mem_set hz with rfl | hz
    · exact ⟨e4, by show x.T + g ≤ _; omega⟩
    · exact ⟨(h.mem z hz).1, by have := (h.mem z hz).2; omega⟩
  · have hnear := h.near (fun e => by rw [e] at hx; cases hx)
    have hlow' := low_ge (A := ups (setM { x with T := x.T + g, v := x.s.reach (x.T + g) } S.L)) (b := x.v) (fun z hz => by
      obtain ⟨hz1, hz2⟩ := mem_ups.1 hz
      rcases mem_set hz1 with rfl | hz1
      · exact e2
      · rw [hlow]; exact (low_le (mem_ups.2 ⟨hz1, hz2⟩)).1) (by have := ok.k1; omega)
    show max S.k (x.s.reach (x.T + g)) ≤ lowOf (ups (setM { x with T := x.T + g, v := x.s.reach (x.T + g) } S.L)) + (max M g + l - 1) / l
    rw [← hlow] at hnear
    omega
end
theorem strt_none : Strt 4096 0 0 ⟨0, []⟩ := ⟨by decide, by decide, Int.le_refl _, by decide, by decide, fun x hx => (by cases hx), Int.le_refl _, fun h => absurd rfl h⟩

end Go.Proofs.YtjhffbhjiflfeaaGreat
