/-
  A run of a bent curve in plain integers: the laws of chapter 05 with no program in sight.
-/
import Derived.Test.YtjhffbhjiflfeaaGreatLib
import Derived.Test.YtjhffbhjiflfeaaGreatCurvePlain
namespace Go.Proofs.YtjhffbhjiflfeaaGreat
set_option linter.unusedVariables false
set_option linter.unusedSimpArgs false

def capN (y : Int) : Int := min y 4611686018427387904
/-- The tick of the last start, behind one more. -/
def nextX (x X : Int) : Int := max (min X 9223372036854775808) x
/-- A line's height, behind a start more: n starts were ahead. -/
def nextH (S O : Int) (n x h X Y : Int) : Int :=
  if 0 < n ∧ stopN (h + stopN (S * (nextX x X - x))) < stopN (capN Y + O) then stopN (h + stopN (S * (nextX x X - x))) else stopN (capN Y + O)
/-- What two lines have. -/
def hasN (F R x f r t : Int) : Int := min (stopN (f + stopN (F * (max t x - x)))) (stopN (r + stopN (R * (max t x - x))))

theorem stop_add {a b : Int} (ha : 0 ≤ a) (hb : 0 ≤ b) : stopN (stopN a + b) = stopN (a + b) := by
  unfold stopN; (repeat' split) <;> omega
theorem stop_add2 {a b : Int} (ha : 0 ≤ a) (hb : 0 ≤ b) : stopN (a + stopN b) = stopN (a + b) := by
  unfold stopN; (repeat' split) <;> omega
theorem stop_min (a b : Int) : stopN (min a b) = min (stopN a) (stopN b) := by
  unfold stopN; (repeat' split) <;> omega
theorem cap_bounds {y : Int} (h : 0 ≤ y) : 0 ≤ capN y ∧ capN y ≤ 4611686018427387904 := by unfold capN; omega
theorem nextX_ge (x X : Int) : x ≤ nextX x X := by unfold nextX; omega
theorem nextX_le {x X : Int} (h : x ≤ 9223372036854775808) : nextX x X ≤ 9223372036854775808 := by unfold nextX; omega
/-- The first one is the copy's own line; each more is the lesser one. -/
theorem nextH_first (S O x h X Y : Int) : nextH S O 0 x h X Y = stopN (capN Y + O) := by unfold nextH; rw [if_neg (by omega)]
theorem nextH_more {S O n x h X Y : Int} (hn : 0 < n) (hS : 0 ≤ S) (hh : 0 ≤ h) : nextH S O n x h X Y = min (stopN (h + S * (nextX x X - x))) (stopN (capN Y + O)) := by
  have d : 0 ≤ nextX x X - x := by have := nextX_ge x X; omega
  unfold nextH
  rw [stop_add2 hh (Int.mul_nonneg hS d)]
  by_cases k : stopN (h + S * (nextX x X - x)) < stopN (capN Y + O)
  · rw [if_pos ⟨hn, k⟩]; omega
  · rw [if_neg (by omega)]; omega
theorem nextH_bounds {S O n x h X Y : Int} (hS : 0 ≤ S) (hO : 0 ≤ O) (hh : 0 ≤ h) (hY : 0 ≤ Y) : 0 ≤ nextH S O n x h X Y ∧ nextH S O n x h X Y ≤ 4611686018427387904 := by
  have d : 0 ≤ nextX x X - x := by have := nextX_ge x X; omega
  have p := Int.mul_nonneg hS d
  have c := (cap_bounds hY).1
  have q := stop_nonneg p
  have := stop_nonneg (show 0 ≤ h + stopN (S * (nextX x X - x)) by omega)
  have := stop_nonneg (show 0 ≤ capN Y + O by omega)
  have := stop_le (h + stopN (S * (nextX x X - x)))
  have := stop_le (capN Y + O)
  unfold nextH
  split <;> omega

/-! ### A run behind some starts -/
section
variable (F O R : Int) (X Y : Nat → Int)
def runX : Nat → Int
  | 0 => 0
  | k + 1 => nextX (runX k) (X k)
def runH (S O : Int) : Nat → Int
  | 0 => 0
  | k + 1 => nextH S O k (runX X k) (runH S O k) (X k) (Y k)
end
section
variable {F O R S : Int} {X Y : Nat → Int}
theorem runX_bounds (k : Nat) : 0 ≤ runX X k ∧ runX X k ≤ 9223372036854775808 := by
  induction k with
  | zero => exact ⟨by unfold runX; omega, by unfold runX; omega⟩
  | succ k ih => unfold runX; have := nextX_ge (runX X k) (X k); exact ⟨by omega, nextX_le ih.2⟩
theorem runX_mono {i k : Nat} (h : i ≤ k) : runX X i ≤ runX X k := by
  induction h with
  | refl => exact Int.le_refl _
  | @step m _ ih => have := nextX_ge (runX X m) (X m); exact Int.le_trans ih this
theorem runH_bounds (hS : 0 ≤ S) (hO : 0 ≤ O) (hY : ∀ i, 0 ≤ Y i) (k : Nat) : 0 ≤ runH X Y S O k ∧ runH X Y S O k ≤ 4611686018427387904 := by
  induction k with
  | zero => exact ⟨by unfold runH; omega, by unfold runH; omega⟩
  | succ k ih => unfold runH; exact nextH_bounds hS hO ih.1 (hY k)
/-- A line, d ticks behind the last start: at most each copy's own. -/
theorem line_le (hS : 0 ≤ S) (hO : 0 ≤ O) (hY : ∀ i, 0 ≤ Y i) {k i : Nat} (hi : i < k) {d : Int} (hd : 0 ≤ d) :
    stopN (runH X Y S O k + S * d) ≤ stopN (capN (Y i) + O + S * (runX X k + d - runX X (i + 1))) := by
  induction k generalizing d with
  | zero => omega
  | succ k ih =>
    have b := runH_bounds (X := X) hS hO hY k
    have hx := nextX_ge (runX X k) (X k)
    have eX : runX X (k + 1) = nextX (runX X k) (X k) := rfl
    have eH : runH X Y S O (k + 1) = nextH S O k (runX X k) (runH X Y S O k) (X k) (Y k) := rfl
    have sd := Int.mul_nonneg hS hd
    have cY := (cap_bounds (hY k)).1
    have own : stopN (runH X Y S O (k + 1) + S * d) ≤ stopN (capN (Y k) + O + S * d) := by
      rw [eH]
      have : nextH S O k (runX X k) (runH X Y S O k) (X k) (Y k) ≤ stopN (capN (Y k) + O) := by unfold nextH; split <;> omega
      have e := stop_add (a := capN (Y k) + O) (by omega) sd
      rw [← e]
      exact stop_mono (by omega)
    rcases Nat.lt_or_ge i k with h | h
    · have hk : (0 : Int) < k := by omega
      rw [eH, nextH_more hk hS b.1]
      have step := ih h (d := runX X (k + 1) - runX X k + d) (by omega)
      have e1 : runX X k + (runX X (k + 1) - runX X k + d) = runX X (k + 1) + d := by omega
      rw [e1] at step
      refine Int.le_trans ?_ step
      rw [← eX, Int.mul_add, ← Int.add_assoc, ← stop_add (a := runH X Y S O k + S * (runX X (k + 1) - runX X k)) (by have := Int.mul_nonneg hS (show 0 ≤ runX X (k + 1) - runX X k by omega); omega) sd]
      exact stop_mono (by omega)
    · have : i = k := by omega
      subst this
      have e1 : runX X (i + 1) + d - runX X (i + 1) = d := by omega
      rw [e1]; exact own
/-- And just some copy's. -/
theorem line_is (hS : 0 ≤ S) (hO : 0 ≤ O) (hY : ∀ i, 0 ≤ Y i) {k : Nat} (hk : 0 < k) {d : Int} (hd : 0 ≤ d) :
    ∃ i, i < k ∧ stopN (runH X Y S O k + S * d) = stopN (capN (Y i) + O + S * (runX X k + d - runX X (i + 1))) := by
  induction k generalizing d with
  | zero => omega
  | succ k ih =>
    have b := runH_bounds (X := X) hS hO hY k
    have hx := nextX_ge (runX X k) (X k)
    have eX : runX X (k + 1) = nextX (runX X k) (X k) := rfl
    have eH : runH X Y S O (k + 1) = nextH S O k (runX X k) (runH X Y S O k) (X k) (Y k) := rfl
    have sd := Int.mul_nonneg hS hd
    have cY := (cap_bounds (hY k)).1
    have own : runH X Y S O (k + 1) = stopN (capN (Y k) + O) → stopN (runH X Y S O (k + 1) + S * d) = stopN (capN (Y k) + O + S * (runX X (k + 1) + d - runX X (k + 1))) := by
      intro e
      have e1 : runX X (k + 1) + d - runX X (k + 1) = d := by omega
      rw [e, e1, stop_add (by omega) sd]
    rcases Nat.eq_zero_or_pos k with h | h
    · subst h
      exact ⟨0, by omega, own (by rw [eH]; exact nextH_first _ _ _ _ _ _)⟩
    · have hk : (0 : Int) < k := by omega
      have e2 := nextH_more (O := O) (x := runX X k) (X := X k) (Y := Y k) hk hS b.1
      rcases Int.lt_or_le (stopN (runH X Y S O k + S * (nextX (runX X k) (X k) - runX X k))) (stopN (capN (Y k) + O)) with c | c
      · obtain ⟨i, hi, e3⟩ := ih h (d := runX X (k + 1) - runX X k + d) (by omega)
        refine ⟨i, by omega, ?_⟩
        have e1 : runX X k + (runX X (k + 1) - runX X k + d) = runX X (k + 1) + d := by omega
        rw [e1] at e3
        rw [eH, e2, Int.min_eq_left (by omega), ← e3, ← eX, stop_add (by have := Int.mul_nonneg hS (show 0 ≤ runX X (k + 1) - runX X k by omega); omega) sd, Int.mul_add, ← Int.add_assoc]
      · exact ⟨k, by omega, own (by rw [eH, e2, Int.min_eq_right c])⟩
end

/-! ### Both lines -/
/-- A bent curve that may be is the lesser one of both lines. -/
theorem raw_min {F L R s : Int} (h : R < F) (hs : 0 ≤ s) (hL : 0 ≤ L) : rawN F L R s = min (F * s) ((F - R) * L + R * s) := by
  have b := shape_burst (L := L) h hs
  rcases Int.le_total s L with k | k
  · rw [raw_low k]
    have : (F - R) * s ≤ (F - R) * L := Int.mul_le_mul_of_nonneg_left k (by omega)
    rw [Int.sub_mul] at this
    omega
  · rw [b.2 k]
    have : (F - R) * L ≤ (F - R) * s := Int.mul_le_mul_of_nonneg_left k (by omega)
    rw [Int.sub_mul _ _ s] at this
    omega
theorem has_plain {F R x f r t : Int} (hF : 0 ≤ F) (hR : 0 ≤ R) (hf : 0 ≤ f) (hr : 0 ≤ r) : hasN F R x f r t = min (stopN (f + F * (max t x - x))) (stopN (r + R * (max t x - x))) := by
  have d : 0 ≤ max t x - x := by omega
  unfold hasN
  rw [stop_add2 hf (Int.mul_nonneg hF d), stop_add2 hr (Int.mul_nonneg hR d)]
theorem has_bounds {F R x f r t : Int} (hF : 0 ≤ F) (hR : 0 ≤ R) (hf : 0 ≤ f) (hr : 0 ≤ r) : 0 ≤ hasN F R x f r t ∧ hasN F R x f r t ≤ 4611686018427387904 := by
  have d : 0 ≤ max t x - x := by omega
  rw [has_plain hF hR hf hr]
  have a := stop_nonneg (show 0 ≤ f + F * (max t x - x) by have := Int.mul_nonneg hF d; omega)
  have b := stop_nonneg (show 0 ≤ r + R * (max t x - x) by have := Int.mul_nonneg hR d; omega)
  have := stop_le (f + F * (max t x - x))
  omega

/-- A copy's own, at a tick from its start on. -/
def oneN (F L R y s : Int) : Int := stopN (capN y + atN F L R s)
theorem one_plain {F L R y s : Int} (hm : May F L R) (hb : R < F) (hy : 0 ≤ y) (hs : 0 ≤ s) : oneN F L R y s = min (stopN (capN y + 0 + F * s)) (stopN (capN y + (F - R) * L + R * s)) := by
  unfold oneN atN
  rw [stop_add2 (cap_bounds hy).1 (raw_nonneg hm.f0 hm.l0 hm.r0 hs), raw_min hb hs hm.l0, ← stop_min]
  congr 1
  omega
section
variable {F L R : Int} {X Y : Nat → Int}
theorem least_le (hm : May F L R) (hb : R < F) (hY : ∀ i, 0 ≤ Y i) {k i : Nat} (hi : i < k) {t : Int} (ht : runX X k ≤ t) :
    hasN F R (runX X k) (runH X Y F 0 k) (runH X Y R ((F - R) * L) k) t ≤ oneN F L R (Y i) (t - runX X (i + 1)) := by
  have hO : 0 ≤ (F - R) * L := Int.mul_nonneg (by omega) hm.l0
  have m := runX_mono (X := X) (show i + 1 ≤ k by omega)
  rw [has_plain hm.f0 hm.r0 (runH_bounds hm.f0 (by omega) hY k).1 (runH_bounds hm.r0 hO hY k).1, one_plain hm hb (hY i) (by omega), Int.max_eq_left ht]
  have a := line_le (X := X) hm.f0 (Int.le_refl 0) hY hi (d := t - runX X k) (by omega)
  have b := line_le (X := X) hm.r0 hO hY hi (d := t - runX X k) (by omega)
  have e : runX X k + (t - runX X k) = t := by omega
  rw [e] at a b
  omega
theorem least_is (hm : May F L R) (hb : R < F) (hY : ∀ i, 0 ≤ Y i) {k : Nat} (hk : 0 < k) {t : Int} (ht : runX X k ≤ t) :
    ∃ i, i < k ∧ hasN F R (runX X k) (runH X Y F 0 k) (runH X Y R ((F - R) * L) k) t = oneN F L R (Y i) (t - runX X (i + 1)) := by
  have hO : 0 ≤ (F - R) * L := Int.mul_nonneg (by omega) hm.l0
  have e : runX X k + (t - runX X k) = t := by omega
  obtain ⟨i, hi, a⟩ := line_is (X := X) hm.f0 (Int.le_refl 0) hY hk (d := t - runX X k) (by omega)
  obtain ⟨j, hj, b⟩ := line_is (X := X) hm.r0 hO hY hk (d := t - runX X k) (by omega)
  rw [e] at a b
  have pi := least_le (X := X) hm hb hY hi ht
  have pj := least_le (X := X) hm hb hY hj ht
  have mi := runX_mono (X := X) (show i + 1 ≤ k by omega)
  have mj := runX_mono (X := X) (show j + 1 ≤ k by omega)
  rw [one_plain hm hb (hY i) (by omega)] at pi
  rw [one_plain hm hb (hY j) (by omega)] at pj
  have q := has_plain (t := t) (x := runX X k) hm.f0 hm.r0 (runH_bounds (X := X) hm.f0 (Int.le_refl 0) hY k).1 (runH_bounds (X := X) hm.r0 hO hY k).1
  rw [Int.max_eq_left ht, a, b] at q
  by_cases c : stopN (capN (Y i) + 0 + F * (t - runX X (i + 1))) ≤ stopN (capN (Y j) + (F - R) * L + R * (t - runX X (j + 1)))
  · refine ⟨i, hi, ?_⟩
    rw [one_plain hm hb (hY i) (by omega)]; omega
  · refine ⟨j, hj, ?_⟩
    rw [one_plain hm hb (hY j) (by omega)]; omega
end

/-! ### One start more -/
/-- What holds of a run of a bent curve. -/
structure Made (F L R n x f r : Int) : Prop where
  may : May F L R
  bent : R < F
  n0 : 0 ≤ n
  x0 : 0 ≤ x
  x1 : x ≤ 9223372036854775808
  f0 : 0 ≤ f
  f1 : f ≤ 4611686018427387904
  r0 : 0 ≤ r
  r1 : r ≤ 4611686018427387904
  over : 0 < n → r ≤ stopN (f + (F - R) * L)
theorem Made.next {F L R n x f r X Y : Int} (h : Made F L R n x f r) (hY : 0 ≤ Y) : Made F L R (n + 1) (nextX x X) (nextH F 0 n x f X Y) (nextH R ((F - R) * L) n x r X Y) := by
  have hO : 0 ≤ (F - R) * L := Int.mul_nonneg (by have := h.bent; omega) h.may.l0
  have a := nextH_bounds (n := n) (x := x) (X := X) h.may.f0 (Int.le_refl 0) h.f0 hY
  have b := nextH_bounds (n := n) (x := x) (X := X) h.may.r0 hO h.r0 hY
  have d := nextX_ge x X
  refine ⟨h.may, h.bent, by have := h.n0; omega, by have := h.x0; omega, nextX_le h.x1, a.1, a.2, b.1, b.2, fun _ => ?_⟩
  have cY := (cap_bounds hY).1
  have n0 := h.n0
  by_cases k : n = 0
  · subst k
    rw [nextH_first, nextH_first, stop_add (by omega) hO, Int.add_zero]; exact Int.le_refl _
  · rw [nextH_more (by omega) h.may.f0 h.f0, nextH_more (by omega) h.may.r0 h.r0]
    have ov := h.over (by omega)
    have f0 := h.f0
    have r0 := h.r0
    have e : R * (nextX x X - x) ≤ F * (nextX x X - x) := Int.mul_le_mul_of_nonneg_right (by have := h.bent; omega) (by omega)
    have e0 : 0 ≤ R * (nextX x X - x) := Int.mul_nonneg h.may.r0 (by omega)
    generalize R * (nextX x X - x) = p at *
    generalize F * (nextX x X - x) = q at *
    generalize (F - R) * L = o at *
    generalize capN Y = y at *
    have s1 := stop_le
    have := stop_add (a := f) (b := o) f0 hO
    rcases Int.lt_or_le (stopN (f + q)) (stopN (y + 0)) with c | c
    · rw [Int.min_eq_left (show stopN (f + q) ≤ stopN (y + 0) by omega), stop_add (by omega) hO]
      have : stopN (r + p) ≤ stopN (f + q + o) := by
        have e1 : stopN (r + p) ≤ stopN (stopN (f + o) + p) := stop_mono (by omega)
        rw [stop_add (by omega) e0] at e1
        exact Int.le_trans e1 (stop_mono (by omega))
      omega
    · rw [Int.min_eq_right c, stop_add (by omega) hO]
      have : stopN (y + 0 + o) = stopN (y + o) := by rw [Int.add_zero]
      omega
theorem made_none {F L R : Int} (hm : May F L R) (hb : R < F) : Made F L R 0 0 0 0 :=
  ⟨hm, hb, by omega, by omega, by omega, by omega, by omega, by omega, by omega, fun h => by omega⟩
theorem made_run {F L R : Int} {X Y : Nat → Int} (hm : May F L R) (hb : R < F) (hY : ∀ i, 0 ≤ Y i) (k : Nat) : Made F L R k (runX X k) (runH X Y F 0 k) (runH X Y R ((F - R) * L) k) := by
  induction k with
  | zero => exact made_none hm hb
  | succ k ih =>
    have := ih.next (X := X k) (hY k)
    rw [show ((k + 1 : Nat) : Int) = (k : Int) + 1 by omega]
    exact this

/-- A start more makes nothing more, from that start on. -/
theorem more_le {F L R n x f r X Y t : Int} (h : Made F L R n x f r) (hn : 0 < n) (hY : 0 ≤ Y) (ht : nextX x X ≤ t) :
    hasN F R (nextX x X) (nextH F 0 n x f X Y) (nextH R ((F - R) * L) n x r X Y) t ≤ hasN F R x f r t := by
  have hO : 0 ≤ (F - R) * L := Int.mul_nonneg (by have := h.bent; omega) h.may.l0
  have a := nextH_bounds (n := n) (x := x) (X := X) h.may.f0 (Int.le_refl 0) h.f0 hY
  have b := nextH_bounds (n := n) (x := x) (X := X) h.may.r0 hO h.r0 hY
  have d := nextX_ge x X
  rw [has_plain h.may.f0 h.may.r0 a.1 b.1, has_plain h.may.f0 h.may.r0 h.f0 h.r0, Int.max_eq_left ht, Int.max_eq_left (show x ≤ t by omega)]
  have g : ∀ S O hh, 0 ≤ S → 0 ≤ hh → stopN (nextH S O n x hh X Y + S * (t - nextX x X)) ≤ stopN (hh + S * (t - x)) := by
    intro S O hh hS h0
    rw [nextH_more hn hS h0]
    have p := Int.mul_nonneg hS (show 0 ≤ nextX x X - x by omega)
    have q := Int.mul_nonneg hS (show 0 ≤ t - nextX x X by omega)
    have e : S * (t - x) = S * (nextX x X - x) + S * (t - nextX x X) := by rw [← Int.mul_add]; congr 1; omega
    rw [e, ← Int.add_assoc, ← stop_add (a := hh + S * (nextX x X - x)) (by omega) q]
    exact stop_mono (by omega)
  have g1 := g F 0 f h.may.f0 h.f0
  have g2 := g R ((F - R) * L) r h.may.r0 h.r0
  omega
/-- The same start twice is it once. -/
theorem twice_same {S O n x h X Y : Int} (hn : 0 < n) (hS : 0 ≤ S) (hO : 0 ≤ O) (hh : 0 ≤ h) (hY : 0 ≤ Y) (hX : x ≤ 9223372036854775808) :
    nextX (nextX x X) X = nextX x X ∧ nextH S O (n + 1) (nextX x X) (nextH S O n x h X Y) X Y = nextH S O n x h X Y := by
  have e : nextX (nextX x X) X = nextX x X := by unfold nextX; omega
  have b := nextH_bounds (n := n) (x := x) (X := X) hS hO hh hY
  refine ⟨e, ?_⟩
  rw [nextH_more (show 0 < n + 1 by omega) hS b.1, e, Int.sub_self, Int.mul_zero, Int.add_zero, stop_small b.2]
  have : nextH S O n x h X Y ≤ stopN (capN Y + O) := by unfold nextH; split <;> omega
  omega
/-- A copy from what the run has, started there, changes nothing there. -/
theorem on_same {F L R n x f r X : Int} (h : Made F L R n x f r) (hn : 0 < n) (hX : x ≤ X) (hX1 : X ≤ 9223372036854775808) :
    nextX x X = X ∧ hasN F R X (nextH F 0 n x f X (hasN F R x f r X)) (nextH R ((F - R) * L) n x r X (hasN F R x f r X)) X = hasN F R x f r X := by
  have hO : 0 ≤ (F - R) * L := Int.mul_nonneg (by have := h.bent; omega) h.may.l0
  have hv := has_bounds (x := x) (t := X) h.may.f0 h.may.r0 h.f0 h.r0
  have e : nextX x X = X := by unfold nextX; omega
  have p := has_plain (x := x) (t := X) h.may.f0 h.may.r0 h.f0 h.r0
  rw [Int.max_eq_left hX] at p
  generalize hasN F R x f r X = v at *
  have a := nextH_bounds (n := n) (x := x) (X := X) h.may.f0 (Int.le_refl 0) h.f0 hv.1
  have b := nextH_bounds (n := n) (x := x) (X := X) h.may.r0 hO h.r0 hv.1
  refine ⟨e, ?_⟩
  rw [has_plain h.may.f0 h.may.r0 a.1 b.1, Int.max_self, Int.sub_self, Int.mul_zero, Int.mul_zero, Int.add_zero, Int.add_zero, stop_small a.2, stop_small b.2,
    nextH_more hn h.may.f0 h.f0, nextH_more hn h.may.r0 h.r0, e]
  have c : capN v = v := by unfold capN; omega
  rw [c, Int.add_zero, stop_small hv.2]
  have : v ≤ stopN (v + (F - R) * L) := by rw [stop_ge hv.2]; omega
  omega
/-- By s ticks a run grows by at most what the curve has. -/
theorem short_le {F L R n x f r t s : Int} (h : Made F L R n x f r) (hn : 0 < n) (ht : x ≤ t) (hs : 0 ≤ s) :
    hasN F R x f r t ≤ hasN F R x f r (t + s) ∧ hasN F R x f r (t + s) ≤ stopN (hasN F R x f r t + atN F L R s) := by
  have hO : 0 ≤ (F - R) * L := Int.mul_nonneg (by have := h.bent; omega) h.may.l0
  have hb := h.bent
  rw [has_plain h.may.f0 h.may.r0 h.f0 h.r0, has_plain h.may.f0 h.may.r0 h.f0 h.r0, Int.max_eq_left ht, Int.max_eq_left (show x ≤ t + s by omega)]
  have eF : F * (t + s - x) = F * (t - x) + F * s := by rw [← Int.mul_add]; congr 1; omega
  have eR : R * (t + s - x) = R * (t - x) + R * s := by rw [← Int.mul_add]; congr 1; omega
  have pF := Int.mul_nonneg h.may.f0 (show 0 ≤ t - x by omega)
  have pR := Int.mul_nonneg h.may.r0 (show 0 ≤ t - x by omega)
  have qF := Int.mul_nonneg h.may.f0 hs
  have qR := Int.mul_nonneg h.may.r0 hs
  have c1 : R * (t - x) ≤ F * (t - x) := Int.mul_le_mul_of_nonneg_right (by omega) (by omega)
  have c2 : R * s ≤ F * s := Int.mul_le_mul_of_nonneg_right (by omega) hs
  have ov := h.over hn
  have f0 := h.f0
  have r0 := h.r0
  rw [eF, eR]
  unfold atN
  rw [raw_min hb hs h.may.l0]
  generalize (F - R) * L = o at *
  generalize F * (t - x) = a at *
  generalize R * (t - x) = b at *
  generalize F * s = c at *
  generalize R * s = d at *
  have hov : r ≤ 4611686018427387904 ∧ r ≤ f + o := by
    have := stop_le (f + o)
    unfold stopN at ov; split at ov <;> omega
  rw [← stop_min, ← stop_min, stop_add (by omega) (stop_nonneg (by omega)), stop_add2 (by omega) (by omega)]
  exact ⟨stop_mono (by omega), stop_mono (by omega)⟩

/-! ### When a run has so much -/
def untilN (S h y : Int) : Int := if y ≤ h then 0 else if S = 0 ∨ 4611686018427387904 < y then 9223372036854775808 else upN (y - h) 1 S
def reachB (F R x f r y : Int) : Int :=
  if 9223372036854775808 - x ≤ max (untilN F f y) (untilN R r y) then 9223372036854775808 else x + max (untilN F f y) (untilN R r y)
theorem until_bounds {S h y : Int} (hS : 0 ≤ S) (hh : 0 ≤ h) (hy : 0 ≤ y) : 0 ≤ untilN S h y ∧ untilN S h y ≤ 9223372036854775808 := by
  unfold untilN
  split
  · omega
  · split
    · omega
    · have := up_spec (y := y - h) (s := S) (by omega) (by omega) (by omega) rfl
      omega
theorem until_is {S h y n : Int} (hS : 0 ≤ S) (hh : 0 ≤ h) (hh1 : h ≤ 4611686018427387904) (hy : 0 ≤ y) (hn : 0 ≤ n) (hn1 : n < 9223372036854775808) : y ≤ stopN (h + S * n) ↔ untilN S h y ≤ n := by
  have p := Int.mul_nonneg hS hn
  unfold untilN
  by_cases h1 : y ≤ h
  · rw [if_pos h1, stop_ge (by omega)]; omega
  · rw [if_neg h1]
    by_cases h2 : S = 0 ∨ 4611686018427387904 < y
    · rw [if_pos h2]
      have := stop_le (h + S * n)
      rcases h2 with k | k
      · subst k
        rw [Int.zero_mul, Int.add_zero, stop_small hh1]; omega
      · omega
    · rw [if_neg h2, stop_ge (by omega)]
      obtain ⟨a, b, c, d⟩ := up_spec (y := y - h) (s := S) (by omega) (by omega) (by omega) rfl
      have := up_le (t := n) (show 0 < S by omega) a b
      omega
theorem reachB_at {F L R n x f r y t : Int} (h : Made F L R n x f r) (hy : 0 ≤ y) (ht : x ≤ t) (ht1 : t < 9223372036854775808) : y ≤ hasN F R x f r t ↔ reachB F R x f r y ≤ t := by
  rw [has_plain h.may.f0 h.may.r0 h.f0 h.r0, Int.max_eq_left ht]
  have x0 := h.x0
  have a := until_is (S := F) (h := f) (y := y) (n := t - x) h.may.f0 h.f0 h.f1 hy (by omega) (by omega)
  have b := until_is (S := R) (h := r) (y := y) (n := t - x) h.may.r0 h.r0 h.r1 hy (by omega) (by omega)
  unfold reachB
  split <;> omega
theorem reachB_bounds {F L R n x f r y : Int} (h : Made F L R n x f r) (hy : 0 ≤ y) : x ≤ reachB F R x f r y ∧ reachB F R x f r y ≤ 9223372036854775808 := by
  have a := until_bounds (y := y) h.may.f0 h.f0 hy
  have b := until_bounds (y := y) h.may.r0 h.r0 hy
  have := h.x1
  unfold reachB
  split <;> omega
theorem backB {F L R n x f r y m : Int} (h : Made F L R n x f r) (hy : 0 ≤ y) (e : reachB F R x f r y = m) :
    (m = 9223372036854775808 → x = 9223372036854775808 ∨ hasN F R x f r 9223372036854775807 < y) ∧
    (m ≠ 9223372036854775808 → x ≤ m ∧ m < 9223372036854775808 ∧ y ≤ hasN F R x f r m ∧ (m = x ∨ hasN F R x f r (m - 1) < y)) := by
  have b := reachB_bounds h hy
  have x1 := h.x1
  rw [e] at b
  constructor
  · intro k
    rcases Int.lt_or_le x 9223372036854775808 with q | q
    · right
      have := reachB_at (t := 9223372036854775807) h hy (by omega) (by omega)
      rw [e] at this
      omega
    · left; omega
  · intro k
    refine ⟨b.1, by omega, ?_, ?_⟩
    · rw [reachB_at h hy b.1 (by omega), e]; exact Int.le_refl _
    · rcases Int.lt_or_le x m with q | q
      · right
        have := reachB_at (t := m - 1) h hy (by omega) (by omega)
        rw [e] at this
        omega
      · left; omega

end Go.Proofs.YtjhffbhjiflfeaaGreat
