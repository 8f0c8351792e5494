/-
  The document's run of a bent curve, all copies kept: plain integers, and what its memory holds.
-/
import Derived.Test.YtjhffbhjiflfeaaGreatBentPlain
import Derived.Test.YtjhffbhjiflfeaaGreatNeverPlainRow
import Derived.Test.YtjhffbhjiflfeaaGreatCurveE
import Derived.Test.YtjhffbhjiflfeaaGreatWideMinus
import Derived.Maps.AppendAt
namespace Go.Proofs.YtjhffbhjiflfeaaGreat
set_option linter.unusedVariables false
set_option linter.unusedSimpArgs false
open Go.RowKit Go.Shelf

def hiW (x : Int) : Int := x / 18446744073709551616
def loW (x : Int) : Int := x % 18446744073709551616
theorem hiW_word {x : Int} (h0 : 0 ≤ x) (h1 : x < 340282366920938463463374607431768211456) : Word (hiW x) ∧ Word (loW x) := by unfold hiW loW Word; omega
theorem hiW_small {x : Int} (h : Word x) : hiW x = 0 ∧ loW x = x := by obtain ⟨a, b⟩ := h; unfold hiW loW; omega

theorem refwide_w (F L R t : Int) (w : World) (my : May F L R) (wt : Word t) (h0 : 0 ≤ rawN F L R t) (h1 : rawN F L R t < 340282366920938463463374607431768211456) :
    Calls Tryz.prog 93 #[.agg #[.int .u64 F, .int .u64 L, .int .u64 R], .int .u64 t] w fun e w' => e = .returned (.agg #[.int .u64 (hiW (rawN F L R t)), .int .u64 (loW (rawN F L R t))]) ∧ Below w.heap.size w w' := by
  have a := refwide_any F L R t w ⟨my.f0, by have := my.f1; omega⟩ ⟨my.l0, by have := my.l1; omega⟩ ⟨my.r0, by have := my.r1; omega⟩ wt
  unfold wideH wideL at a
  rw [if_neg (by omega), if_neg (by omega)] at a
  exact a
theorem refplus_w (a b h l : Int) (w : World) (ha : 0 ≤ a) (hb : 0 ≤ b) (hs : a + b < 340282366920938463463374607431768211456) (eh : hiW b = h) (el : loW b = l) :
    Calls Tryz.prog 92 #[.agg #[.int .u64 (hiW a), .int .u64 (loW a)], .agg #[.int .u64 h, .int .u64 l]] w fun e w' => e = .returned (.tuple #[.agg #[.int .u64 (hiW (a + b)), .int .u64 (loW (a + b))], .int .i64 0]) ∧ Below w.heap.size w w' := by
  subst eh el
  have wa := hiW_word ha (by omega)
  have wb := hiW_word hb (by omega)
  have p := refplus_any (hiW a) (loW a) (hiW b) (loW b) w wa.1 wa.2 wb.1 wb.2
  have e : (hiW a + hiW b) * 18446744073709551616 + loW a + loW b = a + b := by unfold hiW loW; omega
  have e2 : (loW a + loW b) % 18446744073709551616 = loW (a + b) := by unfold loW; omega
  unfold plusH plusL plusE at p
  rw [e, if_neg (by omega), if_neg (by omega), if_neg (by omega), e2] at p
  exact p
theorem refcmp_w (a b k : Int) (w : World) (ek : cmpN a b = k) : Calls Tryz.prog 90 #[.agg #[.int .u64 (hiW a), .int .u64 (loW a)], .agg #[.int .u64 (hiW b), .int .u64 (loW b)]] w fun e w' => e = .returned (.int .i64 k) ∧ Below w.heap.size w w' := by
  have x := wv_split a
  have y := wv_split b
  have := refcmp_any (a / 18446744073709551616) (a % 18446744073709551616) (b / 18446744073709551616) (b % 18446744073709551616) w
  rw [cmpW_words _ _ _ _ x.2 y.2, x.1, y.1, ek] at this
  exact this
theorem refmul_w (a b : Int) (w : World) (ha : Word a) (hb : Word b) : Calls Tryz.prog 94 #[.int .u64 a, .int .u64 b] w fun e w' => e = .returned (.agg #[.int .u64 (hiW (a * b)), .int .u64 (loW (a * b))]) ∧ Below w.heap.size w w' := refmul_any a b w ha hb
theorem refstop_w (a s : Int) (w : World) (ha : 0 ≤ a) (es : stopN a = s) : Calls Tryz.prog 82 #[.agg #[.int .u64 (hiW a), .int .u64 (loW a)]] w fun e w' => e = .returned (.int .u64 s) ∧ Below w.heap.size w w' := by
  have := refstop_any (hiW a) (loW a) w
  have e : stopW (hiW a) (loW a) = s := (stopW_split ha).trans es
  rw [e] at this
  exact this

/-! ### The least of some -/
def minG (G : Nat → Int) : Nat → Int
  | 0 => G 0
  | k + 1 => min (minG G k) (G (k + 1))
theorem minG_le {G : Nat → Int} {k i : Nat} (h : i ≤ k) : minG G k ≤ G i := by
  induction k with
  | zero => obtain rfl : i = 0 := by omega
            exact Int.le_refl _
  | succ k ih =>
    unfold minG
    rcases Nat.lt_or_ge i (k + 1) with c | c
    · have := ih (by omega); omega
    · obtain rfl : i = k + 1 := by omega
      omega
theorem minG_is (G : Nat → Int) (k : Nat) : ∃ i, i ≤ k ∧ minG G k = G i := by
  induction k with
  | zero => exact ⟨0, Nat.le_refl _, rfl⟩
  | succ k ih =>
    obtain ⟨i, hi, e⟩ := ih
    unfold minG
    rcases Int.le_total (minG G k) (G (k + 1)) with c | c
    · exact ⟨i, by omega, by rw [Int.min_eq_left c]; exact e⟩
    · exact ⟨k + 1, Nat.le_refl _, Int.min_eq_right c⟩
theorem minG_eq {G H : Nat → Int} {k : Nat} {f : Int → Int} (hf : ∀ a b, a ≤ b → f a ≤ f b) {v : Int} (hle : ∀ i, i ≤ k → v ≤ f (G i)) (his : ∃ i, i ≤ k ∧ v = f (G i)) : f (minG G k) = v := by
  obtain ⟨i, hi, e⟩ := his
  obtain ⟨j, hj, e2⟩ := minG_is G k
  have a := hf _ _ (minG_le (G := G) hi)
  have b := hle j hj
  rw [← e2] at b
  omega

/-- What a run has is the least of all copies'. -/
theorem ref_has {F L R : Int} {X Y : Nat → Int} (hm : May F L R) (hb : R < F) (hY : ∀ i, 0 ≤ Y i) {m : Nat} {t : Int} (ht : runX X (m + 1) ≤ t) :
    stopN (minG (fun i => rawN F L R (t - runX X (i + 1)) + capN (Y i)) m) = hasN F R (runX X (m + 1)) (runH X Y F 0 (m + 1)) (runH X Y R ((F - R) * L) (m + 1)) t := by
  have one : ∀ i, i ≤ m → stopN (rawN F L R (t - runX X (i + 1)) + capN (Y i)) = oneN F L R (Y i) (t - runX X (i + 1)) := by
    intro i hi
    have := runX_mono (X := X) (show i + 1 ≤ m + 1 by omega)
    unfold oneN atN
    rw [stop_add2 (cap_bounds (hY i)).1 (raw_nonneg hm.f0 hm.l0 hm.r0 (by omega)), Int.add_comm]
  refine minG_eq (H := fun _ => 0) (f := stopN) (fun a b h => stop_mono h) ?_ ?_
  · intro i hi
    rw [one i hi]
    exact least_le hm hb hY (by omega) ht
  · obtain ⟨i, hi, e⟩ := least_is (X := X) (Y := Y) hm hb hY (k := m + 1) (by omega) ht
    exact ⟨i, by omega, by rw [one i (by omega)]; exact e⟩
/-- And so are the lines. -/
theorem ref_line {S O : Int} {X Y : Nat → Int} (hS : 0 ≤ S) (hO : 0 ≤ O) (hY : ∀ i, 0 ≤ Y i) (m : Nat) :
    stopN (minG (fun i => capN (Y i) + S * (runX X (m + 1) - runX X (i + 1)) + O) m) = runH X Y S O (m + 1) := by
  have b := runH_bounds (X := X) hS hO hY (m + 1)
  have e0 : stopN (runH X Y S O (m + 1) + S * 0) = runH X Y S O (m + 1) := by rw [Int.mul_zero, Int.add_zero]; exact stop_small b.2
  have sw : ∀ i, capN (Y i) + O + S * (runX X (m + 1) + 0 - runX X (i + 1)) = capN (Y i) + S * (runX X (m + 1) - runX X (i + 1)) + O := by
    intro i
    rw [Int.add_zero]; omega
  refine minG_eq (H := fun _ => 0) (f := stopN) (fun a b h => stop_mono h) ?_ ?_
  · intro i hi
    have := line_le (X := X) hS hO hY (show i < m + 1 by omega) (Int.le_refl 0)
    rw [e0, sw] at this
    exact this
  · obtain ⟨i, hi, e⟩ := line_is (X := X) hS hO hY (show 0 < m + 1 by omega) (Int.le_refl 0)
    rw [e0, sw] at e
    exact ⟨i, by omega, e⟩
theorem raw_less {F L R t : Int} (hm : May F L R) (h0 : 0 ≤ t) (h1 : t < 18446744073709551616) : 0 ≤ rawN F L R t ∧ rawN F L R t ≤ 19342813113834066795298816 := by
  have a : F * min t L ≤ 1048576 * min t L := Int.mul_le_mul_of_nonneg_right hm.f1 (by have := hm.l0; omega)
  have b : R * (t - min t L) ≤ 1048576 * (t - min t L) := Int.mul_le_mul_of_nonneg_right hm.r1 (by omega)
  refine ⟨raw_nonneg hm.f0 hm.l0 hm.r0 h0, ?_⟩
  unfold rawN
  omega

/-! ### What its memory holds -/
/-- Block q holds the copies: the curve, the ticks, the amounts. -/
def IsCop (w : World) (q : Nat) (F L R : Int) (n : Nat) (X Y : Nat → Int) : Prop :=
  ∃ vx vy, Blk w q 111 #[.int .u64 F, .int .u64 L, .int .u64 R, vx, vy] ∧ w.ownsRow (q + 1) 28 1 vx n (rowOf X n) ∧ w.ownsRow (q + 1) 28 1 vy n (rowOf Y n) ∧ (∀ g, vx.ownBlock = some g → vy.ownBlock ≠ some g)
theorem IsCop.lt {w : World} {q : Nat} {F L R : Int} {n : Nat} {X Y : Nat → Int} (h : IsCop w q F L R n X Y) : q < w.heap.size := by obtain ⟨_, _, h, _⟩ := h; exact Blk.lt h
theorem IsCop.fr {S : Nat → Prop} {w w' : World} {q : Nat} {F L R : Int} {n : Nat} {X Y : Nat → Int} (h : IsCop w q F L R n X Y) (hf : Fr S w w') (hn : ∀ k, q ≤ k → k < w.heap.size → ¬ S k) : IsCop w' q F L R n X Y := by
  obtain ⟨vx, vy, hq, hx, hy, hd⟩ := h
  exact ⟨vx, vy, hq.fr hf (hn q (Nat.le_refl _) (Blk.lt hq)), ownsRow_fr hx hf fun k hk => hn k (by have := (hx.lt k hk).1; omega) (hx.lt k hk).2, ownsRow_fr hy hf fun k hk => hn k (by have := (hy.lt k hk).1; omega) (hy.lt k hk).2, hd⟩
theorem IsCop.next {w w' : World} {q : Nat} {F L R : Int} {n : Nat} {X Y : Nat → Int} (h : IsCop w q F L R n X Y) (hb : Below w.heap.size w w') : IsCop w' q F L R n X Y :=
  h.fr (Fr.of_below hb) fun k _ hk => by omega
/-- A row, as its cells are read. -/
theorem own_reads {w : World} {base n : Nat} {v : Value} {X : Nat → Int} (h : w.ownsRow base 28 1 v n (rowOf X n)) :
    ∃ A c, v = .slice A n c ∧ n ≤ c ∧ c ≤ maxLen ∧ (0 < n → ∃ g, A = some ⟨g, 0, none⟩ ∧ g < w.heap.size ∧ ∀ j, j < n → w.cell? ⟨g, j, none⟩ = some (.int .u64 (X j))) := by
  rcases h.2 with ⟨rfl, rfl⟩ | ⟨g, cap, cur, rfl, hb, hg, h1, h2, h3, h4⟩
  · exact ⟨none, 0, rfl, Nat.le_refl _, Nat.zero_le _, fun h => by omega⟩
  · refine ⟨_, cap, rfl, h1, h2, fun _ => ⟨g, rfl, lt_of_block hg, fun j hj => ?_⟩⟩
    have := h.cells (g := g) rfl j _ (rowOf_get hj)
    rw [Addr.add_lit, Nat.zero_add] at this
    exact this
theorem IsCop.open {w : World} {q : Nat} {F L R : Int} {n : Nat} {X Y : Nat → Int} (h : IsCop w q F L R n X Y) :
    ∃ A cA D cD, Blk w q 111 #[.int .u64 F, .int .u64 L, .int .u64 R, .slice A n cA, .slice D n cD] ∧ (n ≤ cA ∧ cA ≤ maxLen) ∧ (n ≤ cD ∧ cD ≤ maxLen) ∧
      (0 < n → ∃ g, A = some ⟨g, 0, none⟩ ∧ g < w.heap.size ∧ ∀ j, j < n → w.cell? ⟨g, j, none⟩ = some (.int .u64 (X j))) ∧
      (0 < n → ∃ g, D = some ⟨g, 0, none⟩ ∧ g < w.heap.size ∧ ∀ j, j < n → w.cell? ⟨g, j, none⟩ = some (.int .u64 (Y j))) := by
  obtain ⟨vx, vy, hq, hx, hy, hd⟩ := h
  obtain ⟨A, cA, rfl, a1, a2, a3⟩ := own_reads hx
  obtain ⟨D, cD, rfl, d1, d2, d3⟩ := own_reads hy
  exact ⟨A, cA, D, cD, hq, ⟨a1, a2⟩, ⟨d1, d2⟩, a3, d3⟩

end Go.Proofs.YtjhffbhjiflfeaaGreat
