/-
  Sagging runs, in plain words: what is kept at a start, when so much is reached.
-/
import Derived.Test.YtjhffbhjiflfeaaGreatBentPlain
namespace Go.Proofs.YtjhffbhjiflfeaaGreat
set_option linter.unusedVariables false
set_option linter.unusedSimpArgs false

/-- What a copy has at x, and its line. -/
def sHas (F L R x : Int) (k : Int × Int) : Int := rawN F L R (x - k.1) + k.2
def sLine (R x : Int) (k : Int × Int) : Int := R * (x - k.1) + k.2
/-- Those on top that have at least so much go. -/
def sPop (h : Int × Int → Int) (a : Int) : List (Int × Int) → List (Int × Int)
  | [] => []
  | k :: K => if a ≤ h k then sPop h a K else k :: K
def sPut (R x : Int) (k : Int × Int) : List (Int × Int) → List (Int × Int)
  | [] => [k]
  | c :: K => if sLine R x c ≤ sLine R x k then c :: K else k :: c :: K
def sPush (F L R x : Int) (out : List (Int × Int)) (k : Int × Int) : List (Int × Int) := sPut R x k (sPop (sHas F L R x) (sHas F L R x k) out)
/-- The kept ones, the last ahead. -/
def sKept (F L R x : Int) (K : List (Int × Int)) : List (Int × Int) := K.foldl (sPush F L R x) []
/-- The kept ones behind a start. -/
def sNext (F L R x X Y : Int) (K : List (Int × Int)) : List (Int × Int) := (sKept F L R (nextX x X) (K ++ [(nextX x X, capN Y)])).reverse
/-- The last of the ticks. -/
def sGo (f : Int × Int → Int) : List (Int × Int) → Int → Int
  | [], a => a
  | k :: K, a => if 9223372036854775808 - k.1 ≤ f k then 9223372036854775808 else sGo f K (max a (k.1 + f k))
def sReach (F L R n x : Int) (K : List (Int × Int)) (y : Int) : Int :=
  if n = 0 then (if y = 0 then 0 else 9223372036854775808) else if 4611686018427387904 < y then 9223372036854775808 else sGo (fun k => reachN F L R (minusN y k.2)) K x

/-- A sagging run is as it may be. -/
structure SagOk (F L R n x : Int) (K : List (Int × Int)) : Prop where
  may : May F L R
  sag : F ≤ R
  n0 : 0 ≤ n
  x0 : 0 ≤ x
  x1 : x ≤ 9223372036854775808
  none : n = 0 → K = []
  len : (K.length : Int) ≤ n
  at' : ∀ k ∈ K, 0 ≤ k.1 ∧ k.1 ≤ x ∧ 0 ≤ k.2 ∧ k.2 ≤ 4611686018427387904

theorem mem_sPop {h : Int × Int → Int} {a : Int} {q : Int × Int} : ∀ {K : List (Int × Int)}, q ∈ sPop h a K → q ∈ K
  | [], m => m
  | k :: K, m => by
    unfold sPop at m
    split at m
    · exact List.mem_cons_of_mem _ (mem_sPop m)
    · exact m
theorem mem_sPush {F L R x : Int} {q k : Int × Int} {K : List (Int × Int)} (m : q ∈ sPush F L R x K k) : q = k ∨ q ∈ K := by
  unfold sPush at m
  have hp : ∀ z, z ∈ sPop (sHas F L R x) (sHas F L R x k) K → z ∈ K := fun z => mem_sPop
  cases e : sPop (sHas F L R x) (sHas F L R x k) K with
  | nil => rw [e] at m; exact Or.inl (List.mem_singleton.1 m)
  | cons c K' =>
    rw [e] at m hp
    change q ∈ (if sLine R x c ≤ sLine R x k then c :: K' else k :: c :: K') at m
    split at m
    · exact Or.inr (hp _ m)
    · rcases List.mem_cons.1 m with m | m
      · exact Or.inl m
      · exact Or.inr (hp _ m)
theorem mem_sFold {F L R x : Int} {q : Int × Int} : ∀ {K O : List (Int × Int)}, q ∈ K.foldl (sPush F L R x) O → q ∈ O ∨ q ∈ K
  | [], O, m => Or.inl m
  | k :: K, O, m => by
    rcases mem_sFold (K := K) m with h | h
    · rcases mem_sPush h with h | h
      · exact Or.inr (h ▸ List.mem_cons_self ..)
      · exact Or.inl h
    · exact Or.inr (List.mem_cons_of_mem _ h)
theorem sPop_len (h : Int × Int → Int) (a : Int) : ∀ K : List (Int × Int), (sPop h a K).length ≤ K.length
  | [] => Nat.le_refl _
  | k :: K => by
    unfold sPop
    split
    · exact Nat.le_trans (sPop_len h a K) (Nat.le_succ _)
    · exact Nat.le_refl _
theorem sPush_len {F L R x : Int} {k : Int × Int} (K : List (Int × Int)) : (sPush F L R x K k).length ≤ K.length + 1 := by
  unfold sPush
  have := sPop_len (sHas F L R x) (sHas F L R x k) K
  cases e : sPop (sHas F L R x) (sHas F L R x k) K with
  | nil => simp [sPut]
  | cons c K' =>
    rw [e] at this
    show (if sLine R x c ≤ sLine R x k then c :: K' else k :: c :: K').length ≤ _
    split
    · exact Nat.le_trans this (Nat.le_succ _)
    · exact Nat.succ_le_succ this
theorem sFold_len {F L R x : Int} : ∀ (K O : List (Int × Int)), (K.foldl (sPush F L R x) O).length ≤ O.length + K.length
  | [], O => Nat.le_refl _
  | k :: K, O => by
    have h1 := sFold_len (F := F) (L := L) (R := R) (x := x) K (sPush F L R x O k)
    have h2 := sPush_len (F := F) (L := L) (R := R) (x := x) (k := k) O
    simp only [List.foldl_cons, List.length_cons]
    omega
theorem sag_none {F L R : Int} (hm : May F L R) (hs : F ≤ R) : SagOk F L R 0 0 [] :=
  ⟨hm, hs, Int.le_refl _, Int.le_refl _, by decide, fun _ => rfl, Int.le_refl _, fun k hk => by cases hk⟩
theorem SagOk.next {F L R n x : Int} {K : List (Int × Int)} {X Y : Int} (h : SagOk F L R n x K) (hY : 0 ≤ Y) : SagOk F L R (n + 1) (nextX x X) (sNext F L R x X Y K) := by
  have hx1 := nextX_ge x X
  have hx2 := nextX_le (X := X) h.x1
  have hc := cap_bounds hY
  refine ⟨h.may, h.sag, by have := h.n0; omega, Int.le_trans h.x0 hx1, hx2, fun e => by have := h.n0; omega, ?_, ?_⟩
  · unfold sNext sKept
    have := sFold_len (F := F) (L := L) (R := R) (x := nextX x X) (K ++ [(nextX x X, capN Y)]) []
    have hl := h.len
    simp only [List.length_append, List.length_reverse, List.length_cons, List.length_nil] at this ⊢
    omega
  · intro k hk
    unfold sNext sKept at hk
    rcases mem_sFold (List.mem_reverse.1 hk) with m | m
    · cases m
    · rcases List.mem_append.1 m with m | m
      · have := h.at' k m
        exact ⟨this.1, by omega, this.2.2⟩
      · rw [List.mem_singleton.1 m]
        exact ⟨Int.le_trans h.x0 hx1, Int.le_refl _, hc.1, hc.2⟩
theorem rawN_nonneg {F L R t : Int} (hm : May F L R) (ht : 0 ≤ t) : 0 ≤ rawN F L R t := by
  unfold rawN
  have h1 : 0 ≤ F * min t L := Int.mul_nonneg hm.f0 (by have := hm.l0; omega)
  have h2 : 0 ≤ R * (t - min t L) := Int.mul_nonneg hm.r0 (by omega)
  omega
/-- The last tick grows with what is asked. -/
theorem sGo_ge {f : Int × Int → Int} : ∀ {K : List (Int × Int)} {a : Int}, a ≤ 9223372036854775808 → a ≤ sGo f K a
  | [], a, _ => Int.le_refl _
  | k :: K, a, ha => by
    unfold sGo
    split
    · exact ha
    · have h1 : max a (k.1 + f k) ≤ 9223372036854775808 := by omega
      exact Int.le_trans (by omega) (sGo_ge h1)
theorem sGo_le {f : Int × Int → Int} : ∀ {K : List (Int × Int)} {a : Int}, a ≤ 9223372036854775808 → sGo f K a ≤ 9223372036854775808
  | [], a, h => h
  | k :: K, a, ha => by
    unfold sGo
    split
    · exact Int.le_refl _
    · exact sGo_le (by omega)
theorem sGo_mono {f g : Int × Int → Int} : ∀ {K : List (Int × Int)} {a b : Int}, (∀ k ∈ K, f k ≤ g k) → a ≤ b → b ≤ 9223372036854775808 → sGo f K a ≤ sGo g K b
  | [], a, b, _, h, _ => h
  | k :: K, a, b, hfg, h, hb => by
    have hk := hfg k (List.mem_cons_self ..)
    unfold sGo
    by_cases h1 : 9223372036854775808 - k.1 ≤ g k
    · rw [if_pos h1]
      split
      · exact Int.le_refl _
      · exact sGo_le (by omega)
    · rw [if_neg h1, if_neg (by omega)]
      exact sGo_mono (fun q hq => hfg q (List.mem_cons_of_mem _ hq)) (by omega) (by omega)

end Go.Proofs.YtjhffbhjiflfeaaGreat
