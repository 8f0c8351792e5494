/-
  What the document's comparison, difference and quotient of wide numbers are; the program's quotient in one form.
-/
import Derived.Test.YtafhdpldkbhdcaaProg
import Derived.Test.YtafhdpldkbhdcaaWideMinus
import Derived.Test.YtafhdpldkbhdcaaWideCmp
namespace Go.Proofs.Ytafhdpldkbhdcaa
set_option linter.unusedVariables false
set_option linter.unusedSimpArgs false
open Go.RowKit Go.Shelf

theorem refcmp_any (h1 l1 h2 l2 : Int) (w : World) : Calls Try.prog 24 #[.agg #[.int .u64 h1, .int .u64 l1], .agg #[.int .u64 h2, .int .u64 l2]] w fun e w' => e = .returned (.int .i64 (cmpW h1 l1 h2 l2)) ∧ Below w.heap.size w w' := by
  rcases (show h1 < h2 ∨ h2 < h1 ∨ h1 = h2 by omega) with h | h | h
  · have H : Hid (cmpW h1 l1 h2 l2 = -1) := by unfold Hid cmpW; rw [cmpN_lt h, if_neg (by decide)]
    rw [H.out]
    go_enter Try.func24, Try.ntmps24
    go_wp2_with fail
    go_ret
    exact ⟨rfl, by go_grown⟩
  · have H : Hid (cmpW h1 l1 h2 l2 = 1) := by unfold Hid cmpW; rw [cmpN_gt h, if_neg (by decide)]
    rw [H.out]
    have e1 : (h1 == h2) = false := beq_eq_false_iff_ne.2 (by omega)
    have e2 : ¬ h1 = h2 := by omega
    go_enter Try.func24, Try.ntmps24
    go_wp2_with fail
    go_ret
    exact ⟨rfl, by go_grown⟩
  · subst h
    have H : Hid (cmpW h1 l1 h1 l2 = cmpN l1 l2) := by unfold Hid cmpW; rw [if_pos]; unfold cmpN; rw [if_neg (Int.lt_irrefl _), if_neg (Int.lt_irrefl _)]
    rw [H.out]
    rcases (show l1 < l2 ∨ l2 < l1 ∨ l1 = l2 by omega) with h | h | h
    · have H : Hid (cmpN l1 l2 = -1) := by unfold Hid; exact cmpN_lt h
      rw [H.out]
      go_enter Try.func24, Try.ntmps24
      go_wp2_with fail
      go_ret
      exact ⟨rfl, by go_grown⟩
    · have H : Hid (cmpN l1 l2 = 1) := by unfold Hid; exact cmpN_gt h
      rw [H.out]
      have e1 : (l1 == l2) = false := beq_eq_false_iff_ne.2 (by omega)
      have e2 : ¬ l1 = l2 := by omega
      go_enter Try.func24, Try.ntmps24
      go_wp2_with fail
      go_ret
      exact ⟨rfl, by go_grown⟩
    · subst h
      have H : Hid (cmpN l1 l1 = 0) := by unfold Hid; exact cmpN_eq _
      rw [H.out]
      go_enter Try.func24, Try.ntmps24
      go_wp2_with fail
      go_ret
      exact ⟨rfl, by go_grown⟩

theorem refminus_any (h1 l1 h2 l2 : Int) (w : World) (a1 : Word h1) (a2 : Word l1) (a3 : Word h2) (a4 : Word l2) :
    Calls Try.prog 20 #[.agg #[.int .u64 h1, .int .u64 l1], .agg #[.int .u64 h2, .int .u64 l2]] w fun e w' => e = .returned (.tuple #[.agg #[.int .u64 (lessH h1 l1 h2 l2), .int .u64 (lessL h1 l1 h2 l2)], .int .i64 (lessE h1 l1 h2 l2)]) ∧ Below w.heap.size w w' := by
  have hc : cmpW h1 l1 h2 l2 = cmpN (wv h1 l1) (wv h2 l2) := cmpW_words _ _ _ _ a2 a4
  obtain ⟨x1, x2⟩ := a1; obtain ⟨x3, x4⟩ := a2; obtain ⟨x5, x6⟩ := a3; obtain ⟨x7, x8⟩ := a4
  rcases Int.lt_or_le (wv h1 l1) (wv h2 l2) with h | h
  · have EH : Hid (lessH h1 l1 h2 l2 = 0) := by unfold Hid lessH; rw [if_pos h]
    have EL : Hid (lessL h1 l1 h2 l2 = 0) := by unfold Hid lessL; rw [if_pos h]
    have EE : Hid (lessE h1 l1 h2 l2 = 10) := by unfold Hid lessE; rw [if_pos h]
    have C : Hid (cmpW h1 l1 h2 l2 = -1) := by unfold Hid; rw [hc]; exact cmpN_lt h
    rw [EH.out, EL.out, EE.out]
    clear hc h
    have CM := Lib.hid (fun w => refcmp_any h1 l1 h2 l2 w)
    rw [C.out] at CM
    go_enter Try.func20, Try.ntmps20
    go_wp2_with fail
    with_reducible refine (CM.out _).mono ?_
    rintro e w1 ⟨rfl, hb1⟩
    have K0m : Blk w1 (w.heap.size) 25 #[.int .u64 h1, .int .u64 l1] := Blk.next (by repeat (first | (refine Blk.new_at ?_; simp only [World.size_alloc]; done) | (with_reducible refine Blk.alloc ?_ _) | (with_reducible refine Blk.drewN ?_ _))) hb1
    have K0b := K0m
    clear K0m
    have K0c0 : World.cell? w1 ⟨w.heap.size, 0, none⟩ = some (.int .u64 h1) := K0b.get 0 rfl
    have K0f0 := Blk.frozen K0b 0
    have K0c1 : World.cell? w1 ⟨w.heap.size, 1, none⟩ = some (.int .u64 l1) := K0b.get 1 rfl
    have K0f1 := Blk.frozen K0b 1
    have K0n := Blk.lt K0b
    have K1m : Blk w1 (w.heap.size + 1) 25 #[.int .u64 h2, .int .u64 l2] := Blk.next (by repeat (first | (refine Blk.new_at ?_; simp only [World.size_alloc]; done) | (with_reducible refine Blk.alloc ?_ _) | (with_reducible refine Blk.drewN ?_ _))) hb1
    have K1b := K1m
    clear K1m
    have K1c0 : World.cell? w1 ⟨w.heap.size + 1, 0, none⟩ = some (.int .u64 h2) := K1b.get 0 rfl
    have K1f0 := Blk.frozen K1b 0
    have K1c1 : World.cell? w1 ⟨w.heap.size + 1, 1, none⟩ = some (.int .u64 l2) := K1b.get 1 rfl
    have K1f1 := Blk.frozen K1b 1
    have K1n := Blk.lt K1b
    have K2m : Blk w1 (w.heap.size + 1 + 1) 25 #[.int .u64 0, .int .u64 0] := Blk.next (by repeat (first | (refine Blk.new_at ?_; simp only [World.size_alloc]; done) | (with_reducible refine Blk.alloc ?_ _) | (with_reducible refine Blk.drewN ?_ _))) hb1
    have K2b := K2m
    clear K2m
    have K2c0 : World.cell? w1 ⟨w.heap.size + 1 + 1, 0, none⟩ = some (.int .u64 0) := K2b.get 0 rfl
    have K2f0 := Blk.frozen K2b 0
    have K2c1 : World.cell? w1 ⟨w.heap.size + 1 + 1, 1, none⟩ = some (.int .u64 0) := K2b.get 1 rfl
    have K2f1 := Blk.frozen K2b 1
    have K2n := Blk.lt K2b
    have B1 : Below w.heap.size w w1 := by first | with_reducible exact hb1 | exact Below.trans (by go_grown) (hb1.mono (by simp only [World.size_alloc]; omega))
    clear hb1
    obtain ⟨P0, P1, P2⟩ := Blk.puts K2b (.int .u64 0) (.int .u64 0)
    go_wp2_with fail
    refine bodyPost_ret (by simp [results, Try.results20, go_sem, P0, P1]; try rfl) rfl ?_
    exact ⟨rfl, by go_grown⟩
  · obtain ⟨c, ec⟩ : ∃ c, cmpW h1 l1 h2 l2 = c := ⟨_, rfl⟩
    have c0 : 0 ≤ c := by rw [← ec, hc]; unfold cmpN; rw [if_neg (by omega)]; split <;> decide
    have C := Lib.hid ec
    have EE : Hid (lessE h1 l1 h2 l2 = 0) := by unfold Hid lessE; rw [if_neg (by omega)]
    have CM := Lib.hid (fun w => refcmp_any h1 l1 h2 l2 w)
    rw [C.out] at CM
    unfold wv at h
    clear ec hc
    rcases Int.lt_or_le l1 l2 with h' | h'
    · have EH : Hid (lessH h1 l1 h2 l2 = h1 - h2 - 1) := by unfold Hid lessH wv; rw [if_neg (by omega)]; omega
      have EL : Hid (lessL h1 l1 h2 l2 = l1 - l2 + 18446744073709551616) := by unfold Hid lessL wv; rw [if_neg (by omega)]; omega
      have wl : IntKind.u64.wrap (l1 - l2) = l1 - l2 + 18446744073709551616 := by rw [IntKind.wrap_u64]; omega
      have h3 : h2 + 1 ≤ h1 := by omega
      rw [EH.out, EL.out, EE.out]
      clear h
      go_enter Try.func20, Try.ntmps20
      go_wp2_with fail
      with_reducible refine (CM.out _).mono ?_
      rintro e w1 ⟨rfl, hb1⟩
      have K0m : Blk w1 (w.heap.size) 25 #[.int .u64 h1, .int .u64 l1] := Blk.next (by repeat (first | (refine Blk.new_at ?_; simp only [World.size_alloc]; done) | (with_reducible refine Blk.alloc ?_ _) | (with_reducible refine Blk.drewN ?_ _))) hb1
      have K0b := K0m
      clear K0m
      have K0c0 : World.cell? w1 ⟨w.heap.size, 0, none⟩ = some (.int .u64 h1) := K0b.get 0 rfl
      have K0f0 := Blk.frozen K0b 0
      have K0c1 : World.cell? w1 ⟨w.heap.size, 1, none⟩ = some (.int .u64 l1) := K0b.get 1 rfl
      have K0f1 := Blk.frozen K0b 1
      have K0n := Blk.lt K0b
      have K1m : Blk w1 (w.heap.size + 1) 25 #[.int .u64 h2, .int .u64 l2] := Blk.next (by repeat (first | (refine Blk.new_at ?_; simp only [World.size_alloc]; done) | (with_reducible refine Blk.alloc ?_ _) | (with_reducible refine Blk.drewN ?_ _))) hb1
      have K1b := K1m
      clear K1m
      have K1c0 : World.cell? w1 ⟨w.heap.size + 1, 0, none⟩ = some (.int .u64 h2) := K1b.get 0 rfl
      have K1f0 := Blk.frozen K1b 0
      have K1c1 : World.cell? w1 ⟨w.heap.size + 1, 1, none⟩ = some (.int .u64 l2) := K1b.get 1 rfl
      have K1f1 := Blk.frozen K1b 1
      have K1n := Blk.lt K1b
      have K2m : Blk w1 (w.heap.size + 1 + 1) 25 #[.int .u64 0, .int .u64 0] := Blk.next (by repeat (first | (refine Blk.new_at ?_; simp only [World.size_alloc]; done) | (with_reducible refine Blk.alloc ?_ _) | (with_reducible refine Blk.drewN ?_ _))) hb1
      have K2b := K2m
      clear K2m
      have K2c0 : World.cell? w1 ⟨w.heap.size + 1 + 1, 0, none⟩ = some (.int .u64 0) := K2b.get 0 rfl
      have K2f0 := Blk.frozen K2b 0
      have K2c1 : World.cell? w1 ⟨w.heap.size + 1 + 1, 1, none⟩ = some (.int .u64 0) := K2b.get 1 rfl
      have K2f1 := Blk.frozen K2b 1
      have K2n := Blk.lt K2b
      have B1 : Below w.heap.size w w1 := by first | with_reducible exact hb1 | exact Below.trans (by go_grown) (hb1.mono (by simp only [World.size_alloc]; omega))
      clear hb1
      obtain ⟨P0, P1, P2⟩ := Blk.puts K2b (.int .u64 (h1 - h2 - 1)) (.int .u64 (l1 - l2 + 18446744073709551616))
      go_wp2_with fail
      refine bodyPost_ret (by simp [results, Try.results20, go_sem, P0, P1]; try rfl) rfl ?_
      exact ⟨rfl, by go_grown⟩
    · have EH : Hid (lessH h1 l1 h2 l2 = h1 - h2) := by unfold Hid lessH wv; rw [if_neg (by omega)]; omega
      have EL : Hid (lessL h1 l1 h2 l2 = l1 - l2) := by unfold Hid lessL wv; rw [if_neg (by omega)]; omega
      have h3 : h2 ≤ h1 := by omega
      rw [EH.out, EL.out, EE.out]
      clear h
      go_enter Try.func20, Try.ntmps20
      go_wp2_with fail
      with_reducible refine (CM.out _).mono ?_
      rintro e w1 ⟨rfl, hb1⟩
      have K0m : Blk w1 (w.heap.size) 25 #[.int .u64 h1, .int .u64 l1] := Blk.next (by repeat (first | (refine Blk.new_at ?_; simp only [World.size_alloc]; done) | (with_reducible refine Blk.alloc ?_ _) | (with_reducible refine Blk.drewN ?_ _))) hb1
      have K0b := K0m
      clear K0m
      have K0c0 : World.cell? w1 ⟨w.heap.size, 0, none⟩ = some (.int .u64 h1) := K0b.get 0 rfl
      have K0f0 := Blk.frozen K0b 0
      have K0c1 : World.cell? w1 ⟨w.heap.size, 1, none⟩ = some (.int .u64 l1) := K0b.get 1 rfl
      have K0f1 := Blk.frozen K0b 1
      have K0n := Blk.lt K0b
      have K1m : Blk w1 (w.heap.size + 1) 25 #[.int .u64 h2, .int .u64 l2] := Blk.next (by repeat (first | (refine Blk.new_at ?_; simp only [World.size_alloc]; done) | (with_reducible refine Blk.alloc ?_ _) | (with_reducible refine Blk.drewN ?_ _))) hb1
      have K1b := K1m
      clear K1m
      have K1c0 : World.cell? w1 ⟨w.heap.size + 1, 0, none⟩ = some (.int .u64 h2) := K1b.get 0 rfl
      have K1f0 := Blk.frozen K1b 0
      have K1c1 : World.cell? w1 ⟨w.heap.size + 1, 1, none⟩ = some (.int .u64 l2) := K1b.get 1 rfl
      have K1f1 := Blk.frozen K1b 1
      have K1n := Blk.lt K1b
      have K2m : Blk w1 (w.heap.size + 1 + 1) 25 #[.int .u64 0, .int .u64 0] := Blk.next (by repeat (first | (refine Blk.new_at ?_; simp only [World.size_alloc]; done) | (with_reducible refine Blk.alloc ?_ _) | (with_reducible refine Blk.drewN ?_ _))) hb1
      have K2b := K2m
      clear K2m
      have K2c0 : World.cell? w1 ⟨w.heap.size + 1 + 1, 0, none⟩ = some (.int .u64 0) := K2b.get 0 rfl
      have K2f0 := Blk.frozen K2b 0
      have K2c1 : World.cell? w1 ⟨w.heap.size + 1 + 1, 1, none⟩ = some (.int .u64 0) := K2b.get 1 rfl
      have K2f1 := Blk.frozen K2b 1
      have K2n := Blk.lt K2b
      have B1 : Below w.heap.size w w1 := by first | with_reducible exact hb1 | exact Below.trans (by go_grown) (hb1.mono (by simp only [World.size_alloc]; omega))
      clear hb1
      obtain ⟨P0, P1, P2⟩ := Blk.puts K2b (.int .u64 (h1 - h2)) (.int .u64 (l1 - l2))
      go_wp2_with fail
      refine bodyPost_ret (by simp [results, Try.results20, go_sem, P0, P1]; try rfl) rfl ?_
      exact ⟨rfl, by go_grown⟩

/-! ### The quotient, in one form -/
def divE (h n : Int) : Int := if n = 0 then 2 else if n ≤ h then 10 else 0
def divQ (h l n : Int) : Int := if divE h n = 0 then wv h l / n else 0
def divR (h l n : Int) : Int := if divE h n = 0 then wv h l % n else 0
theorem wdivs_any (h l n : Int) (w : World) (a : Word h) (b : Word l) (c : Word n) : Calls Try.prog 21 #[.agg #[.int .u64 h, .int .u64 l], .int .u64 n] w fun e w' =>
    e = .returned (.tuple #[.int .u64 (divQ h l n), .int .u64 (divR h l n), .int .i64 (divE h n)]) ∧ Below w.heap.size w w' := by
  have n0 := c.1
  by_cases h0 : n = 0
  · have E : divE h n = 2 := by unfold divE; rw [if_pos h0]
    unfold divQ divR
    rw [E, if_neg (by decide), if_neg (by decide)]
    subst h0
    exact wdiv_zero h l w
  · by_cases h1 : n ≤ h
    · have E : divE h n = 10 := by unfold divE; rw [if_neg h0, if_pos h1]
      unfold divQ divR
      rw [E, if_neg (by decide), if_neg (by decide)]
      exact wdiv_over h l n w (by omega) h1
    · have E : divE h n = 0 := by unfold divE; rw [if_neg h0, if_neg h1]
      unfold divQ divR
      rw [E, if_pos rfl, if_pos rfl]
      exact wdiv_any h l n w a.1 b c.2 (by omega)
theorem refdivs_any (h l n : Int) (w : World) (a : Word h) (b : Word l) (c : Word n) : Calls Try.prog 22 #[.agg #[.int .u64 h, .int .u64 l], .int .u64 n] w fun e w' =>
    e = .returned (.tuple #[.int .u64 (divQ h l n), .int .u64 (divR h l n), .int .i64 (divE h n)]) ∧ Below w.heap.size w w' := by
  have n0 := c.1
  by_cases h0 : n = 0
  · have E : divE h n = 2 := by unfold divE; rw [if_pos h0]
    unfold divQ divR
    rw [E, if_neg (by decide), if_neg (by decide)]
    subst h0
    exact refdiv_zero h l w
  · by_cases h1 : n ≤ h
    · have E : divE h n = 10 := by unfold divE; rw [if_neg h0, if_pos h1]
      unfold divQ divR
      rw [E, if_neg (by decide), if_neg (by decide)]
      exact refdiv_over h l n w (by omega) h1
    · have E : divE h n = 0 := by unfold divE; rw [if_neg h0, if_neg h1]
      unfold divQ divR
      rw [E, if_pos rfl, if_pos rfl]
      exact refdiv_any h l n w a.1 b c.2 (by omega)

end Go.Proofs.Ytafhdpldkbhdcaa
