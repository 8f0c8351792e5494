/-
  What the document's rounded quotients are.
-/
import Derived.Test.YtjbajongjdbplaaProg
import Derived.Test.YtjbajongjdbplaaRatioC
namespace Go.Proofs.Ytjbajongjdbplaa
set_option linter.unusedVariables false
set_option linter.unusedSimpArgs false
open Go.RowKit Go.Shelf

theorem refdiv_qr (h l n q r : Int) (w : World) (h0 : 0 ≤ h) (hl : Word l) (hn : n < 18446744073709551616) (hh : h < n) (eq : DivQ h l n = q) (er : DivR h l n = r) :
    Calls Try.prog 76 #[.agg #[.int .u64 h, .int .u64 l], .int .u64 n] w fun e w' => e = .returned (.tuple #[.int .u64 q, .int .u64 r, .int .i64 0]) ∧ Below w.heap.size w w' := by
  rw [← eq, ← er]; exact refdiv_any h l n w h0 hl hn hh

/-- The long quotient: its words, and what is left. -/
theorem long_quot {h l c q1 r1 q2 r2 : Int} (h0 : Word h) (hl : Word l) (hc : 0 < c) (e1 : DivQ 0 h c = q1) (e2 : DivR 0 h c = r1) (e3 : DivQ r1 l c = q2) (e4 : DivR r1 l c = r2) :
    wv q1 q2 = wv h l / c ∧ r2 = wv h l % c ∧ 0 ≤ r1 ∧ r1 < c ∧ Word q1 ∧ Word q2 ∧ 0 ≤ r2 ∧ r2 < c := by
  unfold DivQ at e1 e3
  unfold DivR at e2 e4
  rw [Int.zero_mul, Int.zero_add] at e1 e2
  have a1 := Int.mul_ediv_add_emod h c
  have a2 := Int.mul_ediv_add_emod (r1 * 18446744073709551616 + l) c
  have a3 := Int.emod_nonneg h (show c ≠ 0 by omega)
  have a4 := Int.emod_lt_of_pos h hc
  have a5 := Int.emod_nonneg (r1 * 18446744073709551616 + l) (show c ≠ 0 by omega)
  have a6 := Int.emod_lt_of_pos (r1 * 18446744073709551616 + l) hc
  rw [e1, e2] at a1
  rw [e3, e4] at a2
  rw [e2] at a3 a4
  rw [e4] at a5 a6
  have q1n : 0 ≤ q1 := by rw [← e1]; exact Int.ediv_nonneg h0.1 (by omega)
  have q1l : q1 ≤ h := by rw [← e1]; exact Int.ediv_le_self _ h0.1
  have k := quot_words a3 hl a4
  have k1 : Word q2 := by rw [← e3]; exact k.1
  have key : wv h l = r2 + c * wv q1 q2 := by
    unfold wv
    rw [Int.mul_add, ← Int.mul_assoc]
    have : h * 18446744073709551616 = c * q1 * 18446744073709551616 + r1 * 18446744073709551616 := by rw [← Int.add_mul, a1]
    omega
  have hcn : c ≠ 0 := by omega
  refine ⟨?_, ?_, a3, a4, ⟨q1n, by have := h0.2; omega⟩, k1, a5, a6⟩
  · rw [key, Int.add_mul_ediv_left _ _ hcn, Int.ediv_eq_zero_of_lt a5 a6, Int.zero_add]
  · rw [key, Int.add_mul_emod_self_left, Int.emod_eq_of_lt a5 a6]

theorem retWB {a b c d : Int} {x y : Bool} (h : a = c) (h' : b = d) (h'' : x = y) : Ending.returned (.tuple #[.agg #[.int .u64 a, .int .u64 b], .bool x]) = .returned (.tuple #[.agg #[.int .u64 c, .int .u64 d], .bool y]) := by rw [h, h', h'']

theorem refquot_any (a b c h l q1 r1 q2 r2 : Int) (w : World) (ha : Word a) (hb : Word b) (hc : Word c) (hc0 : 0 < c) (eh : a * b / 18446744073709551616 = h) (el : a * b % 18446744073709551616 = l)
    (e1 : DivQ 0 h c = q1) (e2 : DivR 0 h c = r1) (e3 : DivQ r1 l c = q2) (e4 : DivR r1 l c = r2) :
    Calls Try.prog 72 #[.int .u64 a, .int .u64 b, .int .u64 c] w fun e w' => e = .returned (.tuple #[.agg #[.int .u64 q1, .int .u64 q2], .bool (decide (0 < r2))]) ∧ Below w.heap.size w w' := by
  have v1 := (prod_words ha hb).1
  have v2 := (prod_words ha hb).2.1
  rw [eh] at v1
  rw [el] at v2
  have ⟨r0, rc, w1, w2, s0, sc⟩ := (long_quot v1 v2 hc0 e1 e2 e3 e4).2.2
  have EH := Lib.hid eh
  have EL := Lib.hid el
  have E1 := Lib.hid e1
  have E2 := Lib.hid e2
  have E3 := Lib.hid e3
  have E4 := Lib.hid e4
  have c1 := hc.2
  clear eh el e1 e2 e3 e4
  go_enter Try.func72, Try.ntmps72
  go_wp2_with fail
  with_reducible refine (refmul_hl a b h l _ ha hb EH.out EL.out).mono ?_
  rintro e w1 ⟨rfl, hb1⟩
  have K1 : Blk w1 w.heap.size 78 #[.int .u64 0, .int .u64 0] := (Blk.new_at rfl).next hb1
  have B1 : Below w.heap.size w w1 := Below.trans (by go_grown) (hb1.mono (by simp only [World.size_alloc]; omega))
  clear hb1
  go_wp2_with fail
  with_reducible refine (refdiv_qr 0 h c q1 r1 _ (by decide) v1 c1 hc0 E1.out E2.out).mono ?_
  rintro e w2 ⟨rfl, hb2⟩
  have K2 : Blk w2 w1.heap.size 78 #[.int .u64 h, .int .u64 l] := (Blk.new_at rfl).next hb2
  have C2 : w2.cell? ⟨w1.heap.size, 1, none⟩ = some (.int .u64 l) := K2.get 1 rfl
  have B2 : Below w.heap.size w w2 := below_next B1 (Below.trans (by go_grown) (hb2.mono (by simp only [World.size_alloc]; omega)))
  have K3 := (K1.alloc _).next hb2
  clear hb2 K2 K1
  go_wp2_with fail
  with_reducible refine (refdiv_qr r1 l c q2 r2 _ r0 v2 c1 rc E3.out E4.out).mono ?_
  rintro e w3 ⟨rfl, hb3⟩
  have B3 := below_next B2 hb3
  have K4 := K3.next hb3
  have C0 : w3.cell? ⟨w.heap.size, 0, none⟩ = some (.int .u64 0) := K4.get 0 rfl
  have C1 : w3.cell? ⟨w.heap.size, 1, none⟩ = some (.int .u64 0) := K4.get 1 rfl
  have F0 := K4.frozen 0
  have F1 := K4.frozen 1
  have L4 := K4.lt
  have D0 : (w3.setCell ⟨w.heap.size, 0, none⟩ (.int .u64 q1)).cell? ⟨w.heap.size, 0, none⟩ = some (.int .u64 q1) := (K4.put 0 _).get 0 rfl
  have D1 : ((w3.setCell ⟨w.heap.size, 0, none⟩ (.int .u64 q1)).setCell ⟨w.heap.size, 1, none⟩ (.int .u64 q2)).cell? ⟨w.heap.size, 1, none⟩ = some (.int .u64 q2) := ((K4.put 0 _).put 1 _).get 1 rfl
  have D2 : ((w3.setCell ⟨w.heap.size, 0, none⟩ (.int .u64 q1)).setCell ⟨w.heap.size, 1, none⟩ (.int .u64 q2)).cell? ⟨w.heap.size, 0, none⟩ = some (.int .u64 q1) := ((K4.put 0 _).put 1 _).get 0 rfl
  clear hb3 C2 B2 B1 K3 K4
  go_wp2_with fail
  (try simp only [Exit.inBlock, Exit.then])
  refine bodyPost_ret (by simp [results, Try.results72, go_sem, D0, D1]; try rfl) rfl ?_
  exact ⟨rfl, by go_grown⟩

theorem stopW_wv {h l : Int} (h0 : 0 ≤ h) (hl : Word l) : stopW h l = stopN (wv h l) := by
  obtain ⟨l0, l1⟩ := hl
  unfold stopW stopN wv; split <;> split <;> first | rfl | omega
theorem refstop_val (h l s : Int) (w : World) (h0 : 0 ≤ h) (hl : Word l) (es : stopN (wv h l) = s) : Calls Try.prog 51 #[.agg #[.int .u64 h, .int .u64 l]] w fun e w' => e = .returned (.int .u64 s) ∧ Below w.heap.size w w' := by
  rw [← es, ← stopW_wv h0 hl]; exact refstop_any h l w

theorem refdown_any (a b c : Int) (w : World) (ha : Word a) (hb : Word b) (hc : Word c) :
    Calls Try.prog 57 #[.int .u64 a, .int .u64 b, .int .u64 c] w fun e w' => e = .returned (.tuple #[.int .u64 (downN a b c), .int .i64 (errN c)]) ∧ Below w.heap.size w w' := by
  by_cases h0 : c = 0
  · subst h0
    have H : Hid (downN a b 0 = 0 ∧ errN 0 = 2) := by unfold Hid downN errN; simp
    rw [H.out.1, H.out.2]
    go_enter Try.func57, Try.ntmps57
    go_wp2_with fail
    go_ret2
    exact ⟨rfl, by go_grown⟩
  · have hc0 : 0 < c := by have := hc.1; omega
    have v1 := (prod_words ha hb).1
    have v2 := (prod_words ha hb).2.1
    have v3 := (prod_words ha hb).2.2.1
    obtain ⟨h, eh⟩ : ∃ h, a * b / 18446744073709551616 = h := ⟨_, rfl⟩
    obtain ⟨l, el⟩ : ∃ h, a * b % 18446744073709551616 = h := ⟨_, rfl⟩
    rw [eh, el] at v3
    rw [eh] at v1
    rw [el] at v2
    obtain ⟨q1, e1⟩ : ∃ q, DivQ 0 h c = q := ⟨_, rfl⟩
    obtain ⟨r1, e2⟩ : ∃ q, DivR 0 h c = q := ⟨_, rfl⟩
    obtain ⟨q2, e3⟩ : ∃ q, DivQ r1 l c = q := ⟨_, rfl⟩
    obtain ⟨r2, e4⟩ : ∃ q, DivR r1 l c = q := ⟨_, rfl⟩
    have LQ := long_quot v1 v2 hc0 e1 e2 e3 e4
    obtain ⟨s, es⟩ : ∃ s, stopN (wv q1 q2) = s := ⟨_, rfl⟩
    have H : Hid (downN a b c = s ∧ errN c = 0) := by
      unfold Hid downN errN
      rw [if_neg h0, if_neg h0, ← v3, ← LQ.1]; exact ⟨es, rfl⟩
    rw [H.out.1, H.out.2]
    have Q := fun w => refquot_any a b c h l q1 r1 q2 r2 w ha hb hc hc0 eh el e1 e2 e3 e4
    have Q := Lib.hid Q
    have g1 := LQ.2.2.2.2.1
    have g2 := LQ.2.2.2.2.2.1
    have g1n := g1.1
    have ES := Lib.hid es
    have hz : (c == 0) = false := beq_eq_false_iff_ne.2 h0
    clear eh el e1 e2 e3 e4 LQ es h0 H v3
    go_enter Try.func57, Try.ntmps57
    go_wp2_with fail
    with_reducible refine (Q.out _).mono ?_
    rintro e w1 ⟨rfl, hb1⟩
    go_wp2_with fail
    with_reducible refine (refstop_val q1 q2 s _ g1n g2 ES.out).mono ?_
    rintro e w2 ⟨rfl, hb2⟩
    have B2 : Below w.heap.size w w2 := below_next hb1 (Below.trans (by go_grown) (hb2.mono (by simp only [World.size_alloc]; omega)))
    clear hb2 hb1
    go_wp2_with fail
    go_ret2
    exact ⟨rfl, B2⟩

theorem refplus_hl (h1 l1 h2 l2 h l e : Int) (w : World) (a1 : Word h1) (a2 : Word l1) (a3 : Word h2) (a4 : Word l2) (eh : plusH h1 l1 h2 l2 = h) (el : plusL h1 l1 h2 l2 = l) (ee : plusE h1 l1 h2 l2 = e) :
    Calls Try.prog 70 #[.agg #[.int .u64 h1, .int .u64 l1], .agg #[.int .u64 h2, .int .u64 l2]] w fun e' w' => e' = .returned (.tuple #[.agg #[.int .u64 h, .int .u64 l], .int .i64 e]) ∧ Below w.heap.size w w' := by
  rw [← eh, ← el, ← ee]; exact refplus_any h1 l1 h2 l2 w a1 a2 a3 a4

end Go.Proofs.Ytjbajongjdbplaa
