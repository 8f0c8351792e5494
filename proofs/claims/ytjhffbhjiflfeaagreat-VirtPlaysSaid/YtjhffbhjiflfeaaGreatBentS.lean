/-
  A start more of a run of a bent curve: what the program does.
-/
import Derived.Test.YtjhffbhjiflfeaaGreatBentA
namespace Go.Proofs.YtjhffbhjiflfeaaGreat
set_option linter.unusedVariables false
set_option linter.unusedSimpArgs false
open Go.RowKit Go.Shelf

theorem bstart_nil (X Y : Int) (w : World) : Calls Tryz.prog 113 #[.pointer none, .int .u64 X, .int .u64 Y] w fun e w' => e = .returned (.tuple #[]) ∧ w = w' := by
  go_enter Tryz.func113, Tryz.ntmps113
  go_wp2_with fail
  refine bodyPost_ret (results_none rfl _ _ _) rfl ?_
  exact ⟨rfl, rfl⟩
theorem bstart_zero (q : Nat) (F L R n x f r X Y : Int) (w : World) (h : IsBent w q F L R n x f r) (hb : ¬ R < F) : Calls Tryz.prog 113 #[.pointer (some ⟨q, 0, none⟩), .int .u64 X, .int .u64 Y] w fun e w' => e = .returned (.tuple #[]) ∧ Below w.heap.size w w' := by
  have BE := Lib.hid (fun w => bent_val F L R false w (decide_eq_false hb))
  have c0 : World.cell? w ⟨q, 0, none⟩ = some (.int .u64 F) := Blk.get h 0 rfl
  have c1 : World.cell? w ⟨q, 1, none⟩ = some (.int .u64 L) := Blk.get h 1 rfl
  have c2 : World.cell? w ⟨q, 2, none⟩ = some (.int .u64 R) := Blk.get h 2 rfl
  clear h hb
  go_enter Tryz.func113, Tryz.ntmps113
  go_wp2_with fail
  with_reducible refine (BE.out _).mono ?_
  rintro e w1 ⟨rfl, hb1⟩
  have B1 : Below w.heap.size w w1 := by first | with_reducible exact hb1 | exact Below.trans (by go_grown) (hb1.mono (by simp only [World.size_alloc]; omega))
  clear hb1
  go_wp2_with fail
  refine bodyPost_ret (results_none rfl _ _ _) rfl ?_
  exact ⟨rfl, B1⟩

theorem heights_index0 (p q : Value) (w : World) : (Instr.index 172 (.agg #[p, q]) (.int .i64 0)).run Tryz.prog w = .ok p w := by kernel_rfl
theorem heights_index1 (p q : Value) (w : World) : (Instr.index 172 (.agg #[p, q]) (.int .i64 1)).run Tryz.prog w = .ok q w := by kernel_rfl

set_option maxRecDepth 100000 in
set_option maxHeartbeats 4000000 in
theorem bstart_made (q : Nat) (F L R n x f r X Y : Int) (w : World) (h : IsBent w q F L R n x f r) (hm : Made F L R n x f r) (hn1 : n ≤ 1000000) (wX : Word X) (wY : Word Y) :
    Calls Tryz.prog 113 #[.pointer (some ⟨q, 0, none⟩), .int .u64 X, .int .u64 Y] w fun e w' =>
      e = .returned (.tuple #[]) ∧ IsBent w' q F L R (n + 1) (nextX x X) (nextH F 0 n x f X Y) (nextH R ((F - R) * L) n x r X Y) ∧ Fr (fun k => k = q) w w' := by
  have J0 := heights_index0
  have J1 := heights_index1
  have hmf : ∀ (fn : Fn) (first cap : Array Value) (w : World), (Instr.makeFunc fn first cap).run Tryz.prog w = .ok (.func fn first cap) w := fun _ _ _ _ => rfl
  have n0 := hm.n0
  have x0 := hm.x0
  have x1 := hm.x1
  have wF : Word F := ⟨hm.may.f0, by have := hm.may.f1; omega⟩
  have wR : Word R := ⟨hm.may.r0, by have := hm.may.r1; omega⟩
  have wL : Word L := ⟨hm.may.l0, by have := hm.may.l1; omega⟩
  have wf : Word f := ⟨hm.f0, by have := hm.f1; omega⟩
  have wr' : Word r := ⟨hm.r0, by have := hm.r1; omega⟩
  have hO : 0 ≤ (F - R) * L := Int.mul_nonneg (by have := hm.bent; omega) hm.may.l0
  have BE := Lib.hid (fun w => bent_val F L R true w (decide_eq_true hm.bent))
  have eb : burstN F L R = stopN ((F - R) * L) := by unfold burstN; rw [if_pos hm.bent]
  have BU := Lib.hid (fun w => burst_val F L R (stopN ((F - R) * L)) true w wF wL wR (decide_eq_true hm.bent) eb)
  have cY := cap_bounds wY.1
  have gX := nextX_ge x X
  have gX1 := nextX_le (X := X) x1
  have o0 := stop_nonneg hO
  have o1 := stop_le ((F - R) * L)
  have e2 : stopN (capN Y + stopN ((F - R) * L)) = stopN (capN Y + (F - R) * L) := stop_add2 cY.1 hO
  have PL : Hid (∀ w, Calls Tryz.prog 118 #[.int .u64 (capN Y), .int .u64 (stopN ((F - R) * L))] w fun e w' => e = .returned (.int .u64 (stopN (capN Y + (F - R) * L))) ∧ w = w') := fun w => (plus_any (capN Y) (stopN ((F - R) * L)) w ⟨by omega, by omega⟩ ⟨o0, by omega⟩).mono (by rintro e w' ⟨rfl, rfl⟩; rw [e2]; exact ⟨rfl, rfl⟩)
  have y1a := stop_nonneg (show 0 ≤ capN Y + (F - R) * L by omega)
  have y1b := stop_le (capN Y + (F - R) * L)
  have z0 : nextH F 0 n x f X Y = if 0 < n ∧ stopN (f + stopN (F * (nextX x X - x))) < capN Y then stopN (f + stopN (F * (nextX x X - x))) else capN Y := by
    unfold nextH; rw [Int.add_zero, stop_small cY.2]
  have z1 : nextH R ((F - R) * L) n x r X Y = if 0 < n ∧ stopN (r + stopN (R * (nextX x X - x))) < stopN (capN Y + (F - R) * L) then stopN (r + stopN (R * (nextX x X - x))) else stopN (capN Y + (F - R) * L) := rfl
  obtain ⟨a, ea⟩ : ∃ a, stopN (f + stopN (F * (nextX x X - x))) = a := ⟨_, rfl⟩
  obtain ⟨b, eb⟩ : ∃ a, stopN (r + stopN (R * (nextX x X - x))) = a := ⟨_, rfl⟩
  have H1 := Lib.hid (fun w => has_val F f (nextX x X - x) a w wF wf ⟨by omega, by omega⟩ ea)
  have H2 := Lib.hid (fun w => has_val R r (nextX x X - x) b w wR wr' ⟨by omega, by omega⟩ eb)
  rw [ea] at z0
  rw [eb] at z1
  obtain ⟨v0, ev0⟩ : ∃ a, nextH F 0 n x f X Y = a := ⟨_, rfl⟩
  obtain ⟨v1, ev1⟩ : ∃ a, nextH R ((F - R) * L) n x r X Y = a := ⟨_, rfl⟩
  rw [ev0] at z0 ⊢
  rw [ev1] at z1 ⊢
  obtain ⟨o, eo⟩ : ∃ a, stopN ((F - R) * L) = a := ⟨_, rfl⟩
  rw [eo] at BU PL
  obtain ⟨k, ek⟩ : ∃ a, stopN (capN Y + (F - R) * L) = a := ⟨_, rfl⟩
  rw [ek] at PL z1 y1a y1b
  have eX : max (min X 9223372036854775808) x = nextX x X := rfl
  have eY : min Y 4611686018427387904 = capN Y := rfl
  obtain ⟨y, ey⟩ : ∃ a, capN Y = a := ⟨_, rfl⟩
  obtain ⟨x', ex'⟩ : ∃ a, nextX x X = a := ⟨_, rfl⟩
  rw [ex'] at H1 H2 gX gX1 eX ⊢
  rw [ey] at PL z0 cY eY
  have HD : Hid ((0 < n ∧ a < y ∧ v0 = a) ∨ (0 < n ∧ y ≤ a ∧ v0 = y) ∨ (n ≤ 0 ∧ v0 = y)) := by
    unfold Hid
    by_cases c : 0 < n ∧ a < y
    · rw [if_pos c] at z0; exact .inl ⟨c.1, c.2, z0⟩
    · rw [if_neg c] at z0
      by_cases d : 0 < n
      · exact .inr (.inl ⟨d, by omega, z0⟩)
      · exact .inr (.inr ⟨by omega, z0⟩)
  have HE : Hid ((0 < n ∧ b < k ∧ v1 = b) ∨ (0 < n ∧ k ≤ b ∧ v1 = k) ∨ (n ≤ 0 ∧ v1 = k)) := by
    unfold Hid
    by_cases c : 0 < n ∧ b < k
    · rw [if_pos c] at z1; exact .inl ⟨c.1, c.2, z1⟩
    · rw [if_neg c] at z1
      by_cases d : 0 < n
      · exact .inr (.inl ⟨d, by omega, z1⟩)
      · exact .inr (.inr ⟨by omega, z1⟩)
  have HQ : Hid (Blk w q 120 #[.int .u64 F, .int .u64 L, .int .u64 R, .int .i64 n, .int .u64 x, .int .u64 F, .int .u64 f, .int .u64 R, .int .u64 r]) := h
  have hw : IntKind.u64.wrap (x' - x) = x' - x := by rw [IntKind.wrap_u64]; omega
  have hq : Hid (q < w.heap.size) := Blk.lt h
  clear h hm wF wR wL wf wr' hO o0 o1 e2 ea eb eo ek ey ex' z0 z1 ev0 ev1 wX wY
  go_enter Tryz.func113, Tryz.ntmps113
  have Qb : Blk w (q) 120 #[.int .u64 F, .int .u64 L, .int .u64 R, .int .i64 n, .int .u64 x, .int .u64 F, .int .u64 f, .int .u64 R, .int .u64 r] := HQ.out
  have Qc0 : World.cell? w ⟨q, 0, none⟩ = some (.int .u64 F) := Qb.get 0 rfl
  have Qf0 := Blk.frozen Qb 0
  have Qc1 : World.cell? w ⟨q, 1, none⟩ = some (.int .u64 L) := Qb.get 1 rfl
  have Qf1 := Blk.frozen Qb 1
  have Qc2 : World.cell? w ⟨q, 2, none⟩ = some (.int .u64 R) := Qb.get 2 rfl
  have Qf2 := Blk.frozen Qb 2
  have Qc3 : World.cell? w ⟨q, 3, none⟩ = some (.int .i64 n) := Qb.get 3 rfl
  have Qf3 := Blk.frozen Qb 3
  have Qc4 : World.cell? w ⟨q, 4, none⟩ = some (.int .u64 x) := Qb.get 4 rfl
  have Qf4 := Blk.frozen Qb 4
  have Qc5 : World.cell? w ⟨q, 5, none⟩ = some (.int .u64 F) := Qb.get 5 rfl
  have Qf5 := Blk.frozen Qb 5
  have Qc6 : World.cell? w ⟨q, 6, none⟩ = some (.int .u64 f) := Qb.get 6 rfl
  have Qf6 := Blk.frozen Qb 6
  have Qc7 : World.cell? w ⟨q, 7, none⟩ = some (.int .u64 R) := Qb.get 7 rfl
  have Qf7 := Blk.frozen Qb 7
  have Qc8 : World.cell? w ⟨q, 8, none⟩ = some (.int .u64 r) := Qb.get 8 rfl
  have Qf8 := Blk.frozen Qb 8
  have Qn := Blk.lt Qb
  go_wp2_with fail
  with_reducible refine (BE.out _).mono ?_
  rintro e w1 ⟨rfl, hb1⟩
  have Qm : Blk w1 (q) 120 #[.int .u64 F, .int .u64 L, .int .u64 R, .int .i64 n, .int .u64 x, .int .u64 F, .int .u64 f, .int .u64 R, .int .u64 r] := Blk.next (by repeat (first | (with_reducible exact Qb) | (refine Blk.new_at ?_; simp only [World.size_alloc]; done) | (with_reducible refine Blk.alloc ?_ _) | (with_reducible refine Blk.drewN ?_ _))) hb1
  clear Qn Qb Qc0 Qf0 Qc1 Qf1 Qc2 Qf2 Qc3 Qf3 Qc4 Qf4 Qc5 Qf5 Qc6 Qf6 Qc7 Qf7 Qc8 Qf8
  have Qb := Qm
  clear Qm
  have Qc0 : World.cell? w1 ⟨q, 0, none⟩ = some (.int .u64 F) := Qb.get 0 rfl
  have Qf0 := Blk.frozen Qb 0
  have Qc1 : World.cell? w1 ⟨q, 1, none⟩ = some (.int .u64 L) := Qb.get 1 rfl
  have Qf1 := Blk.frozen Qb 1
  have Qc2 : World.cell? w1 ⟨q, 2, none⟩ = some (.int .u64 R) := Qb.get 2 rfl
  have Qf2 := Blk.frozen Qb 2
  have Qc3 : World.cell? w1 ⟨q, 3, none⟩ = some (.int .i64 n) := Qb.get 3 rfl
  have Qf3 := Blk.frozen Qb 3
  have Qc4 : World.cell? w1 ⟨q, 4, none⟩ = some (.int .u64 x) := Qb.get 4 rfl
  have Qf4 := Blk.frozen Qb 4
  have Qc5 : World.cell? w1 ⟨q, 5, none⟩ = some (.int .u64 F) := Qb.get 5 rfl
  have Qf5 := Blk.frozen Qb 5
  have Qc6 : World.cell? w1 ⟨q, 6, none⟩ = some (.int .u64 f) := Qb.get 6 rfl
  have Qf6 := Blk.frozen Qb 6
  have Qc7 : World.cell? w1 ⟨q, 7, none⟩ = some (.int .u64 R) := Qb.get 7 rfl
  have Qf7 := Blk.frozen Qb 7
  have Qc8 : World.cell? w1 ⟨q, 8, none⟩ = some (.int .u64 r) := Qb.get 8 rfl
  have Qf8 := Blk.frozen Qb 8
  have Qn := Blk.lt Qb
  have B1 : Below w.heap.size w w1 := by first | with_reducible exact hb1 | exact Below.trans (by go_grown) (hb1.mono (by simp only [World.size_alloc]; omega))
  clear hb1
  go_wp2_with fail
  with_reducible refine (BU.out _).mono ?_
  rintro e w2 ⟨rfl, hb2⟩
  have Qm : Blk w2 (q) 120 #[.int .u64 F, .int .u64 L, .int .u64 R, .int .i64 n, .int .u64 x, .int .u64 F, .int .u64 f, .int .u64 R, .int .u64 r] := Blk.next (by repeat (first | (with_reducible exact Qb) | (refine Blk.new_at ?_; simp only [World.size_alloc]; done) | (with_reducible refine Blk.alloc ?_ _) | (with_reducible refine Blk.drewN ?_ _))) hb2
  clear Qn Qb Qc0 Qf0 Qc1 Qf1 Qc2 Qf2 Qc3 Qf3 Qc4 Qf4 Qc5 Qf5 Qc6 Qf6 Qc7 Qf7 Qc8 Qf8
  have Qb := Qm
  clear Qm
  have Qc0 : World.cell? w2 ⟨q, 0, none⟩ = some (.int .u64 F) := Qb.get 0 rfl
  have Qf0 := Blk.frozen Qb 0
  have Qc1 : World.cell? w2 ⟨q, 1, none⟩ = some (.int .u64 L) := Qb.get 1 rfl
  have Qf1 := Blk.frozen Qb 1
  have Qc2 : World.cell? w2 ⟨q, 2, none⟩ = some (.int .u64 R) := Qb.get 2 rfl
  have Qf2 := Blk.frozen Qb 2
  have Qc3 : World.cell? w2 ⟨q, 3, none⟩ = some (.int .i64 n) := Qb.get 3 rfl
  have Qf3 := Blk.frozen Qb 3
  have Qc4 : World.cell? w2 ⟨q, 4, none⟩ = some (.int .u64 x) := Qb.get 4 rfl
  have Qf4 := Blk.frozen Qb 4
  have Qc5 : World.cell? w2 ⟨q, 5, none⟩ = some (.int .u64 F) := Qb.get 5 rfl
  have Qf5 := Blk.frozen Qb 5
  have Qc6 : World.cell? w2 ⟨q, 6, none⟩ = some (.int .u64 f) := Qb.get 6 rfl
  have Qf6 := Blk.frozen Qb 6
  have Qc7 : World.cell? w2 ⟨q, 7, none⟩ = some (.int .u64 R) := Qb.get 7 rfl
  have Qf7 := Blk.frozen Qb 7
  have Qc8 : World.cell? w2 ⟨q, 8, none⟩ = some (.int .u64 r) := Qb.get 8 rfl
  have Qf8 := Blk.frozen Qb 8
  have Qn := Blk.lt Qb
  have B2 : Below w.heap.size w w2 := by first | with_reducible exact below_next B1 hb2 | exact below_step B1 (by go_grown) hb2
  clear hb2 B1
  go_wp2_with fail
  with_reducible refine (PL.out _).mono ?_
  rintro e wx ⟨rfl, rfl⟩
  have HQ2 := Lib.hid Qb
  have HF := Lib.hid (Fr.of_belowAll (S := fun j => j = q) B2)
  have hs1 := Lib.hid Qn
  have hs2 := Lib.hid B2.size
  go_wp2_with fail
  go_region
  go_wp2_with fail
  clear Qb Qc0 Qc1 Qc2 Qc3 Qc4 Qc5 Qc6 Qc7 Qc8 Qf0 Qf1 Qf2 Qf3 Qf4 Qf5 Qf6 Qf7 Qf8 Qn B2 BE BU PL HQ
  go_loopg [52] 2 (fun gk ix wr => ((ix = .int .i64 0 ∧ gk = 2 ∧ Blk wr q 120 #[.int .u64 F, .int .u64 L, .int .u64 R, .int .i64 n, .int .u64 x, .int .u64 F, .int .u64 f, .int .u64 R, .int .u64 r] ∧ Blk wr w2.heap.size 170 #[.int .u64 y, .int .u64 k]) ∨ (ix = .int .i64 1 ∧ gk = 1 ∧ Blk wr q 120 #[.int .u64 F, .int .u64 L, .int .u64 R, .int .i64 n, .int .u64 x, .int .u64 F, .int .u64 v0, .int .u64 R, .int .u64 r] ∧ Blk wr w2.heap.size 170 #[.int .u64 v0, .int .u64 k]) ∨ (ix = .int .i64 2 ∧ gk = 0 ∧ Blk wr q 120 #[.int .u64 F, .int .u64 L, .int .u64 R, .int .i64 n, .int .u64 x, .int .u64 F, .int .u64 v0, .int .u64 R, .int .u64 v1] ∧ Blk wr w2.heap.size 170 #[.int .u64 v0, .int .u64 v1])) ∧ Fr (fun j => j = q) w wr)
  case atStart => exact ⟨.inl ⟨rfl, rfl, HQ2.out.alloc _, Blk.new w2 _ _⟩, (HF.out.alloc _).drew⟩
  case round =>
    obtain ⟨hcase, F0⟩ := hrel
    clear HF HQ2
    have HF := Lib.hid F0
    clear F0
    rcases hcase with ⟨rfl, rfl, Qb, Hb⟩ | ⟨rfl, rfl, Qb, Hb⟩ | ⟨rfl, rfl, Qb, Hb⟩
    · have Pc3 : World.cell? wr ⟨q, 3, none⟩ = some (.int .i64 n) := Blk.get Qb 3 rfl
      have Pc4 : World.cell? wr ⟨q, 4, none⟩ = some (.int .u64 x) := Blk.get Qb 4 rfl
      have Pc5 : World.cell? wr ⟨q, 5, none⟩ = some (.int .u64 F) := Blk.get Qb 5 rfl
      have Pc6 : World.cell? wr ⟨q, 6, none⟩ = some (.int .u64 f) := Blk.get Qb 6 rfl
      have Pc7 : World.cell? wr ⟨q, 7, none⟩ = some (.int .u64 R) := Blk.get Qb 7 rfl
      have Pc8 : World.cell? wr ⟨q, 8, none⟩ = some (.int .u64 r) := Blk.get Qb 8 rfl
      have Pf6 := Blk.frozen Qb 6
      have Pf8 := Blk.frozen Qb 8
      have Ph0 : World.cell? wr ⟨w2.heap.size, 0, none⟩ = some (.int .u64 y) := Blk.get Hb 0 rfl
      have Pg0 := Blk.frozen Hb 0
      have Ph1 : World.cell? wr ⟨w2.heap.size, 1, none⟩ = some (.int .u64 k) := Blk.get Hb 1 rfl
      have Pg1 := Blk.frozen Hb 1
      have hne : q ≠ w2.heap.size := by have := hs1.out; omega
      have HQ := Lib.hid Qb
      have HH := Lib.hid Hb
      clear Qb Hb
      go_wp2_with fail
      with_reducible refine (H1.out _).mono ?_
      rintro e w4 ⟨rfl, hb4⟩
      have Q4 := HQ.out.next hb4
      have Hb4 := HH.out.next hb4
      have HF4 := Lib.hid (HF.out.next hb4)
      clear Pc3 Pc4 Pc5 Pc6 Pc7 Pc8 Pf6 Pf8 Ph0 Ph1 Pg0 Pg1 HQ HH HF hb4
      have Rc3 : World.cell? w4 ⟨q, 3, none⟩ = some (.int .i64 n) := Blk.get Q4 3 rfl
      have Rc4 : World.cell? w4 ⟨q, 4, none⟩ = some (.int .u64 x) := Blk.get Q4 4 rfl
      have Rc5 : World.cell? w4 ⟨q, 5, none⟩ = some (.int .u64 F) := Blk.get Q4 5 rfl
      have Rc6 : World.cell? w4 ⟨q, 6, none⟩ = some (.int .u64 f) := Blk.get Q4 6 rfl
      have Rc7 : World.cell? w4 ⟨q, 7, none⟩ = some (.int .u64 R) := Blk.get Q4 7 rfl
      have Rc8 : World.cell? w4 ⟨q, 8, none⟩ = some (.int .u64 r) := Blk.get Q4 8 rfl
      have Rf6 := Blk.frozen Q4 6
      have Rf8 := Blk.frozen Q4 8
      have Rh0 : World.cell? w4 ⟨w2.heap.size, 0, none⟩ = some (.int .u64 y) := Blk.get Hb4 0 rfl
      have Rg0 := Blk.frozen Hb4 0
      have Rh1 : World.cell? w4 ⟨w2.heap.size, 1, none⟩ = some (.int .u64 k) := Blk.get Hb4 1 rfl
      have Rg1 := Blk.frozen Hb4 1
      have HQ4 := Lib.hid Q4
      have HH4 := Lib.hid Hb4
      clear Q4 Hb4
      rcases HD.out with ⟨d1, d2, d3⟩ | ⟨d1, d2, d3⟩ | ⟨d1, d3⟩
      · have HV := Lib.hid d3
        clear d3
        go_wp2_with fail
        go_roundg 1
        case rel => exact ⟨.inr (.inl ⟨rfl, rfl, by rw [HV.out]; exact (HQ4.out.far (p := ⟨w2.heap.size, 0, none⟩) hne _).put 6 _, by rw [HV.out]; exact (HH4.out.put 0 _).far (p := ⟨q, 6, none⟩) hne.symm _⟩), (HF4.out.setCell (p := ⟨w2.heap.size, 0, none⟩) (fun hk => absurd hk (by have := hs2.out; simp only; omega)) _).setCell (p := ⟨q, 6, none⟩) (fun _ => rfl) _⟩
        case measure => omega
      · have HV := Lib.hid d3
        clear d3
        go_wp2_with fail
        go_roundg 1
        case rel => exact ⟨.inr (.inl ⟨rfl, rfl, by rw [HV.out]; exact HQ4.out.put 6 _, by rw [HV.out]; exact HH4.out.far (p := ⟨q, 6, none⟩) hne.symm _⟩), HF4.out.setCell (p := ⟨q, 6, none⟩) (fun _ => rfl) _⟩
        case measure => omega
      · have HV := Lib.hid d3
        clear d3
        go_wp2_with fail
        go_roundg 1
        case rel => exact ⟨.inr (.inl ⟨rfl, rfl, by rw [HV.out]; exact HQ4.out.put 6 _, by rw [HV.out]; exact HH4.out.far (p := ⟨q, 6, none⟩) hne.symm _⟩), HF4.out.setCell (p := ⟨q, 6, none⟩) (fun _ => rfl) _⟩
        case measure => omega
    · have Pc3 : World.cell? wr ⟨q, 3, none⟩ = some (.int .i64 n) := Blk.get Qb 3 rfl
      have Pc4 : World.cell? wr ⟨q, 4, none⟩ = some (.int .u64 x) := Blk.get Qb 4 rfl
      have Pc5 : World.cell? wr ⟨q, 5, none⟩ = some (.int .u64 F) := Blk.get Qb 5 rfl
      have Pc6 : World.cell? wr ⟨q, 6, none⟩ = some (.int .u64 v0) := Blk.get Qb 6 rfl
      have Pc7 : World.cell? wr ⟨q, 7, none⟩ = some (.int .u64 R) := Blk.get Qb 7 rfl
      have Pc8 : World.cell? wr ⟨q, 8, none⟩ = some (.int .u64 r) := Blk.get Qb 8 rfl
      have Pf6 := Blk.frozen Qb 6
      have Pf8 := Blk.frozen Qb 8
      have Ph0 : World.cell? wr ⟨w2.heap.size, 0, none⟩ = some (.int .u64 v0) := Blk.get Hb 0 rfl
      have Pg0 := Blk.frozen Hb 0
      have Ph1 : World.cell? wr ⟨w2.heap.size, 1, none⟩ = some (.int .u64 k) := Blk.get Hb 1 rfl
      have Pg1 := Blk.frozen Hb 1
      have hne : q ≠ w2.heap.size := by have := hs1.out; omega
      have HQ := Lib.hid Qb
      have HH := Lib.hid Hb
      clear Qb Hb
      go_wp2_with fail
      with_reducible refine (H2.out _).mono ?_
      rintro e w4 ⟨rfl, hb4⟩
      have Q4 := HQ.out.next hb4
      have Hb4 := HH.out.next hb4
      have HF4 := Lib.hid (HF.out.next hb4)
      clear Pc3 Pc4 Pc5 Pc6 Pc7 Pc8 Pf6 Pf8 Ph0 Ph1 Pg0 Pg1 HQ HH HF hb4
      have Rc3 : World.cell? w4 ⟨q, 3, none⟩ = some (.int .i64 n) := Blk.get Q4 3 rfl
      have Rc4 : World.cell? w4 ⟨q, 4, none⟩ = some (.int .u64 x) := Blk.get Q4 4 rfl
      have Rc5 : World.cell? w4 ⟨q, 5, none⟩ = some (.int .u64 F) := Blk.get Q4 5 rfl
      have Rc6 : World.cell? w4 ⟨q, 6, none⟩ = some (.int .u64 v0) := Blk.get Q4 6 rfl
      have Rc7 : World.cell? w4 ⟨q, 7, none⟩ = some (.int .u64 R) := Blk.get Q4 7 rfl
      have Rc8 : World.cell? w4 ⟨q, 8, none⟩ = some (.int .u64 r) := Blk.get Q4 8 rfl
      have Rf6 := Blk.frozen Q4 6
      have Rf8 := Blk.frozen Q4 8
      have Rh0 : World.cell? w4 ⟨w2.heap.size, 0, none⟩ = some (.int .u64 v0) := Blk.get Hb4 0 rfl
      have Rg0 := Blk.frozen Hb4 0
      have Rh1 : World.cell? w4 ⟨w2.heap.size, 1, none⟩ = some (.int .u64 k) := Blk.get Hb4 1 rfl
      have Rg1 := Blk.frozen Hb4 1
      have HQ4 := Lib.hid Q4
      have HH4 := Lib.hid Hb4
      clear Q4 Hb4
      rcases HE.out with ⟨d1, d2, d3⟩ | ⟨d1, d2, d3⟩ | ⟨d1, d3⟩
      · have HV := Lib.hid d3
        clear d3
        go_wp2_with fail
        go_roundg 0
        case rel => exact ⟨.inr (.inr ⟨rfl, rfl, by rw [HV.out]; exact (HQ4.out.far (p := ⟨w2.heap.size, 1, none⟩) hne _).put 8 _, by rw [HV.out]; exact (HH4.out.put 1 _).far (p := ⟨q, 8, none⟩) hne.symm _⟩), (HF4.out.setCell (p := ⟨w2.heap.size, 1, none⟩) (fun hk => absurd hk (by have := hs2.out; simp only; omega)) _).setCell (p := ⟨q, 8, none⟩) (fun _ => rfl) _⟩
        case measure => omega
      · have HV := Lib.hid d3
        clear d3
        go_wp2_with fail
        go_roundg 0
        case rel => exact ⟨.inr (.inr ⟨rfl, rfl, by rw [HV.out]; exact HQ4.out.put 8 _, by rw [HV.out]; exact HH4.out.far (p := ⟨q, 8, none⟩) hne.symm _⟩), HF4.out.setCell (p := ⟨q, 8, none⟩) (fun _ => rfl) _⟩
        case measure => omega
      · have HV := Lib.hid d3
        clear d3
        go_wp2_with fail
        go_roundg 0
        case rel => exact ⟨.inr (.inr ⟨rfl, rfl, by rw [HV.out]; exact HQ4.out.put 8 _, by rw [HV.out]; exact HH4.out.far (p := ⟨q, 8, none⟩) hne.symm _⟩), HF4.out.setCell (p := ⟨q, 8, none⟩) (fun _ => rfl) _⟩
        case measure => omega
    · have Pc3 : World.cell? wr ⟨q, 3, none⟩ = some (.int .i64 n) := Blk.get Qb 3 rfl
      have Pc4 : World.cell? wr ⟨q, 4, none⟩ = some (.int .u64 x) := Blk.get Qb 4 rfl
      have Pc5 : World.cell? wr ⟨q, 5, none⟩ = some (.int .u64 F) := Blk.get Qb 5 rfl
      have Pc6 : World.cell? wr ⟨q, 6, none⟩ = some (.int .u64 v0) := Blk.get Qb 6 rfl
      have Pc7 : World.cell? wr ⟨q, 7, none⟩ = some (.int .u64 R) := Blk.get Qb 7 rfl
      have Pc8 : World.cell? wr ⟨q, 8, none⟩ = some (.int .u64 v1) := Blk.get Qb 8 rfl
      have Pf6 := Blk.frozen Qb 6
      have Pf8 := Blk.frozen Qb 8
      have Ph0 : World.cell? wr ⟨w2.heap.size, 0, none⟩ = some (.int .u64 v0) := Blk.get Hb 0 rfl
      have Pg0 := Blk.frozen Hb 0
      have Ph1 : World.cell? wr ⟨w2.heap.size, 1, none⟩ = some (.int .u64 v1) := Blk.get Hb 1 rfl
      have Pg1 := Blk.frozen Hb 1
      have Pf3 := Blk.frozen Qb 3
      have Pf4 := Blk.frozen Qb 4
      have HQ := Lib.hid Qb
      clear Qb Hb
      go_wp2_with fail
      go_end0
      exact ⟨rfl, (HQ.out.put 4 _).put 3 _, (HF.out.setCell (p := ⟨q, 4, none⟩) (fun _ => rfl) _).setCell (p := ⟨q, 3, none⟩) (fun _ => rfl) _⟩

end Go.Proofs.YtjhffbhjiflfeaaGreat
