/-
  The walk of the law BentNone: a run that nobody made has no copies, and none start.
-/
import Derived.Test.YtdkeoanlcninkaaProg
import Derived.Test.YtdkeoanlcninkaaBentC
namespace Go.Proofs.Ytdkeoanlcninkaa
set_option linter.unusedVariables false
set_option linter.unusedSimpArgs false
open Go.RowKit Go.Shelf

/-- A run that nobody made: nil, or all zeros. -/
def Un (w : World) (o : Option Addr) : Prop := o = none ∨ ∃ q, o = some ⟨q, 0, none⟩ ∧ IsBent w q 0 0 0 0 0 0 0
theorem Un.next {w w' : World} {o : Option Addr} (h : Un w o) (hb : Below w.heap.size w w') : Un w' o := by
  rcases h with h | ⟨q, e, h⟩
  · exact .inl h
  · exact .inr ⟨q, e, h.next hb⟩
theorem same_b {f : Nat} {args : Array Value} {w : World} {v : Value} (h : Calls Try.prog f args w fun e w' => e = .returned v ∧ w = w') : Calls Try.prog f args w fun e w' => e = .returned v ∧ Below w.heap.size w w' :=
  h.mono (by rintro e w' ⟨rfl, rfl⟩; exact ⟨rfl, Below.refl _ _⟩)
theorem un_start (o : Option Addr) (X Y : Int) (w : World) (h : Un w o) : Calls Try.prog 13 #[.pointer o, .int .u64 X, .int .u64 Y] w fun e w' => e = .returned (.tuple #[]) ∧ Below w.heap.size w w' := by
  rcases h with rfl | ⟨q, rfl, h⟩
  · exact same_b (bstart_nil X Y w)
  · exact bstart_zero q 0 0 0 0 0 0 0 X Y w h (by decide)
theorem un_last (o : Option Addr) (w : World) (h : Un w o) : Calls Try.prog 14 #[.pointer o] w fun e w' => e = .returned (.tuple #[.int .u64 0, .bool false]) ∧ Below w.heap.size w w' := by
  rcases h with rfl | ⟨q, rfl, h⟩
  · exact same_b (last_nil w)
  · exact same_b (last_zero q 0 0 0 0 0 0 w h)
theorem un_lines (o : Option Addr) (w : World) (h : Un w o) : Calls Try.prog 15 #[.pointer o] w fun e w' => e = .returned (.tuple #[.int .u64 0, .int .u64 0]) ∧ Below w.heap.size w w' := by
  rcases h with rfl | ⟨q, rfl, h⟩
  · exact lines_nil w
  · exact lines_zero q 0 0 0 0 0 0 w h
theorem un_starts (o : Option Addr) (w : World) (h : Un w o) : Calls Try.prog 18 #[.pointer o] w fun e w' => e = .returned (.int .i64 0) ∧ Below w.heap.size w w' := by
  rcases h with rfl | ⟨q, rfl, h⟩
  · exact same_b (starts_nil w)
  · exact same_b (starts_zero q 0 0 0 0 0 0 w h)
theorem un_at (o : Option Addr) (t : Int) (w : World) (h : Un w o) : Calls Try.prog 17 #[.pointer o, .int .u64 t] w fun e w' => e = .returned (.int .u64 0) ∧ Below w.heap.size w w' := by
  rcases h with rfl | ⟨q, rfl, h⟩
  · exact bat_nil t w
  · exact bat_zero q 0 0 0 0 0 0 t w h
theorem un_reach (o : Option Addr) (y v : Int) (w : World) (h : Un w o) (hv : (if y = 0 then 0 else 9223372036854775808) = v) : Calls Try.prog 16 #[.pointer o, .int .u64 y] w fun e w' => e = .returned (.int .u64 v) ∧ Below w.heap.size w w' := by
  rw [← hv]
  rcases h with rfl | ⟨q, rfl, h⟩
  · exact breach_nil y w
  · exact breach_zero q 0 0 0 0 0 0 y w h

set_option maxRecDepth 100000 in
set_option maxHeartbeats 8000000 in
theorem bentNone_walk (w : World) (X : Int) (hX : (Lit.int .u64 X).wf = true) (Y : Int) (hY : (Lit.int .u64 Y).wf = true) (T : Int) (hT : (Lit.int .u64 T).wf = true) (N : Int) (hN : (Lit.int .u64 N).wf = true) :
    Calls Try.prog 4 #[.agg #[.int .u64 X, .int .u64 Y, .int .u64 T, .int .u64 N]] w fun e w' => e = .returned (.bool true) ∧ Below w.heap.size w w' := by
  clear hX hY hT hN
  obtain ⟨v, z, ev, ez, ec⟩ : ∃ v z, (if N = 0 then (0 : Int) else 9223372036854775808) = v ∧ (N == 0) = z ∧ ((v = 0 ∧ z = true) ∨ (v = 9223372036854775808 ∧ z = false)) := by
    by_cases h : N = 0
    · exact ⟨0, true, by rw [if_pos h], by simp [h], .inl ⟨rfl, rfl⟩⟩
    · exact ⟨9223372036854775808, false, by rw [if_neg h], by simp [h], .inr ⟨rfl, rfl⟩⟩
  have US := Lib.hid (fun o w h => un_start o X Y w h)
  have UL := Lib.hid (fun o w h => un_last o w h)
  have UN := Lib.hid (fun o w h => un_lines o w h)
  have UR := Lib.hid (fun o w h => un_reach o N v w h ev)
  have UA := Lib.hid (fun o w h => un_at o T w h)
  have UC := Lib.hid (fun o w h => un_starts o w h)
  have CN := Lib.hid (fun w => same_b (bcopy_nil w))
  clear ev
  go_enter Try.func4, Try.ntmps4
  go_wp2_with fail
  go_loopg [5] 2 (fun gk ix wr => ∃ i : Nat, i + gk = 2 ∧ ix = .int .i64 i ∧ Blk wr w.heap.size 31 #[.int .u64 X, .int .u64 Y, .int .u64 T, .int .u64 N] ∧
      IsBent wr (w.heap.size + 1) 0 0 0 0 0 0 0 ∧ Blk wr (w.heap.size + 1 + 1) 32 #[.pointer none, .pointer (some ⟨w.heap.size + 1, 0, none⟩)] ∧ Below w.heap.size w wr)
  case atStart =>
    refine ⟨0, by omega, rfl, ?_, ?_, ?_, ?_⟩
    · exact ((Blk.new w _ _).alloc _).alloc _
    · exact Blk.alloc (Blk.new_at (by simp)) _
    · exact Blk.new_at (by simp)
    · go_grown
  case round =>
    obtain ⟨i, hi, rfl, Ab, Qb, Sb, B0⟩ := hrel
    by_cases hlt : i < 2
    · obtain ⟨gm, rfl⟩ : ∃ gm, gk = gm + 1 := ⟨gk - 1, by omega⟩
      obtain ⟨o, co, hU⟩ : ∃ o, wr.cell? ⟨w.heap.size + 1 + 1, i, none⟩ = some (.pointer o) ∧ Un wr o := by
        match i, hlt with
        | 0, _ => exact ⟨none, Sb.get 0 rfl, .inl rfl⟩
        | 1, _ => exact ⟨_, Sb.get 1 rfl, .inr ⟨_, rfl, Qb⟩⟩
      have HU := Lib.hid hU
      have HA := Lib.hid Ab
      have HQ := Lib.hid Qb
      have HS := Lib.hid Sb
      have HB := Lib.hid B0
      have i0 : (0 : Int) ≤ (i : Int) := by omega
      have i1 : (i : Int) < 2 := by omega
      clear hU Ab Qb Sb B0
      rcases ec with ⟨rfl, rfl⟩ | ⟨rfl, rfl⟩
      all_goals
        have Ab : Blk wr (w.heap.size) 31 #[.int .u64 X, .int .u64 Y, .int .u64 T, .int .u64 N] := HA.out
        have Ac0 : World.cell? wr ⟨w.heap.size, 0, none⟩ = some (.int .u64 X) := Ab.get 0 rfl
        have Af0 := Blk.frozen Ab 0
        have Ac1 : World.cell? wr ⟨w.heap.size, 1, none⟩ = some (.int .u64 Y) := Ab.get 1 rfl
        have Af1 := Blk.frozen Ab 1
        have Ac2 : World.cell? wr ⟨w.heap.size, 2, none⟩ = some (.int .u64 T) := Ab.get 2 rfl
        have Af2 := Blk.frozen Ab 2
        have Ac3 : World.cell? wr ⟨w.heap.size, 3, none⟩ = some (.int .u64 N) := Ab.get 3 rfl
        have Af3 := Blk.frozen Ab 3
        have An := Blk.lt Ab
        go_wp2_with fail
        with_reducible refine (US.out _ _ HU.out).mono ?_
        rintro e w1 ⟨rfl, hb1⟩
        have Am : Blk w1 (w.heap.size) 31 #[.int .u64 X, .int .u64 Y, .int .u64 T, .int .u64 N] := Blk.next (by repeat (first | (with_reducible exact Ab) | (refine Blk.new_at ?_; simp only [World.size_alloc]; done) | (with_reducible refine Blk.alloc ?_ _) | (with_reducible refine Blk.drewN ?_ _))) hb1
        clear An Ab Ac0 Af0 Ac1 Af1 Ac2 Af2 Ac3 Af3
        have Ab := Am
        clear Am
        have Ac0 : World.cell? w1 ⟨w.heap.size, 0, none⟩ = some (.int .u64 X) := Ab.get 0 rfl
        have Af0 := Blk.frozen Ab 0
        have Ac1 : World.cell? w1 ⟨w.heap.size, 1, none⟩ = some (.int .u64 Y) := Ab.get 1 rfl
        have Af1 := Blk.frozen Ab 1
        have Ac2 : World.cell? w1 ⟨w.heap.size, 2, none⟩ = some (.int .u64 T) := Ab.get 2 rfl
        have Af2 := Blk.frozen Ab 2
        have Ac3 : World.cell? w1 ⟨w.heap.size, 3, none⟩ = some (.int .u64 N) := Ab.get 3 rfl
        have Af3 := Blk.frozen Ab 3
        have An := Blk.lt Ab
        replace HU := Lib.hid (HU.out.next hb1)
        have B1 : Below wr.heap.size wr w1 := by first | with_reducible exact hb1 | exact Below.trans (by go_grown) (hb1.mono (by simp only [World.size_alloc]; omega))
        clear hb1
        go_wp2_with fail
        with_reducible refine (UL.out _ _ HU.out).mono ?_
        rintro e w2 ⟨rfl, hb2⟩
        have Am : Blk w2 (w.heap.size) 31 #[.int .u64 X, .int .u64 Y, .int .u64 T, .int .u64 N] := Blk.next (by repeat (first | (with_reducible exact Ab) | (refine Blk.new_at ?_; simp only [World.size_alloc]; done) | (with_reducible refine Blk.alloc ?_ _) | (with_reducible refine Blk.drewN ?_ _))) hb2
        clear An Ab Ac0 Af0 Ac1 Af1 Ac2 Af2 Ac3 Af3
        have Ab := Am
        clear Am
        have Ac0 : World.cell? w2 ⟨w.heap.size, 0, none⟩ = some (.int .u64 X) := Ab.get 0 rfl
        have Af0 := Blk.frozen Ab 0
        have Ac1 : World.cell? w2 ⟨w.heap.size, 1, none⟩ = some (.int .u64 Y) := Ab.get 1 rfl
        have Af1 := Blk.frozen Ab 1
        have Ac2 : World.cell? w2 ⟨w.heap.size, 2, none⟩ = some (.int .u64 T) := Ab.get 2 rfl
        have Af2 := Blk.frozen Ab 2
        have Ac3 : World.cell? w2 ⟨w.heap.size, 3, none⟩ = some (.int .u64 N) := Ab.get 3 rfl
        have Af3 := Blk.frozen Ab 3
        have An := Blk.lt Ab
        replace HU := Lib.hid (HU.out.next hb2)
        have B2 : Below wr.heap.size wr w2 := by first | with_reducible exact below_next B1 hb2 | exact below_step B1 (by go_grown) hb2
        clear hb2 B1
        go_wp2_with fail
        with_reducible refine (UN.out _ _ HU.out).mono ?_
        rintro e w3 ⟨rfl, hb3⟩
        have Am : Blk w3 (w.heap.size) 31 #[.int .u64 X, .int .u64 Y, .int .u64 T, .int .u64 N] := Blk.next (by repeat (first | (with_reducible exact Ab) | (refine Blk.new_at ?_; simp only [World.size_alloc]; done) | (with_reducible refine Blk.alloc ?_ _) | (with_reducible refine Blk.drewN ?_ _))) hb3
        clear An Ab Ac0 Af0 Ac1 Af1 Ac2 Af2 Ac3 Af3
        have Ab := Am
        clear Am
        have Ac0 : World.cell? w3 ⟨w.heap.size, 0, none⟩ = some (.int .u64 X) := Ab.get 0 rfl
        have Af0 := Blk.frozen Ab 0
        have Ac1 : World.cell? w3 ⟨w.heap.size, 1, none⟩ = some (.int .u64 Y) := Ab.get 1 rfl
        have Af1 := Blk.frozen Ab 1
        have Ac2 : World.cell? w3 ⟨w.heap.size, 2, none⟩ = some (.int .u64 T) := Ab.get 2 rfl
        have Af2 := Blk.frozen Ab 2
        have Ac3 : World.cell? w3 ⟨w.heap.size, 3, none⟩ = some (.int .u64 N) := Ab.get 3 rfl
        have Af3 := Blk.frozen Ab 3
        have An := Blk.lt Ab
        replace HU := Lib.hid (HU.out.next hb3)
        have B3 : Below wr.heap.size wr w3 := by first | with_reducible exact below_next B2 hb3 | exact below_step B2 (by go_grown) hb3
        clear hb3 B2
        go_wp2_with fail
        with_reducible refine (UR.out _ _ HU.out).mono ?_
        rintro e w4 ⟨rfl, hb4⟩
        have Am : Blk w4 (w.heap.size) 31 #[.int .u64 X, .int .u64 Y, .int .u64 T, .int .u64 N] := Blk.next (by repeat (first | (with_reducible exact Ab) | (refine Blk.new_at ?_; simp only [World.size_alloc]; done) | (with_reducible refine Blk.alloc ?_ _) | (with_reducible refine Blk.drewN ?_ _))) hb4
        clear An Ab Ac0 Af0 Ac1 Af1 Ac2 Af2 Ac3 Af3
        have Ab := Am
        clear Am
        have Ac0 : World.cell? w4 ⟨w.heap.size, 0, none⟩ = some (.int .u64 X) := Ab.get 0 rfl
        have Af0 := Blk.frozen Ab 0
        have Ac1 : World.cell? w4 ⟨w.heap.size, 1, none⟩ = some (.int .u64 Y) := Ab.get 1 rfl
        have Af1 := Blk.frozen Ab 1
        have Ac2 : World.cell? w4 ⟨w.heap.size, 2, none⟩ = some (.int .u64 T) := Ab.get 2 rfl
        have Af2 := Blk.frozen Ab 2
        have Ac3 : World.cell? w4 ⟨w.heap.size, 3, none⟩ = some (.int .u64 N) := Ab.get 3 rfl
        have Af3 := Blk.frozen Ab 3
        have An := Blk.lt Ab
        replace HU := Lib.hid (HU.out.next hb4)
        have B4 : Below wr.heap.size wr w4 := by first | with_reducible exact below_next B3 hb4 | exact below_step B3 (by go_grown) hb4
        clear hb4 B3
        go_wp2_with fail
        with_reducible refine (UA.out _ _ HU.out).mono ?_
        rintro e w5 ⟨rfl, hb5⟩
        have Am : Blk w5 (w.heap.size) 31 #[.int .u64 X, .int .u64 Y, .int .u64 T, .int .u64 N] := Blk.next (by repeat (first | (with_reducible exact Ab) | (refine Blk.new_at ?_; simp only [World.size_alloc]; done) | (with_reducible refine Blk.alloc ?_ _) | (with_reducible refine Blk.drewN ?_ _))) hb5
        clear An Ab Ac0 Af0 Ac1 Af1 Ac2 Af2 Ac3 Af3
        have Ab := Am
        clear Am
        have Ac0 : World.cell? w5 ⟨w.heap.size, 0, none⟩ = some (.int .u64 X) := Ab.get 0 rfl
        have Af0 := Blk.frozen Ab 0
        have Ac1 : World.cell? w5 ⟨w.heap.size, 1, none⟩ = some (.int .u64 Y) := Ab.get 1 rfl
        have Af1 := Blk.frozen Ab 1
        have Ac2 : World.cell? w5 ⟨w.heap.size, 2, none⟩ = some (.int .u64 T) := Ab.get 2 rfl
        have Af2 := Blk.frozen Ab 2
        have Ac3 : World.cell? w5 ⟨w.heap.size, 3, none⟩ = some (.int .u64 N) := Ab.get 3 rfl
        have Af3 := Blk.frozen Ab 3
        have An := Blk.lt Ab
        replace HU := Lib.hid (HU.out.next hb5)
        have B5 : Below wr.heap.size wr w5 := by first | with_reducible exact below_next B4 hb5 | exact below_step B4 (by go_grown) hb5
        clear hb5 B4
        go_wp2_with fail
        with_reducible refine (UC.out _ _ HU.out).mono ?_
        rintro e w6 ⟨rfl, hb6⟩
        have Am : Blk w6 (w.heap.size) 31 #[.int .u64 X, .int .u64 Y, .int .u64 T, .int .u64 N] := Blk.next (by repeat (first | (with_reducible exact Ab) | (refine Blk.new_at ?_; simp only [World.size_alloc]; done) | (with_reducible refine Blk.alloc ?_ _) | (with_reducible refine Blk.drewN ?_ _))) hb6
        clear An Ab Ac0 Af0 Ac1 Af1 Ac2 Af2 Ac3 Af3
        have Ab := Am
        clear Am
        have Ac0 : World.cell? w6 ⟨w.heap.size, 0, none⟩ = some (.int .u64 X) := Ab.get 0 rfl
        have Af0 := Blk.frozen Ab 0
        have Ac1 : World.cell? w6 ⟨w.heap.size, 1, none⟩ = some (.int .u64 Y) := Ab.get 1 rfl
        have Af1 := Blk.frozen Ab 1
        have Ac2 : World.cell? w6 ⟨w.heap.size, 2, none⟩ = some (.int .u64 T) := Ab.get 2 rfl
        have Af2 := Blk.frozen Ab 2
        have Ac3 : World.cell? w6 ⟨w.heap.size, 3, none⟩ = some (.int .u64 N) := Ab.get 3 rfl
        have Af3 := Blk.frozen Ab 3
        have An := Blk.lt Ab
        replace HU := Lib.hid (HU.out.next hb6)
        have B6 : Below wr.heap.size wr w6 := by first | with_reducible exact below_next B5 hb6 | exact below_step B5 (by go_grown) hb6
        clear hb6 B5
        go_wp2_with fail
        go_roundg gm
        case rel => exact ⟨i + 1, by omega, by go_num, HA.out.next B6, HQ.out.next B6, HS.out.next B6, below_next HB.out B6⟩
        case measure => omega
    · obtain rfl : gk = 0 := by omega
      obtain rfl : i = 2 := by omega
      have HB := Lib.hid B0
      clear Ab Qb Sb B0
      go_wp2_with fail
      with_reducible refine (CN.out _).mono ?_
      rintro e w1 ⟨rfl, hb1⟩
      go_wp2_with fail
      go_ret
      exact ⟨rfl, below_next HB.out hb1⟩

end Go.Proofs.Ytdkeoanlcninkaa
