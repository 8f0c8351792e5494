/-
  The contract of Dot.
-/
import Derived.Test.YtifndlkhhhedlaaProg
import Derived.Test.YtifndlkhhhedlaaDotPlain
import Derived.Deep.RegionHeld3
import Derived.Lib.MinMax
namespace Go.Proofs.Ytifndlkhhhedlaa
set_option linter.unusedVariables false
set_option linter.unusedSimpArgs false
set_option maxRecDepth 100000
open Go.RowKit Go.Shelf

set_option maxHeartbeats 4000000 in
theorem dot_any (A : Option Addr) (n cA : Nat) (F : Nat → Int) (B : Option Addr) (m cB : Nat) (G : Nat → Int) (w : World) (hF : ∀ i, i < n → Word (F i)) (hG : ∀ i, i < m → Word (G i)) (hn1 : n ≤ 9223372036854775807) (hm1 : m ≤ 9223372036854775807)
    (hA : 0 < n → ∃ b off, A = some ⟨b, off, none⟩ ∧ b < w.heap.size) (hB : 0 < m → ∃ b off, B = some ⟨b, off, none⟩ ∧ b < w.heap.size)
    (cF : ∀ b off, A = some ⟨b, off, none⟩ → ∀ i, i < n → w.cell? ⟨b, off + i, none⟩ = some (.int .u64 (F i))) (cG : ∀ b off, B = some ⟨b, off, none⟩ → ∀ i, i < m → w.cell? ⟨b, off + i, none⟩ = some (.int .u64 (G i))) :
    Calls Try.prog 5 #[.slice A n cA, .slice B m cB] w fun e w' => e = .returned (.tuple #[.agg #[.int .u64 (dotH (dsum F G (min n m))), .int .u64 (dotL (dsum F G (min n m)))], .int .i64 (dotE (dsum F G (min n m)))]) ∧ Below w.heap.size w w' := by
  have HF := Lib.hid hF
  have HG := Lib.hid hG
  have HA := Lib.hid hA
  have HB := Lib.hid hB
  have HcF := Lib.hid cF
  have HcG := Lib.hid cG
  clear hF hG hA hB cF cG
  obtain ⟨k, hk⟩ : ∃ k, min n m = k := ⟨_, rfl⟩
  rw [hk]
  have hmin : ∀ (ts : Array TypeId) (t : TypeId) (W : World), (Builtin.min_ ts t #[.int .i64 (n : Int), .int .i64 (m : Int)]).run Try.prog W = .ok (.int .i64 (k : Int)) W := by
    intro ts t W
    have e : min (n : Int) (m : Int) = (k : Int) := by omega
    rw [← e]
    exact Lib.run_min_ints W ts t .i64 .i64 _ _
  have hkn : k ≤ n := by omega
  have hkm : k ≤ m := by omega
  clear hk
  go_enter Try.func5, Try.ntmps5
  go_wp2_with fail
  have R0 := Blk.alloc (Blk.new w 25 #[.int .u64 0, .int .u64 0]) (.cells #[.int .u64 0, .int .u64 0] 25)
  have S0 : Blk ((w.alloc (.cells #[.int .u64 0, .int .u64 0] 25)).alloc (.cells #[.int .u64 0, .int .u64 0] 25)) (w.heap.size + 1) 25 #[.int .u64 0, .int .u64 0] := Blk.new_at (by simp)
  have B0 : Below w.heap.size w ((w.alloc (.cells #[.int .u64 0, .int .u64 0] 25)).alloc (.cells #[.int .u64 0, .int .u64 0] 25)) := by go_grown
  have E0 := Lib.hid (And.intro R0 (And.intro S0 B0))
  clear R0 S0 B0
  go_loopg [15] k (fun gk ix wr => ∃ i : Nat, i + gk = k ∧ ix = .int .i64 i ∧ dsum F G i < 340282366920938463463374607431768211456 ∧ Blk wr w.heap.size 25 #[.int .u64 0, .int .u64 0] ∧ Blk wr (w.heap.size + 1) 25 #[.int .u64 ((dsum F G i) / 18446744073709551616), .int .u64 ((dsum F G i) % 18446744073709551616)] ∧ Below w.heap.size w wr)
  case atStart => exact ⟨0, by omega, rfl, (by show (0 : Int) < _; omega), E0.out.1, E0.out.2.1, E0.out.2.2⟩
  case round =>
    obtain ⟨i, hi, rfl, hs, R, Sb, hB⟩ := hrel
    by_cases hlt : i < k
    · obtain ⟨gm, rfl⟩ : ∃ x, gk = x + 1 := ⟨gk - 1, by omega⟩
      obtain ⟨bA, oA, rfl, hbA⟩ := HA.out (by omega)
      obtain ⟨bB, oB, rfl, hbB⟩ := HB.out (by omega)
      have ca := (hB.cell (p := ⟨bA, oA + i, none⟩) hbA).trans (HcF.out _ _ rfl i (by omega))
      have cb := (hB.cell (p := ⟨bB, oB + i, none⟩) hbB).trans (HcG.out _ _ rfl i (by omega))
      have wF : ∀ j, j < k → Word (F j) := fun j hj => HF.out j (by omega)
      have wG : ∀ j, j < k → Word (G j) := fun j hj => HG.out j (by omega)
      obtain ⟨H, eH⟩ : ∃ x, F i * G i / 18446744073709551616 = x := ⟨_, rfl⟩
      obtain ⟨L, eL⟩ : ∃ x, F i * G i % 18446744073709551616 = x := ⟨_, rfl⟩
      obtain ⟨q1, q2, q3⟩ := dot_step wF wG hlt hs eH eL
      have pw := prod_words (wF i hlt) (wG i hlt)
      rw [eH, eL] at pw
      have nn := dsum_nonneg wF wG i (by omega)
      obtain ⟨sh, esh⟩ : ∃ x, dsum F G i / 18446744073709551616 = x := ⟨_, rfl⟩
      obtain ⟨sl, esl⟩ : ∃ x, dsum F G i % 18446744073709551616 = x := ⟨_, rfl⟩
      have wsh : Word sh := ⟨by omega, by omega⟩
      have wsl : Word sl := ⟨by omega, by omega⟩
      rw [esh, esl] at Sb q1 q2 q3
      have HM := Lib.hid (fun w => mul_hl (F i) (G i) H L w (wF i hlt) (wG i hlt) eH eL)
      obtain ⟨dH, edH⟩ : ∃ x, dotH (dsum F G (i + 1)) = x := ⟨_, rfl⟩
      obtain ⟨dL, edL⟩ : ∃ x, dotL (dsum F G (i + 1)) = x := ⟨_, rfl⟩
      obtain ⟨dE, edE⟩ : ∃ x, dotE (dsum F G (i + 1)) = x := ⟨_, rfl⟩
      rw [edH] at q1
      rw [edL] at q2
      rw [edE] at q3
      have HP := Lib.hid (fun w => wplus_val sh sl H L dH dL dE w wsh wsl pw.1 pw.2.1 q1 q2 q3)
      have HE := Lib.hid (And.intro edH (And.intro edL edE))
      have HO : Hid (340282366920938463463374607431768211456 ≤ dsum F G (i + 1) → 340282366920938463463374607431768211456 ≤ dsum F G k) := fun h => dot_over wF wG (by omega) h
      obtain ⟨x, ex⟩ : ∃ x, F i = x := ⟨_, rfl⟩
      obtain ⟨y, ey⟩ : ∃ y, G i = y := ⟨_, rfl⟩
      rw [ex] at HM ca
      rw [ey] at HM cb
      have ltA := Nat.lt_of_lt_of_le hbA hB.size
      have ltB := Nat.lt_of_lt_of_le hbB hB.size
      have i0 : (0 : Int) ≤ (i : Int) := by omega
      have i1 : (i : Int) < (n : Int) := by omega
      have i2 : (i : Int) < (m : Int) := by omega
      have i3 : (i : Int) < (k : Int) := by omega
      have S5 : ∀ w' : World, Below wr.heap.size wr w' → (w'.cell? ⟨w.heap.size + 1, 0, none⟩ = some (.int .u64 sh) ∧ w'.cell? ⟨w.heap.size + 1, 1, none⟩ = some (.int .u64 sl) ∧ w'.cell? ⟨bA, oA + i, none⟩ = some (.int .u64 x) ∧ w'.cell? ⟨bB, oB + i, none⟩ = some (.int .u64 y)) ∧ Below wr.heap.size wr w' := fun w' hb => ⟨⟨(Blk.below Sb hb Sb.lt).get 0 rfl, (Blk.below Sb hb Sb.lt).get 1 rfl, (hb.cell (p := ⟨bA, oA + i, none⟩) ltA).trans ca, (hb.cell (p := ⟨bB, oB + i, none⟩) ltB).trans cb⟩, hb⟩
      have S6 := Lib.hid S5
      have Hrest := Lib.hid (And.intro R (And.intro Sb hB))
      have Hi := Lib.hid hi
      clear S5 wF wG eH eL q1 q2 q3 pw nn esh esl wsh wsl edH edL edE ex ey HF HG HA HB HcF HcG hs R Sb hB ca cb hbA hbB E0 ltA ltB hi hkn hkm hm1
      go_upto_region 5 with (fail)
      go_cut [8, 9] (fun qv ev wc => ∃ q : Nat, qv = .pointer (some ⟨q, 0, none⟩) ∧ ev = .int .i64 dE ∧ Blk wc q 25 #[.int .u64 dH, .int .u64 dL] ∧ Below wr.heap.size wr wc)
      case first =>
        go_region_held3 (fun w' => (w'.cell? ⟨w.heap.size + 1, 0, none⟩ = some (.int .u64 sh) ∧ w'.cell? ⟨w.heap.size + 1, 1, none⟩ = some (.int .u64 sl) ∧ w'.cell? ⟨bA, oA + i, none⟩ = some (.int .u64 x) ∧ w'.cell? ⟨bB, oB + i, none⟩ = some (.int .u64 y)) ∧ Below wr.heap.size wr w') (first | (exact S6.out _ (Below.refl _ _)) | (exact S6.out _ (below_of_drew (Below.refl _ _))) | assumption | (exact S6.out _ hS7) | (exact S6.out _ (hS7.alloc hS7.size _)) | (exact S6.out _ (hS6.alloc hS6.size _)) | (exact S6.out _ ((below_of_drew (Below.refl _ _)).alloc (Nat.le_refl _) _)) | (exact S6.out _ hS6) | (exact S6.out _ (hS7.setCell (by first | exact Nat.le_refl _ | exact hS6.size) _)) | (exact S6.out _ ((hS7.setCell (by first | exact Nat.le_refl _ | exact hS6.size) _).setCell (by first | exact Nat.le_refl _ | exact hS6.size) _)))
          (first | ((with_reducible refine (HM.out _).mono ?_); rintro e w6 ⟨rfl, hb6⟩; have hS6 : Below wr.heap.size wr w6 := (by first | exact below_next (below_of_drew (Below.refl _ _)) hb6 | exact below_next ((below_of_drew (Below.refl _ _)).alloc (Nat.le_refl _) _) hb6); (try (have Y : Blk w6 wr.heap.size 25 #[.int .u64 0, .int .u64 0] := Blk.next (Blk.new wr.drew 25 #[.int .u64 0, .int .u64 0]) hb6; have Y0 : World.cell? w6 ⟨wr.heap.size, 0, none⟩ = some (.int .u64 0) := Y.get 0 rfl; have Y1 : World.cell? w6 ⟨wr.heap.size, 1, none⟩ = some (.int .u64 0) := Y.get 1 rfl; have Y2 : World.frozen? w6 ⟨wr.heap.size, 0, none⟩ = false := Y.frozen 0; have Y3 : World.frozen? w6 ⟨wr.heap.size, 1, none⟩ = false := Y.frozen 1; have Y4 := Y.lt))) | ((with_reducible refine (HP.out _).mono ?_); rintro e w7 ⟨rfl, hb7⟩; have hS7 : Below wr.heap.size wr w7 := (by first | exact below_next hS6 hb7 | exact below_next (hS6.alloc hS6.size _) hb7); (first | (have Y : Blk w7 wr.heap.size 25 #[.int .u64 0, .int .u64 0] := Blk.next Y hb7; have Y0 : World.cell? w7 ⟨wr.heap.size, 0, none⟩ = some (.int .u64 0) := Y.get 0 rfl; have Y1 : World.cell? w7 ⟨wr.heap.size, 1, none⟩ = some (.int .u64 0) := Y.get 1 rfl; have Y2 : World.frozen? w7 ⟨wr.heap.size, 0, none⟩ = false := Y.frozen 0; have Y3 : World.frozen? w7 ⟨wr.heap.size, 1, none⟩ = false := Y.frozen 1; have Y4 := Y.lt) | (have Y : Blk w7 w6.heap.size 25 #[.int .u64 0, .int .u64 0] := Blk.next (Blk.new w6 25 #[.int .u64 0, .int .u64 0]) hb7; have Y0 : World.cell? w7 ⟨w6.heap.size, 0, none⟩ = some (.int .u64 0) := Y.get 0 rfl; have Y1 : World.cell? w7 ⟨w6.heap.size, 1, none⟩ = some (.int .u64 0) := Y.get 1 rfl; have Y2 : World.frozen? w7 ⟨w6.heap.size, 0, none⟩ = false := Y.frozen 0; have Y3 : World.frozen? w7 ⟨w6.heap.size, 1, none⟩ = false := Y.frozen 1; have Y4 := Y.lt) | skip)))
        all_goals go_wp2_with fail
        all_goals go_meet
        all_goals first
          | exact ⟨_, rfl, rfl, Blk.new w7 _ _, hS7.alloc hS7.size _⟩
          | exact ⟨_, rfl, rfl, Blk.put (Blk.put Y 0 _) 1 _, (hS7.setCell (Nat.le_refl _) _).setCell (Nat.le_refl _) _⟩
          | exact ⟨_, rfl, rfl, Blk.put (Blk.put Y 0 _) 1 _, (hS7.setCell hS6.size _).setCell hS6.size _⟩
      case rest =>
        obtain ⟨q, rfl, rfl, Q, hbc⟩ := hcut
        have R := Blk.next Hrest.out.1 hbc
        have Sb := Blk.next Hrest.out.2.1 hbc
        have hB := below_next Hrest.out.2.2 hbc
        have Rc0 := R.get 0 rfl
        have Rf0 := R.frozen 0
        have Rc1 := R.get 1 rfl
        have Rf1 := R.frozen 1
        have Sbc0 := Sb.get 0 rfl
        have Sbf0 := Sb.frozen 0
        have Sbc1 := Sb.get 1 rfl
        have Sbf1 := Sb.frozen 1
        have Qc0 := Q.get 0 rfl
        have Qf0 := Q.frozen 0
        have Qc1 := Q.get 1 rfl
        have Qf1 := Q.frozen 1
        have Rn := R.lt
        have Sn := Sb.lt
        have Qn := Q.lt
        have HR := Lib.hid R
        have HS := Lib.hid Sb
        have HBB := Lib.hid hB
        clear R Sb hB Hrest hbc S6
        by_cases ho : 340282366920938463463374607431768211456 ≤ dsum F G (i + 1)
        · obtain rfl : 10 = dE := by rw [← HE.out.2.2]; unfold dotE; rw [if_pos ho]
          have hK := HO.out ho
          have HK := Lib.hid hK
          clear ho HE HO hK
          obtain ⟨P0, P1, P2⟩ := Blk.puts HR.out (.int .u64 0) (.int .u64 0)
          go_wp2_with fail
          refine bodyPost_ret (by simp [results, Try.results5, go_sem, P0, P1]; try rfl) rfl ?_
          have hK : 340282366920938463463374607431768211456 ≤ dsum F G k := HK.out
          exact ⟨by unfold dotH dotL dotE; rw [if_pos hK, if_pos hK, if_pos hK], (HBB.out.setCell (Nat.le_refl _) _).setCell (Nat.le_refl _) _⟩
        · obtain rfl : 0 = dE := by rw [← HE.out.2.2]; unfold dotE; rw [if_neg ho]
          have g1 : dsum F G (i + 1) / 18446744073709551616 = dH := by rw [← HE.out.1]; unfold dotH; rw [if_neg ho]
          have g2 : dsum F G (i + 1) % 18446744073709551616 = dL := by rw [← HE.out.2.1]; unfold dotL; rw [if_neg ho]
          have HG1 := Lib.hid g1
          have HG2 := Lib.hid g2
          have ho2 := Lib.hid ho
          clear HE HO ho g1 g2
          go_wp2_with fail
          go_roundg gm
          case rel =>
            refine ⟨i + 1, ?_, by go_num, ho2.out, ?_, ?_, ?_⟩
            · have h : i + (gm + 1) = k := Hi.out
              first | omega | (trace_state; sorry)
            · exact Blk.far (Blk.far HR.out (by show w.heap.size ≠ w.heap.size + 1; omega) _) (by show w.heap.size ≠ w.heap.size + 1; omega) _
            · rw [HG1.out, HG2.out]; exact Blk.put (Blk.put HS.out 0 _) 1 _
            · exact (HBB.out.setCell (by show w.heap.size ≤ w.heap.size + 1; omega) _).setCell (by show w.heap.size ≤ w.heap.size + 1; omega) _
          case measure => omega
    · obtain rfl : gk = 0 := by omega
      obtain rfl : i = k := by omega
      have Rc0 := R.get 0 rfl
      have Rc1 := R.get 1 rfl
      have Rf0 := R.frozen 0
      have Rf1 := R.frozen 1
      have Sc0 := Sb.get 0 rfl
      have Sc1 := Sb.get 1 rfl
      have Rn := R.lt
      have Sn := Sb.lt
      have HR := Lib.hid R
      have HBB := Lib.hid hB
      have Hs := Lib.hid hs
      clear R Sb hB hs E0 HF HG HA HB HcF HcG hn1 hm1
      obtain ⟨P0, P1, P2⟩ := Blk.puts HR.out (.int .u64 (dsum F G i / 18446744073709551616)) (.int .u64 (dsum F G i % 18446744073709551616))
      go_wp2_with fail
      refine bodyPost_ret (by simp [results, Try.results5, go_sem, P0, P1]; try rfl) rfl ?_
      have hs : dsum F G i < 340282366920938463463374607431768211456 := Hs.out
      exact ⟨by unfold dotH dotL dotE; rw [if_neg (by omega), if_neg (by omega), if_neg (by omega)], (HBB.out.setCell (Nat.le_refl _) _).setCell (Nat.le_refl _) _⟩

end Go.Proofs.Ytifndlkhhhedlaa
