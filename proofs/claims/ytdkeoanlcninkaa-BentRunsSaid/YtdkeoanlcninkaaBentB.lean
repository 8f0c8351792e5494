/-
  A run of a bent curve behind starts; the chapter's examples.
-/
import Derived.Test.YtdkeoanlcninkaaBentS
namespace Go.Proofs.Ytdkeoanlcninkaa
set_option linter.unusedVariables false
set_option linter.unusedSimpArgs false
open Go.RowKit Go.Shelf

theorem IsBent.next {w w' : World} {q : Nat} {F L R n x f r : Int} (h : IsBent w q F L R n x f r) (hb : Below w.heap.size w w') : IsBent w' q F L R n x f r := Blk.next h hb
theorem IsBent.fr {S : Nat → Prop} {w w' : World} {q : Nat} {F L R n x f r : Int} (h : IsBent w q F L R n x f r) (hf : Fr S w w') (hn : ¬ S q) : IsBent w' q F L R n x f r := Blk.fr h hf hn
theorem IsBent.lt {w : World} {q : Nat} {F L R n x f r : Int} (h : IsBent w q F L R n x f r) : q < w.heap.size := Blk.lt h
theorem bstart_val (q : Nat) (F L R n x f r X Y n' x' f' r' : Int) (w : World) (h : IsBent w q F L R n x f r) (hm : Made F L R n x f r) (hn1 : n ≤ 1000000) (wX : Word X) (wY : Word Y) (e0 : n + 1 = n') (e1 : nextX x X = x') (e2 : nextH F 0 n x f X Y = f') (e3 : nextH R ((F - R) * L) n x r X Y = r') :
    Calls Try.prog 13 #[.pointer (some ⟨q, 0, none⟩), .int .u64 X, .int .u64 Y] w fun e w' =>
      e = .returned (.tuple #[]) ∧ IsBent w' q F L R n' x' f' r' ∧ Fr (fun k => k = q) w w' := by
  rw [← e0, ← e1, ← e2, ← e3]; exact bstart_made q F L R n x f r X Y w h hm hn1 wX wY
theorem breach0_val (q : Nat) (F L R x f r y v : Int) (w : World) (h : IsBent w q F L R 0 x f r) (hv : (if y = 0 then 0 else 9223372036854775808) = v) : Calls Try.prog 16 #[.pointer (some ⟨q, 0, none⟩), .int .u64 y] w fun e w' => e = .returned (.int .u64 v) ∧ Below w.heap.size w w' := by
  rw [← hv]; exact breach_zero q F L R x f r y w h

set_option maxHeartbeats 4000000 in
theorem awake05 (w : World) : Calls Try.prog 20 #[] w fun e w' => e = .returned (.bool true) ∧ Below w.heap.size w w' := by
  have m : May 4 10 1 := ⟨by decide, by decide, by decide, by decide, by decide, by decide, by decide, by decide⟩
  have m0 : Made 4 10 1 0 0 0 0 := made_none m (by decide)
  have m1 : Made 4 10 1 1 0 0 30 := ⟨m, by decide, by decide, by decide, by decide, by decide, by decide, by decide, by decide, fun _ => by decide⟩
  have m2 : Made 4 10 1 2 20 45 50 := ⟨m, by decide, by decide, by decide, by decide, by decide, by decide, by decide, by decide, fun _ => by decide⟩
  have NW := Lib.hid (fun w => bnew_made 4 10 1 w (by decide) (by decide) (by decide) (by decide) (by decide))
  have NB := Lib.hid (fun w => bnew_bad 1 10 4 w (by decide) (by decide) (by decide) (by decide))
  have A0 := Lib.hid (fun q w h => bat_zero q 4 10 1 0 0 0 7 w h)
  have R0 := Lib.hid (fun q w h => breach0_val q 4 10 1 0 0 0 1 9223372036854775808 w h (by decide))
  have S1 := Lib.hid (fun q w h => bstart_val q 4 10 1 0 0 0 0 0 0 1 0 0 30 w h m0 (by decide) (by decide) (by decide) (by decide) (by decide) (by decide) (by decide))
  have A1 := Lib.hid (fun q w h => bat_made q 4 10 1 1 0 0 30 10 40 w h (by decide) (by decide) (by decide) (by decide) (by decide) (by decide) (by decide) (by decide))
  have A2 := Lib.hid (fun q w h => bat_made q 4 10 1 1 0 0 30 20 50 w h (by decide) (by decide) (by decide) (by decide) (by decide) (by decide) (by decide) (by decide))
  have R1 := Lib.hid (fun q w h => breach_made q 4 10 1 1 0 0 30 41 11 w h m1 (by decide) (by decide) (by decide))
  have S2 := Lib.hid (fun q w h => bstart_val q 4 10 1 1 0 0 30 20 45 2 20 45 50 w h m1 (by decide) (by decide) (by decide) (by decide) (by decide) (by decide) (by decide))
  have LI := Lib.hid (fun q w h => lines_made q 4 10 1 2 20 45 50 w h (by decide))
  have T1 := Lib.hid (fun q w h => bat_made q 4 10 1 2 20 45 50 21 49 w h (by decide) (by decide) (by decide) (by decide) (by decide) (by decide) (by decide) (by decide))
  have T2 := Lib.hid (fun q w h => bat_made q 4 10 1 2 20 45 50 22 52 w h (by decide) (by decide) (by decide) (by decide) (by decide) (by decide) (by decide) (by decide))
  have T3 := Lib.hid (fun q w h => bat_made q 4 10 1 2 20 45 50 23 53 w h (by decide) (by decide) (by decide) (by decide) (by decide) (by decide) (by decide) (by decide))
  have T4 := Lib.hid (fun q w h => bat_made q 4 10 1 2 20 45 50 3 45 w h (by decide) (by decide) (by decide) (by decide) (by decide) (by decide) (by decide) (by decide))
  have R2 := Lib.hid (fun q w h => breach_made q 4 10 1 2 20 45 50 3 20 w h m2 (by decide) (by decide) (by decide))
  have R3 := Lib.hid (fun q w h => breach_made q 4 10 1 2 20 45 50 52 22 w h m2 (by decide) (by decide) (by decide))
  clear m m0 m1 m2
  go_enter Try.func20, Try.ntmps20
  go_wp2_with fail
  with_reducible refine (NW.out _).mono ?_
  rintro e w1 ⟨p, rfl, hp, hq, B1⟩
  have HQ := Lib.hid hq
  clear hq
  go_wp2_with fail
  with_reducible refine (NB.out _).mono ?_
  rintro e w2 ⟨rfl, hb2⟩
  replace HQ := Lib.hid (HQ.out.next hb2)
  have B2 : Below w.heap.size w w2 := by first | with_reducible exact below_next B1 hb2 | exact below_step B1 (by go_grown) hb2
  clear hb2 B1
  go_wp2_with fail
  with_reducible refine (A0.out _ _ HQ.out).mono ?_
  rintro e w3 ⟨rfl, hb3⟩
  replace HQ := Lib.hid (HQ.out.next hb3)
  have B3 : Below w.heap.size w w3 := by first | with_reducible exact below_next B2 hb3 | exact below_step B2 (by go_grown) hb3
  clear hb3 B2
  go_wp2_with fail
  with_reducible refine (R0.out _ _ HQ.out).mono ?_
  rintro e w4 ⟨rfl, hb4⟩
  replace HQ := Lib.hid (HQ.out.next hb4)
  have B4 : Below w.heap.size w w4 := by first | with_reducible exact below_next B3 hb4 | exact below_step B3 (by go_grown) hb4
  clear hb4 B3
  go_wp2_with fail
  with_reducible refine (S1.out _ _ HQ.out).mono ?_
  rintro e w5 ⟨rfl, hq, hf⟩
  have B5 : Below w.heap.size w w5 := B4.trans (hf.below (B := w.heap.size) B4.size (fun k hk e => by omega))
  replace HQ := Lib.hid hq
  clear hq hf B4
  go_wp2_with fail
  with_reducible refine (A1.out _ _ HQ.out).mono ?_
  rintro e w6 ⟨rfl, hb6⟩
  replace HQ := Lib.hid (HQ.out.next hb6)
  have B6 : Below w.heap.size w w6 := by first | with_reducible exact below_next B5 hb6 | exact below_step B5 (by go_grown) hb6
  clear hb6 B5
  go_wp2_with fail
  with_reducible refine (A2.out _ _ HQ.out).mono ?_
  rintro e w7 ⟨rfl, hb7⟩
  replace HQ := Lib.hid (HQ.out.next hb7)
  have B7 : Below w.heap.size w w7 := by first | with_reducible exact below_next B6 hb7 | exact below_step B6 (by go_grown) hb7
  clear hb7 B6
  go_wp2_with fail
  with_reducible refine (R1.out _ _ HQ.out).mono ?_
  rintro e w8 ⟨rfl, hb8⟩
  replace HQ := Lib.hid (HQ.out.next hb8)
  have B8 : Below w.heap.size w w8 := by first | with_reducible exact below_next B7 hb8 | exact below_step B7 (by go_grown) hb8
  clear hb8 B7
  go_wp2_with fail
  with_reducible refine (S2.out _ _ HQ.out).mono ?_
  rintro e w9 ⟨rfl, hq, hf⟩
  have B9 : Below w.heap.size w w9 := B8.trans (hf.below (B := w.heap.size) B8.size (fun k hk e => by omega))
  replace HQ := Lib.hid hq
  clear hq hf B8
  go_wp2_with fail
  with_reducible refine (LI.out _ _ HQ.out).mono ?_
  rintro e w10 ⟨rfl, hb10⟩
  replace HQ := Lib.hid (HQ.out.next hb10)
  have B10 : Below w.heap.size w w10 := by first | with_reducible exact below_next B9 hb10 | exact below_step B9 (by go_grown) hb10
  clear hb10 B9
  go_wp2_with fail
  with_reducible refine (T1.out _ _ HQ.out).mono ?_
  rintro e w11 ⟨rfl, hb11⟩
  replace HQ := Lib.hid (HQ.out.next hb11)
  have B11 : Below w.heap.size w w11 := by first | with_reducible exact below_next B10 hb11 | exact below_step B10 (by go_grown) hb11
  clear hb11 B10
  go_wp2_with fail
  with_reducible refine (T2.out _ _ HQ.out).mono ?_
  rintro e w12 ⟨rfl, hb12⟩
  replace HQ := Lib.hid (HQ.out.next hb12)
  have B12 : Below w.heap.size w w12 := by first | with_reducible exact below_next B11 hb12 | exact below_step B11 (by go_grown) hb12
  clear hb12 B11
  go_wp2_with fail
  with_reducible refine (T3.out _ _ HQ.out).mono ?_
  rintro e w13 ⟨rfl, hb13⟩
  replace HQ := Lib.hid (HQ.out.next hb13)
  have B13 : Below w.heap.size w w13 := by first | with_reducible exact below_next B12 hb13 | exact below_step B12 (by go_grown) hb13
  clear hb13 B12
  go_wp2_with fail
  with_reducible refine (T4.out _ _ HQ.out).mono ?_
  rintro e w14 ⟨rfl, hb14⟩
  replace HQ := Lib.hid (HQ.out.next hb14)
  have B14 : Below w.heap.size w w14 := by first | with_reducible exact below_next B13 hb14 | exact below_step B13 (by go_grown) hb14
  clear hb14 B13
  go_wp2_with fail
  with_reducible refine (R2.out _ _ HQ.out).mono ?_
  rintro e w15 ⟨rfl, hb15⟩
  replace HQ := Lib.hid (HQ.out.next hb15)
  have B15 : Below w.heap.size w w15 := by first | with_reducible exact below_next B14 hb15 | exact below_step B14 (by go_grown) hb15
  clear hb15 B14
  go_wp2_with fail
  with_reducible refine (R3.out _ _ HQ.out).mono ?_
  rintro e w16 ⟨rfl, hb16⟩
  replace HQ := Lib.hid (HQ.out.next hb16)
  have B16 : Below w.heap.size w w16 := by first | with_reducible exact below_next B15 hb16 | exact below_step B15 (by go_grown) hb16
  clear hb16 B15
  go_wp2_with fail
  go_ret
  exact ⟨by simp, B16⟩

/-- A column, with zeros behind its end. -/
def cutF (F : Nat → Int) (n : Nat) : Nat → Int := fun i => if i < n then F i else 0
theorem cutF_at {F : Nat → Int} {n i : Nat} (h : i < n) : cutF F n i = F i := by unfold cutF; rw [if_pos h]
theorem cutF_word {F : Nat → Int} {n : Nat} (h : ∀ i, i < n → Word (F i)) (i : Nat) : Word (cutF F n i) := by
  unfold cutF; split
  · exact h i ‹_›
  · exact ⟨by decide, by decide⟩

/-- What the acts that came in are. -/
def ActsAt (w : World) (A : Option Addr) (n : Nat) (X Y : Nat → Int) : Prop :=
  ∀ b off, A = some ⟨b, off, none⟩ → ∀ i, i < n → w.cell? ⟨b, off + i * 4, none⟩ = some (.int .u64 (X i)) ∧ w.cell? ⟨b, off + i * 4 + 1, none⟩ = some (.int .u64 (Y i))

theorem started_bad (F L R : Int) (A : Option Addr) (n c : Nat) (w : World) (wF : Word F) (wL : Word L) (wR : Word R) (h : (mayB F L R && decide (R < F)) = false) :
    Calls Try.prog 21 #[.agg #[.int .u64 F, .int .u64 L, .int .u64 R], .slice A n c] w fun e w' => e = .returned (.pointer none) ∧ Below w.heap.size w w' := by
  have NB := Lib.hid (fun w => bnew_bad F L R w wF wL wR h)
  clear h
  go_enter Try.func21, Try.ntmps21
  go_wp2_with fail
  with_reducible refine (NB.out _).mono ?_
  rintro e w1 ⟨rfl, hb1⟩
  have B1 : Below w.heap.size w w1 := by first | with_reducible exact hb1 | exact Below.trans (by go_grown) (hb1.mono (by simp only [World.size_alloc]; omega))
  clear hb1
  go_wp2_with fail
  go_ret
  exact ⟨by simp, B1⟩
theorem started_long (F L R : Int) (A : Option Addr) (n c : Nat) (w : World) (wF : Word F) (wL : Word L) (wR : Word R) (hm : mayB F L R = true) (hb : R < F) (hn : 40 < n) :
    Calls Try.prog 21 #[.agg #[.int .u64 F, .int .u64 L, .int .u64 R], .slice A n c] w fun e w' => e = .returned (.pointer none) ∧ Below w.heap.size w w' := by
  have NW := Lib.hid (fun w => bnew_made F L R w wF wL wR hm hb)
  clear hm hb
  have hn' : (40 : Int) < (n : Int) := by omega
  go_enter Try.func21, Try.ntmps21
  go_wp2_with fail
  with_reducible refine (NW.out _).mono ?_
  rintro e w1 ⟨p, rfl, hp, hq, hb1⟩
  clear hq
  go_wp2_with fail
  go_ret
  exact ⟨rfl, Below.trans (by go_grown) (hb1.mono (by simp only [World.size_alloc]; omega))⟩

set_option maxHeartbeats 4000000 in
theorem started_made (F L R : Int) (A : Option Addr) (n c : Nat) (X Y : Nat → Int) (w : World) (wF : Word F) (wL : Word L) (wR : Word R) (hm : mayB F L R = true) (hb : R < F) (hn : n ≤ 40)
    (hA : 0 < n → ∃ b off, A = some ⟨b, off, none⟩ ∧ b < w.heap.size) (hX : ∀ i, Word (X i)) (hY : ∀ i, Word (Y i)) (hC : ActsAt w A n X Y) :
    Calls Try.prog 21 #[.agg #[.int .u64 F, .int .u64 L, .int .u64 R], .slice A n c] w fun e w' =>
      ∃ p, e = .returned (.pointer (some ⟨p, 0, none⟩)) ∧ w.heap.size ≤ p ∧ IsBent w' p F L R n (runX X n) (runH X Y F 0 n) (runH X Y R ((F - R) * L) n) ∧ Below w.heap.size w w' := by
  have NW := Lib.hid (fun w => bnew_made F L R w wF wL wR hm hb)
  have MR : Hid (∀ i : Nat, Made F L R i (runX X i) (runH X Y F 0 i) (runH X Y R ((F - R) * L) i)) := fun i => made_run (may_of wF wL wR hm) hb (fun j => (hY j).1) i
  have HA := Lib.hid hA
  have HX := Lib.hid hX
  have HY := Lib.hid hY
  have HC := Lib.hid hC
  have hn' : (n : Int) ≤ 40 := by omega
  clear hm hb hA hX hY hC
  go_enter Try.func21, Try.ntmps21
  go_wp2_with fail
  with_reducible refine (NW.out _).mono ?_
  rintro e w1 ⟨p, rfl, hp, hq, hb1⟩
  have B1 : Below w.heap.size w w1 := by first | with_reducible exact hb1 | exact Below.trans (by go_grown) (hb1.mono (by simp only [World.size_alloc]; omega))
  have HQ := Lib.hid hq
  have hp' : w.heap.size ≤ p := by first | exact hp | (simp only [World.size_alloc] at hp; omega)
  clear hq hp hb1
  go_wp2_with fail
  go_loopg [7] n (fun gk ix wr => ∃ i : Nat, i + gk = n ∧ ix = .int .i64 i ∧ IsBent wr p F L R i (runX X i) (runH X Y F 0 i) (runH X Y R ((F - R) * L) i) ∧ Below w.heap.size w wr)
  case atStart => exact ⟨0, by omega, rfl, HQ.out, B1⟩
  case round =>
    obtain ⟨i, hi, rfl, Qb, B0⟩ := hrel
    clear HQ B1
    have HQ := Lib.hid Qb
    clear Qb
    by_cases hlt : i < n
    · obtain ⟨gm, rfl⟩ : ∃ gm, gk = gm + 1 := ⟨gk - 1, by omega⟩
      obtain ⟨bA, off, rfl, hbA⟩ := HA.out (by omega)
      obtain ⟨cx, cy⟩ := HC.out _ _ rfl i hlt
      have ST := Lib.hid (fun w h => bstart_made p F L R i (runX X i) (runH X Y F 0 i) (runH X Y R ((F - R) * L) i) (X i) (Y i) w h (MR.out i) (by omega) (HX.out i) (HY.out i))
      have i0 : (0 : Int) ≤ (i : Int) := by omega
      have i1 : (i : Int) < (n : Int) := by omega
      have hp2 := Lib.hid HQ.out.lt
      have K5 : Hid (∀ w', Below (w.heap.size) w w' → (w'.cell? ⟨bA, off + i * 4, none⟩ = some (.int .u64 (X i)) ∧ w'.cell? ⟨bA, off + i * 4 + 1, none⟩ = some (.int .u64 (Y i))) ∧ Below (w.heap.size) w w') := fun w' hb => ⟨⟨((hb.cell (p := ⟨bA, off + i * 4, none⟩) hbA).trans cx), ((hb.cell (p := ⟨bA, off + i * 4 + 1, none⟩) hbA).trans cy)⟩, hb⟩
      clear HX HY HC HA cx cy
      have HB0 := Lib.hid B0
      have EX : Hid (runX X (i + 1) = nextX (runX X i) (X i)) := rfl
      have EF : Hid (runH X Y F 0 (i + 1) = nextH F 0 i (runX X i) (runH X Y F 0 i) (X i) (Y i)) := rfl
      have ER : Hid (runH X Y R ((F - R) * L) (i + 1) = nextH R ((F - R) * L) i (runX X i) (runH X Y R ((F - R) * L) i) (X i) (Y i)) := rfl
      clear B0
      go_wp2_with fail
      refine wp_region_noPanic ?_
      refine wp_region_held_drew (S := fun w' => (w'.cell? ⟨bA, off + i * 4, none⟩ = some (.int .u64 (X i)) ∧ w'.cell? ⟨bA, off + i * 4 + 1, none⟩ = some (.int .u64 (Y i))) ∧ Below (w.heap.size) w w') (by kernel_rfl) (K5.out _ (below_of_drew (HB0.out))) (fun hH => ?_)
      first | (refine wpAnyH_take (i := 0) (v := undef) rfl ?_ ?_ ?_ (fun _ _ _ h => h) ?_ ?_ ?_; kernel_rfl; kernel_rfl; kernel_rfl; exact Or.inr ⟨by rfl, rfl⟩; exact hH) | (refine wpAnyH_take (i := 0) (v := ?_) rfl ?_ ?_ ?_ (fun _ _ _ h => h) ?_ ?_ ?_; rotate_left; kernel_rfl; kernel_rfl; kernel_rfl; (focus (refine Or.inl ⟨by rfl, ?_⟩; intro w' hSw; (try dsimp only at hSw); go_simp)); exact hH) | (refine wpAnyH_take (i := 0) (v := ?_) rfl ?_ ?_ ?_ (fun _ _ _ h => h) ?_ ?_ ?_; rotate_left; kernel_rfl; kernel_rfl; kernel_rfl; (focus (refine Or.inl ⟨by rfl, ?_⟩; intro w' hSw; (try dsimp only at hSw); go_simp; with_reducible rfl)); exact hH)
      try simp only [Act.put, List.getElem_toArray, List.getElem_cons_succ, List.getElem_cons_zero, List.setIfInBounds_toArray, List.set_cons_zero, List.set_cons_succ]
      first | (refine wpAnyH_take (i := 1) (v := undef) rfl ?_ ?_ ?_ (fun _ _ _ h => h) ?_ ?_ ?_; kernel_rfl; kernel_rfl; kernel_rfl; exact Or.inr ⟨by rfl, rfl⟩; exact hH) | (refine wpAnyH_take (i := 1) (v := ?_) rfl ?_ ?_ ?_ (fun _ _ _ h => h) ?_ ?_ ?_; rotate_left; kernel_rfl; kernel_rfl; kernel_rfl; (focus (refine Or.inl ⟨by rfl, ?_⟩; intro w' hSw; (try dsimp only at hSw); go_simp)); exact hH) | (refine wpAnyH_take (i := 1) (v := ?_) rfl ?_ ?_ ?_ (fun _ _ _ h => h) ?_ ?_ ?_; rotate_left; kernel_rfl; kernel_rfl; kernel_rfl; (focus (refine Or.inl ⟨by rfl, ?_⟩; intro w' hSw; (try dsimp only at hSw); go_simp; with_reducible rfl)); exact hH)
      try simp only [Act.put, List.getElem_toArray, List.getElem_cons_succ, List.getElem_cons_zero, List.setIfInBounds_toArray, List.set_cons_zero, List.set_cons_succ]
      first | (refine wpAnyH_take (i := 2) (v := undef) rfl ?_ ?_ ?_ (fun _ _ _ h => h) ?_ ?_ ?_; kernel_rfl; kernel_rfl; kernel_rfl; exact Or.inr ⟨by rfl, rfl⟩; exact hH) | (refine wpAnyH_take (i := 2) (v := ?_) rfl ?_ ?_ ?_ (fun _ _ _ h => h) ?_ ?_ ?_; rotate_left; kernel_rfl; kernel_rfl; kernel_rfl; (focus (refine Or.inl ⟨by rfl, ?_⟩; intro w' hSw; (try dsimp only at hSw); go_simp)); exact hH) | (refine wpAnyH_take (i := 2) (v := ?_) rfl ?_ ?_ ?_ (fun _ _ _ h => h) ?_ ?_ ?_; rotate_left; kernel_rfl; kernel_rfl; kernel_rfl; (focus (refine Or.inl ⟨by rfl, ?_⟩; intro w' hSw; (try dsimp only at hSw); go_simp; with_reducible rfl)); exact hH)
      try simp only [Act.put, List.getElem_toArray, List.getElem_cons_succ, List.getElem_cons_zero, List.setIfInBounds_toArray, List.set_cons_zero, List.set_cons_succ]
      first | (refine wpAnyH_take (i := 3) (v := undef) rfl ?_ ?_ ?_ (fun _ _ _ h => h) ?_ ?_ ?_; kernel_rfl; kernel_rfl; kernel_rfl; exact Or.inr ⟨by rfl, rfl⟩; exact hH) | (refine wpAnyH_take (i := 3) (v := ?_) rfl ?_ ?_ ?_ (fun _ _ _ h => h) ?_ ?_ ?_; rotate_left; kernel_rfl; kernel_rfl; kernel_rfl; (focus (refine Or.inl ⟨by rfl, ?_⟩; intro w' hSw; (try dsimp only at hSw); go_simp)); exact hH) | (refine wpAnyH_take (i := 3) (v := ?_) rfl ?_ ?_ ?_ (fun _ _ _ h => h) ?_ ?_ ?_; rotate_left; kernel_rfl; kernel_rfl; kernel_rfl; (focus (refine Or.inl ⟨by rfl, ?_⟩; intro w' hSw; (try dsimp only at hSw); go_simp; with_reducible rfl)); exact hH)
      try simp only [Act.put, List.getElem_toArray, List.getElem_cons_succ, List.getElem_cons_zero, List.setIfInBounds_toArray, List.set_cons_zero, List.set_cons_succ]
      first | (refine wpAnyH_take (i := 4) (v := undef) rfl ?_ ?_ ?_ (fun _ _ _ h => h) ?_ ?_ ?_; kernel_rfl; kernel_rfl; kernel_rfl; exact Or.inr ⟨by rfl, rfl⟩; exact hH) | (refine wpAnyH_take (i := 4) (v := ?_) rfl ?_ ?_ ?_ (fun _ _ _ h => h) ?_ ?_ ?_; rotate_left; kernel_rfl; kernel_rfl; kernel_rfl; (focus (refine Or.inl ⟨by rfl, ?_⟩; intro w' hSw; (try dsimp only at hSw); go_simp)); exact hH) | (refine wpAnyH_take (i := 4) (v := ?_) rfl ?_ ?_ ?_ (fun _ _ _ h => h) ?_ ?_ ?_; rotate_left; kernel_rfl; kernel_rfl; kernel_rfl; (focus (refine Or.inl ⟨by rfl, ?_⟩; intro w' hSw; (try dsimp only at hSw); go_simp; with_reducible rfl)); exact hH)
      try simp only [Act.put, List.getElem_toArray, List.getElem_cons_succ, List.getElem_cons_zero, List.setIfInBounds_toArray, List.set_cons_zero, List.set_cons_succ]
      first | (refine wpAnyH_take (i := 5) (v := undef) rfl ?_ ?_ ?_ (fun _ _ _ h => h) ?_ ?_ ?_; kernel_rfl; kernel_rfl; kernel_rfl; exact Or.inr ⟨by rfl, rfl⟩; exact hH) | (refine wpAnyH_take (i := 5) (v := ?_) rfl ?_ ?_ ?_ (fun _ _ _ h => h) ?_ ?_ ?_; rotate_left; kernel_rfl; kernel_rfl; kernel_rfl; (focus (refine Or.inl ⟨by rfl, ?_⟩; intro w' hSw; (try dsimp only at hSw); go_simp)); exact hH) | (refine wpAnyH_take (i := 5) (v := ?_) rfl ?_ ?_ ?_ (fun _ _ _ h => h) ?_ ?_ ?_; rotate_left; kernel_rfl; kernel_rfl; kernel_rfl; (focus (refine Or.inl ⟨by rfl, ?_⟩; intro w' hSw; (try dsimp only at hSw); go_simp; with_reducible rfl)); exact hH)
      try simp only [Act.put, List.getElem_toArray, List.getElem_cons_succ, List.getElem_cons_zero, List.setIfInBounds_toArray, List.set_cons_zero, List.set_cons_succ]
      first | (refine wpAnyH_take (i := 6) (v := undef) rfl ?_ ?_ ?_ (fun _ _ _ h => h) ?_ ?_ ?_; kernel_rfl; kernel_rfl; kernel_rfl; exact Or.inr ⟨by rfl, rfl⟩; exact hH) | (refine wpAnyH_take (i := 6) (v := ?_) rfl ?_ ?_ ?_ (fun _ _ _ h => h) ?_ ?_ ?_; rotate_left; kernel_rfl; kernel_rfl; kernel_rfl; (focus (refine Or.inl ⟨by rfl, ?_⟩; intro w' hSw; (try dsimp only at hSw); go_simp)); exact hH) | (refine wpAnyH_take (i := 6) (v := ?_) rfl ?_ ?_ ?_ (fun _ _ _ h => h) ?_ ?_ ?_; rotate_left; kernel_rfl; kernel_rfl; kernel_rfl; (focus (refine Or.inl ⟨by rfl, ?_⟩; intro w' hSw; (try dsimp only at hSw); go_simp; with_reducible rfl)); exact hH)
      try simp only [Act.put, List.getElem_toArray, List.getElem_cons_succ, List.getElem_cons_zero, List.setIfInBounds_toArray, List.set_cons_zero, List.set_cons_succ]
      first | (refine wpAnyH_take (i := 7) (v := undef) rfl ?_ ?_ ?_ (fun _ _ _ h => h) ?_ ?_ ?_; kernel_rfl; kernel_rfl; kernel_rfl; exact Or.inr ⟨by rfl, rfl⟩; exact hH) | (refine wpAnyH_take (i := 7) (v := ?_) rfl ?_ ?_ ?_ (fun _ _ _ h => h) ?_ ?_ ?_; rotate_left; kernel_rfl; kernel_rfl; kernel_rfl; (focus (refine Or.inl ⟨by rfl, ?_⟩; intro w' hSw; (try dsimp only at hSw); go_simp)); exact hH) | (refine wpAnyH_take (i := 7) (v := ?_) rfl ?_ ?_ ?_ (fun _ _ _ h => h) ?_ ?_ ?_; rotate_left; kernel_rfl; kernel_rfl; kernel_rfl; (focus (refine Or.inl ⟨by rfl, ?_⟩; intro w' hSw; (try dsimp only at hSw); go_simp; with_reducible rfl)); exact hH)
      try simp only [Act.put, List.getElem_toArray, List.getElem_cons_succ, List.getElem_cons_zero, List.setIfInBounds_toArray, List.set_cons_zero, List.set_cons_succ]
      first | (refine wpAnyH_take (i := 8) (v := undef) rfl ?_ ?_ ?_ (fun _ _ _ h => h) ?_ ?_ ?_; kernel_rfl; kernel_rfl; kernel_rfl; exact Or.inr ⟨by rfl, rfl⟩; exact hH) | (refine wpAnyH_take (i := 8) (v := ?_) rfl ?_ ?_ ?_ (fun _ _ _ h => h) ?_ ?_ ?_; rotate_left; kernel_rfl; kernel_rfl; kernel_rfl; (focus (refine Or.inl ⟨by rfl, ?_⟩; intro w' hSw; (try dsimp only at hSw); go_simp)); exact hH) | (refine wpAnyH_take (i := 8) (v := ?_) rfl ?_ ?_ ?_ (fun _ _ _ h => h) ?_ ?_ ?_; rotate_left; kernel_rfl; kernel_rfl; kernel_rfl; (focus (refine Or.inl ⟨by rfl, ?_⟩; intro w' hSw; (try dsimp only at hSw); go_simp; with_reducible rfl)); exact hH)
      try simp only [Act.put, List.getElem_toArray, List.getElem_cons_succ, List.getElem_cons_zero, List.setIfInBounds_toArray, List.set_cons_zero, List.set_cons_succ]
      first | (refine wpAnyH_take (i := 9) (v := undef) rfl ?_ ?_ ?_ (fun _ _ _ h => h) ?_ ?_ ?_; kernel_rfl; kernel_rfl; kernel_rfl; exact Or.inr ⟨by rfl, rfl⟩; exact hH) | (refine wpAnyH_take (i := 9) (v := ?_) rfl ?_ ?_ ?_ (fun _ _ _ h => h) ?_ ?_ ?_; rotate_left; kernel_rfl; kernel_rfl; kernel_rfl; (focus (refine Or.inl ⟨by rfl, ?_⟩; intro w' hSw; (try dsimp only at hSw); go_simp)); exact hH) | (refine wpAnyH_take (i := 9) (v := ?_) rfl ?_ ?_ ?_ (fun _ _ _ h => h) ?_ ?_ ?_; rotate_left; kernel_rfl; kernel_rfl; kernel_rfl; (focus (refine Or.inl ⟨by rfl, ?_⟩; intro w' hSw; (try dsimp only at hSw); go_simp; with_reducible rfl)); exact hH)
      try simp only [Act.put, List.getElem_toArray, List.getElem_cons_succ, List.getElem_cons_zero, List.setIfInBounds_toArray, List.set_cons_zero, List.set_cons_succ]
      first | (refine wpAnyH_take (i := 10) (v := undef) rfl ?_ ?_ ?_ (fun _ _ _ h => h) ?_ ?_ ?_; kernel_rfl; kernel_rfl; kernel_rfl; exact Or.inr ⟨by rfl, rfl⟩; exact hH) | (refine wpAnyH_take (i := 10) (v := ?_) rfl ?_ ?_ ?_ (fun _ _ _ h => h) ?_ ?_ ?_; rotate_left; kernel_rfl; kernel_rfl; kernel_rfl; (focus (refine Or.inl ⟨by rfl, ?_⟩; intro w' hSw; (try dsimp only at hSw); go_simp)); exact hH) | (refine wpAnyH_take (i := 10) (v := ?_) rfl ?_ ?_ ?_ (fun _ _ _ h => h) ?_ ?_ ?_; rotate_left; kernel_rfl; kernel_rfl; kernel_rfl; (focus (refine Or.inl ⟨by rfl, ?_⟩; intro w' hSw; (try dsimp only at hSw); go_simp; with_reducible rfl)); exact hH)
      try simp only [Act.put, List.getElem_toArray, List.getElem_cons_succ, List.getElem_cons_zero, List.setIfInBounds_toArray, List.set_cons_zero, List.set_cons_succ]
      refine wpAnyH_ready (rs := [11]) (by kernel_rfl) (by simp) ?_
      refine AllReadyH.cons rfl (fun K hK => ?_) AllReadyH.nil
      go_simp
      with_reducible refine (ST.out _ (HQ.out.next (below_of_drew (Below.refl _ _)))).mono ?_
      rintro e w1 ⟨rfl, hq2, hf2⟩
      have hb1 : Below w.heap.size w w1 := (HB0.out.drew.trans (hf2.below (B := w.heap.size) (by simpa using HB0.out.size) (fun k hk e => by omega)))
      try go_wp2_with fail
      refine hK.out _ _ (K5.out _ hb1) (fun hH1 => ?_)
      clear hK K hH
      have hH := hH1
      clear hH1
      try simp only [Act.put, List.getElem_toArray, List.getElem_cons_succ, List.getElem_cons_zero, List.setIfInBounds_toArray, List.set_cons_zero, List.set_cons_succ]
      refine wpAnyH_done (by kernel_rfl) ?_ _
      refine NoPanic.normal ?_
      clear hH
      go_wp2_with fail
      go_roundg gm
      case rel => exact ⟨i + 1, by omega, by go_num, by rw [EX.out, EF.out, ER.out]; exact hq2, hb1⟩
      case measure => omega
    · obtain rfl : gk = 0 := by omega
      obtain rfl : i = n := by omega
      have HB0 := Lib.hid B0
      clear B0
      go_wp2_with fail
      go_ret
      exact ⟨p, rfl, hp', HQ.out, HB0.out⟩

end Go.Proofs.Ytdkeoanlcninkaa
