/-
  Chapter 9's examples.
-/
import Derived.Test.YtjlnbpomncglcaaProg
import Derived.Test.YtjlnbpomncglcaaAugE
namespace Go.Proofs.Ytjlnbpomncglcaa
set_option linter.unusedVariables false
set_option linter.unusedSimpArgs false
set_option maxRecDepth 100000
open Go.RowKit Go.Shelf

attribute [local go_sem] Oper.semAt_some

theorem aug_awake (w : World) : Calls Try.prog 43 #[] w fun e w' => e = .returned (.bool true) ∧ Below w.heap.size w w' := by
  go_enter Try.func43, Try.ntmps43
  go_wp2_with fail
  with_reducible refine (ag_new w).mono ?_
  rintro e w0 ⟨U, S0, rfl, h1, h2, h3⟩
  have HT0 : Hid (AugNew w w0 U []) := ⟨S0, h1, h2, h3⟩
  clear h1 h2 h3
  obtain ⟨S0a, g1, g2⟩ := HT0.out
  have P0 := Lib.hid (ag_put U S0a [] 1 5 9 w0 g1 (by decide))
  have HG0 := Lib.hid g2
  rw [show aput 1 5 9 [] = [((5, 1), 9)] from by decide] at P0
  clear g1 g2
  go_wp2_with fail
  with_reducible refine (P0.out).mono ?_
  rintro e w1 ⟨rfl, ht⟩
  have HT1 : Hid (AugNew w w1 U [((5, 1), 9)]) := AugNew.step HG0.out ht
  clear ht P0
  obtain ⟨S1a, g1, g2⟩ := HT1.out
  have P1 := Lib.hid (ag_put U S1a [((5, 1), 9)] 2 3 7 w1 g1 (by decide))
  have HG1 := Lib.hid g2
  rw [show aput 2 3 7 [((5, 1), 9)] = [((3, 2), 7), ((5, 1), 9)] from by decide] at P1
  clear g1 g2
  go_wp2_with fail
  with_reducible refine (P1.out).mono ?_
  rintro e w2 ⟨rfl, ht⟩
  have HT2 : Hid (AugNew w w2 U [((3, 2), 7), ((5, 1), 9)]) := AugNew.step HG1.out ht
  clear ht P1
  obtain ⟨S2a, g1, g2⟩ := HT2.out
  have P2 := Lib.hid (ag_put U S2a [((3, 2), 7), ((5, 1), 9)] 3 5 7 w2 g1 (by decide))
  have HG2 := Lib.hid g2
  rw [show aput 3 5 7 [((3, 2), 7), ((5, 1), 9)] = [((3, 2), 7), ((5, 1), 9), ((5, 3), 7)] from by decide] at P2
  clear g1 g2
  go_wp2_with fail
  with_reducible refine (P2.out).mono ?_
  rintro e w3 ⟨rfl, ht⟩
  have HT3 : Hid (AugNew w w3 U [((3, 2), 7), ((5, 1), 9), ((5, 3), 7)]) := AugNew.step HG2.out ht
  clear ht P2
  obtain ⟨S3a, g1, g2⟩ := HT3.out
  have Q3 := Lib.hid (ag_least U S3a [((3, 2), 7), ((5, 1), 9), ((5, 3), 7)] 4 w3 g1)
  have HG3 : Hid (∀ w', Below w3.heap.size w3 w' → AugNew w w' U [((3, 2), 7), ((5, 1), 9), ((5, 3), 7)]) := fun w' hb => HT3.out.next hb
  rw [show uptoH 4 [(((3, 2) : RK), (7 : Int)), ((5, 1), 9), ((5, 3), 7)] = some (7, 2) from by first | rfl | decide] at Q3
  clear g1 g2
  go_wp2_with fail
  with_reducible refine (Q3.out).mono ?_
  rintro e w4 ⟨rfl, hb⟩
  have HT4 := Lib.hid (HG3.out _ hb)
  clear hb Q3
  obtain ⟨S4a, g1, g2⟩ := HT4.out
  have Q4 := Lib.hid (ag_least U S4a [((3, 2), 7), ((5, 1), 9), ((5, 3), 7)] 5 w4 g1)
  have HG4 : Hid (∀ w', Below w4.heap.size w4 w' → AugNew w w' U [((3, 2), 7), ((5, 1), 9), ((5, 3), 7)]) := fun w' hb => HT4.out.next hb
  rw [show uptoH 5 [(((3, 2) : RK), (7 : Int)), ((5, 1), 9), ((5, 3), 7)] = some (7, 2) from by first | rfl | decide] at Q4
  clear g1 g2
  go_wp2_with fail
  with_reducible refine (Q4.out).mono ?_
  rintro e w5 ⟨rfl, hb⟩
  have HT5 := Lib.hid (HG4.out _ hb)
  clear hb Q4
  obtain ⟨S5a, g1, g2⟩ := HT5.out
  have Q5 := Lib.hid (ag_least U S5a [((3, 2), 7), ((5, 1), 9), ((5, 3), 7)] 2 w5 g1)
  have HG5 : Hid (∀ w', Below w5.heap.size w5 w' → AugNew w w' U [((3, 2), 7), ((5, 1), 9), ((5, 3), 7)]) := fun w' hb => HT5.out.next hb
  rw [show uptoH 2 [(((3, 2) : RK), (7 : Int)), ((5, 1), 9), ((5, 3), 7)] = none from by first | rfl | decide] at Q5
  clear g1 g2
  go_wp2_with fail
  with_reducible refine (Q5.out).mono ?_
  rintro e w6 ⟨rfl, hb⟩
  have HT6 := Lib.hid (HG5.out _ hb)
  clear hb Q5
  obtain ⟨S6a, g1, g2⟩ := HT6.out
  have Q6 := Lib.hid (ag_within U S6a [((3, 2), 7), ((5, 1), 9), ((5, 3), 7)] 7 w6 g1)
  have HG6 : Hid (∀ w', Below w6.heap.size w6 w' → AugNew w w' U [((3, 2), 7), ((5, 1), 9), ((5, 3), 7)]) := fun w' hb => HT6.out.next hb
  rw [show findTo 7 [(((3, 2) : RK), (7 : Int)), ((5, 1), 9), ((5, 3), 7)] = some (3, 2) from by first | rfl | decide] at Q6
  clear g1 g2
  go_wp2_with fail
  with_reducible refine (Q6.out).mono ?_
  rintro e w7 ⟨rfl, hb⟩
  have HT7 := Lib.hid (HG6.out _ hb)
  clear hb Q6
  obtain ⟨S7a, g1, g2⟩ := HT7.out
  have Q7 := Lib.hid (ag_within U S7a [((3, 2), 7), ((5, 1), 9), ((5, 3), 7)] 6 w7 g1)
  have HG7 : Hid (∀ w', Below w7.heap.size w7 w' → AugNew w w' U [((3, 2), 7), ((5, 1), 9), ((5, 3), 7)]) := fun w' hb => HT7.out.next hb
  rw [show findTo 6 [(((3, 2) : RK), (7 : Int)), ((5, 1), 9), ((5, 3), 7)] = none from by first | rfl | decide] at Q7
  clear g1 g2
  go_wp2_with fail
  with_reducible refine (Q7.out).mono ?_
  rintro e w8 ⟨rfl, hb⟩
  have HT8 := Lib.hid (HG7.out _ hb)
  clear hb Q7
  obtain ⟨S8a, g1, g2⟩ := HT8.out
  have Q8 := Lib.hid (ag_lowest U S8a [((3, 2), 7), ((5, 1), 9), ((5, 3), 7)] w8 g1)
  have HG8 : Hid (∀ w', Below w8.heap.size w8 w' → AugNew w w' U [((3, 2), 7), ((5, 1), 9), ((5, 3), 7)]) := fun w' hb => HT8.out.next hb
  rw [show sumFrom ofH minH none [(((3, 2) : RK), (7 : Int)), ((5, 1), 9), ((5, 3), 7)] = some (7, 2) from by first | rfl | decide, show List.isEmpty [(((3, 2) : RK), (7 : Int)), ((5, 1), 9), ((5, 3), 7)] = false from by first | rfl | decide] at Q8
  clear g1 g2
  go_wp2_with fail
  with_reducible refine (Q8.out).mono ?_
  rintro e w9 ⟨rfl, hb⟩
  have HT9 := Lib.hid (HG8.out _ hb)
  clear hb Q8
  obtain ⟨S9a, g1, g2⟩ := HT9.out
  have Q9 := Lib.hid (ag_ids U S9a [((3, 2), 7), ((5, 1), 9), ((5, 3), 7)] w9 g1 (by decide))
  clear g1 g2
  go_wp2_with fail
  with_reducible refine (Q9.out).mono ?_
  rintro e w10 ⟨v, rfl, hv, hb⟩
  have HT10 := Lib.hid (And.intro (HT9.out.next hb) hv)
  clear hb hv Q9
  go_wp2_with fail
  obtain ⟨wz, hwz⟩ : ∃ x, w10.alloc (.cells #[.int .i64 2, .int .i64 1, .int .i64 3] 3) = x := ⟨_, rfl⟩
  have hbz : Below w10.heap.size w10 wz := by rw [← hwz]; exact (Below.refl _ _).alloc (Nat.le_refl _) _
  have bz : Blk wz w10.heap.size 3 #[.int .i64 2, .int .i64 1, .int .i64 3] := by rw [← hwz]; exact Blk.new _ _ _
  rw [hwz]
  clear hwz
  obtain ⟨A, c, rfl, -, -, hi⟩ := ints_of_own HT10.out.2
  rw [show List.length [(((3, 2) : RK), (7 : Int)), ((5, 1), 9), ((5, 3), 7)] = 3 from rfl]
  have HZ := Lib.hid (HT10.out.1.next hbz)
  have hi2 : IntsAt wz A 3 (idAt [((3, 2), 7), ((5, 1), 9), ((5, 3), 7)]) := hi.next hbz
  have hi3 : IntsAt wz (some ⟨w10.heap.size, 0, none⟩) 3 (idAt [((3, 2), 7), ((5, 1), 9), ((5, 3), 7)]) := ⟨fun _ => ⟨_, _, rfl, bz.lt⟩, fun g o e i hi => by
    cases e
    have h3 : i = 0 ∨ i = 1 ∨ i = 2 := by omega
    rcases h3 with rfl | rfl | rfl
    · exact bz.get 0 rfl
    · exact bz.get 1 rfl
    · exact bz.get 2 rfl⟩
  have SM := Lib.hid (ints_same A (some ⟨w10.heap.size, 0, none⟩) 3 c 3 (idAt [((3, 2), 7), ((5, 1), 9), ((5, 3), 7)]) wz hi2 hi3 (by decide))
  clear hi hi2 hi3 bz hbz
  with_reducible refine (SM.out).mono ?_
  rintro e wy ⟨rfl, hb⟩
  have HY := Lib.hid (HZ.out.next hb)
  clear hb SM HZ
  obtain ⟨Sy, g1, g2⟩ := HY.out
  have QL := Lib.hid (ag_len U Sy [((3, 2), 7), ((5, 1), 9), ((5, 3), 7)] wy g1)
  rw [show ((List.length [(((3, 2) : RK), (7 : Int)), ((5, 1), 9), ((5, 3), 7)] : Nat) : Int) = 3 from rfl] at QL
  clear g1 g2
  go_wp2_with fail
  with_reducible refine (QL.out).mono ?_
  rintro e wx ⟨rfl, hb⟩
  have HX := Lib.hid (HY.out.next hb)
  clear hb QL
  go_wp2
  go_ret
  obtain ⟨Sx, g1, g2, g3⟩ := HX.out
  exact ⟨by simp, g3⟩

end Go.Proofs.Ytjlnbpomncglcaa
