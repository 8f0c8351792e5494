/-
  What the document's eye does: numbers.
-/
import Derived.Test.YtbageagobalgbaaProg
import Derived.Test.YtbageagobalgbaaOctR
namespace Go.Proofs.Ytbageagobalgbaa
set_option linter.unusedVariables false
set_option linter.unusedSimpArgs false
set_option maxRecDepth 100000
open Go.RowKit

theorem drop_cons {l : List Nat} {q : Nat} (h : q < l.length) : l.drop q = l.getD q 0 :: l.drop (q + 1) := by
  rw [List.drop_eq_getElem_cons h]
  congr 1
  simp [List.getD, h]
theorem take_getD {l : List Nat} {q j : Nat} (h : q < j) : (l.take j).getD q 0 = l.getD q 0 := by
  simp [List.getD, List.getElem?_take, h]

theorem bs_neq {a b : ByteArray} (h : ¬ a = b) : (a.toList == b.toList) = false := by
  rw [beq_eq_false_iff_ne]
  intro e
  rw [ByteArray.toList_eq, ByteArray.toList_eq] at e
  exact h (ByteArray.ext (Array.toList_inj.1 e))
set_option maxHeartbeats 4000000 in
theorem reyeNum (g : Nat) (l : List Nat) (f : Bool) (w : World) (h : REyeAt w g l f) (hl : l.length ≤ 1000000) :
    Calls Try.prog 21 #[.pointer (some ⟨g, 0, none⟩)] w fun e w' => e = .returned (.int .u64 (numR l)) ∧ REyeTo g (numL l) (numF l) w w' := by
  have c0 := h.c0
  have f0 := Blk.frozen h.1 0
  have hbb := h.2.1
  have hgl : g < w.heap.size := Blk.lt h.1
  have HB := Lib.hid hbb
  have H := Lib.hid h
  have hsz := bs_size l
  clear h hbb
  go_enter Try.func21, Try.ntmps21
  go_wp2_with fail
  go_loopg [3] l.length (fun gk en wr => ∃ j : Nat, j + gk = l.length ∧ en = .int .i64 j ∧ (∀ q, q < j → 128 ≤ l.getD q 0) ∧ wr = w)
  case atStart => exact ⟨0, by omega, rfl, fun q hq => absurd hq (by omega), rfl⟩
  case round =>
    obtain ⟨j, hj, rfl, hall, rfl⟩ := hrel
    have HA := Lib.hid hall
    clear hall
    by_cases hlt : j < l.length
    · have hlt2 : j < (bs l).size := by omega
      have hat := bs_at l j HB.out hlt2
      obtain ⟨b, hb⟩ : ∃ b, l.getD j 0 = b := ⟨_, rfl⟩
      rw [hb] at hat
      have HBJ := Lib.hid hb
      clear hb
      by_cases h128 : 128 ≤ b
      · have h128' : (128 : Int) ≤ (b : Int) := by omega
        go_wp2_with fail
        go_roundg (gk - 1)
        case rel => exact ⟨j + 1, by omega, by go_num, fun q hq => by
                      rcases Nat.lt_or_ge q j with h' | h'
                      · exact HA.out q h'
                      · obtain rfl : q = j := by omega
                        rw [HBJ.out]; exact h128, rfl⟩
        case measure => omega
      · have h128' : ¬ (128 : Int) ≤ (b : Int) := by omega
        have hz : Hid (j < l.length → l.getD j 0 < 128) := fun _ => by rw [HBJ.out]; omega
        by_cases h9 : 9 < j
        · have R := Lib.hid (num_none (dec_none_of HB.out HA.out hz.out (by omega) (.inr (.inl h9))))
          have h9' : (9 : Int) < (j : Int) := by omega
          go_wp2_with fail
          with_reducible refine (reyeFail g _ _ _ H.out).mono ?_
          rintro e w1 ⟨rfl, hp⟩
          have HP := Lib.hid hp
          clear hp
          go_wp2_with fail
          go_ret
          refine ⟨retInt (by rw [R.out.1]; rfl), ?_⟩
          rw [R.out.2.1, R.out.2.2]
          exact HP.out
        · have h9' : ¬ (9 : Int) < (j : Int) := by omega
          obtain ⟨P, hP⟩ : ∃ P, l.take (j + 1) = P := ⟨_, rfl⟩
          have HPP := Lib.hid hP
          have hPl : P.length = j + 1 := by rw [← hP, List.length_take]; omega
          have HPl := Lib.hid hPl
          clear hP hPl
          obtain ⟨go, rfl⟩ : ∃ x : Nat, x = gk := ⟨_, rfl⟩
          obtain ⟨wo, rfl⟩ : ∃ x : World, x = wr := ⟨_, rfl⟩
          go_wp2_with fail
          clear hat h128'
          go_loopg [4, 5] (j + 1) (fun gk nv iv wr => ∃ (z : Int) (q v : Nat), z ≤ (q : Int) - 1 ∧ (q : Int) - 1 ≤ z ∧ q ≤ gk ∧ q ≤ j + 1 ∧ iv = .int .i64 z ∧ nv = .int .u64 v ∧ v = valB (P.drop q) ∧ wr = wo)
          case atStart => exact ⟨j, j + 1, 0, by omega, by omega, by omega, by omega, rfl, rfl, by rw [List.drop_of_length_le (by have := HPl.out; omega)]; rfl, rfl⟩
          case round =>
            obtain ⟨z, q, v, hz1, hz2, hqg, hqj, rfl, rfl, hv, rfl⟩ := hrel
            have HV := Lib.hid hv
            clear hv
            by_cases hz0 : 0 ≤ z
            · obtain ⟨d, rfl⟩ := Int.eq_ofNat_of_zero_le hz0
              have hdq : q = d + 1 := by omega
              have hd2 : d < (bs l).size := by omega
              have hat := bs_at l d HB.out hd2
              obtain ⟨b, hb⟩ : ∃ b, l.getD d 0 = b := ⟨_, rfl⟩
              rw [hb] at hat
              have hnew : Hid (valB (P.drop d) = (128 * v + b % 128) % 18446744073709551616) := by
                unfold Hid
                have e1 : P.getD d 0 = b := by rw [← HPP.out, take_getD (by omega), hb]
                rw [drop_cons (by have := HPl.out; omega), e1, valB, HV.out, hdq]
              clear hb
              go_wp2_with fail
              go_roundg (gk - 1)
              case rel => exact ⟨(d : Int) - 1, d, valB (P.drop d), by omega, by omega, by omega, by omega, by go_num, by rw [hnew.out]; congr 1; rw [IntKind.wrap_u64, IntKind.wrap_u64]; omega, rfl, rfl⟩
              case measure => omega
            · obtain rfl : q = 0 := by omega
              have hvv : Hid (v = valB P) := by rw [List.drop_zero] at HV; exact HV
              have hvlt : v < 18446744073709551616 := by rw [hvv.out]; exact valB_lt _
              have cut := bs_take' l (j + 1) (by omega)
              have cut2 := bs_drop' l (j + 1) (by omega)
              rw [HPP.out] at cut
              have RN := Lib.hid (fun w => refNum v w hvlt)
              have s1 : IntKind.i64.wrap ((j : Int) + 1) = (j : Int) + 1 := by rw [IntKind.wrap_i64]; omega
              have s2 : (0 : Int) ≤ (j : Int) + 1 := by omega
              have s3 : (j : Int) + 1 ≤ (l.length : Int) := by omega
              have s4 : ((j : Int) + 1).toNat = j + 1 := by omega
              have s5 : (j : Int) + 1 ≤ ((bs l).size : Int) := by omega
              by_cases heq : numB v = P
              · have R := Lib.hid (num_some (dec_some_of (l := l) (j := j) (by rw [HPP.out, ← hvv.out]; exact heq)))
                rw [heq] at RN
                go_wp2_with fail
                go_region_held3 (fun w' => w'.cell? ⟨g, 0, none⟩ = some (.string (bs l))) (first | assumption | go_keep)
                  (first | (go_at_call 38; refine (RN.out _).mono ?_; rintro e w1 ⟨rfl, hb1⟩; have HB1 := Lib.hid hb1; have hk := (hb1.cell (p := ⟨g, 0, none⟩) (by simp; omega)).trans (show _ = some (Value.string (bs l)) by simpa using c0); clear hb1))
                have E1 := Lib.hid (H.out.below (below_next (by go_grown) HB1.out))
                have F1 := Lib.hid (Fr.of_new (S := fun k => k = g) (below_next (by go_grown) HB1.out : Below wr.heap.size wr w1))
                have hf1 : w1.frozen? ⟨g, 0, none⟩ = false := Blk.frozen E1.out.1 0
                go_wp2_with fail
                go_ret
                have hnf : f = false := by
                  cases f with
                  | false => rfl
                  | true => have := H.out.2.2 rfl; subst this; exact absurd hlt (by simp)
                refine ⟨retInt (by rw [R.out.1, ← HPP.out.symm, ← hvv.out]), ?_⟩
                rw [R.out.2.1, R.out.2.2]
                refine ⟨⟨?_, fun y hy => HB.out y (List.mem_of_mem_drop hy), fun e => by cases e⟩, F1.out.setCell (p := ⟨g, 0, none⟩) (fun _ => rfl) _⟩
                have := Blk.put E1.out.1 0 (.string (bs (l.drop (j + 1))))
                rw [hnf] at this
                exact this
              · have R := Lib.hid (num_none (dec_none_of HB.out HA.out hz.out (by omega) (.inr (.inr (by rw [HPP.out, ← hvv.out]; exact heq)))))
                have q0 : ¬ bs (numB v) = bs P := fun e => heq (bs_inj (bytes_num v) (fun y hy => HB.out y (List.mem_of_mem_take (by rw [HPP.out]; exact hy))) e)
                have q1 : ((bs (numB v)).toList == (bs P).toList) = false := bs_neq q0
                clear q0
                go_wp2_with fail
                go_region_held3 (fun w' => w'.cell? ⟨g, 0, none⟩ = some (.string (bs l))) (first | assumption | go_keep)
                  (first | (go_at_call 38; refine (RN.out _).mono ?_; rintro e w1 ⟨rfl, hb1⟩; have HB1 := Lib.hid hb1; have hk := (hb1.cell (p := ⟨g, 0, none⟩) (by simp; omega)).trans (show _ = some (Value.string (bs l)) by simpa using c0); clear hb1))
                have E1 := Lib.hid (H.out.below (below_next (by go_grown) HB1.out))
                have F1 := Lib.hid (Fr.of_new (S := fun k => k = g) (below_next (by go_grown) HB1.out : Below wr.heap.size wr w1))
                have hf1 : w1.frozen? ⟨g, 0, none⟩ = false := Blk.frozen E1.out.1 0
                go_wp2_with fail
                with_reducible refine (reyeFail g _ _ _ E1.out).mono ?_
                rintro e w2 ⟨rfl, hp⟩
                have HP := Lib.hid hp
                clear hp
                go_wp2_with fail
                go_ret
                refine ⟨retInt (by rw [R.out.1]; rfl), ?_⟩
                rw [R.out.2.1, R.out.2.2]
                exact REyeTo.next F1.out HP.out
    · obtain rfl : j = l.length := by omega
      have R := Lib.hid (num_none (dec_none_of HB.out HA.out (fun h' => absurd h' hlt) (by omega) (.inl (Nat.le_refl _))))
      go_wp2_with fail
      with_reducible refine (reyeFail g _ _ _ H.out).mono ?_
      rintro e w1 ⟨rfl, hp⟩
      have HP := Lib.hid hp
      clear hp
      go_wp2_with fail
      go_ret
      refine ⟨retInt (by rw [R.out.1]; rfl), ?_⟩
      rw [R.out.2.1, R.out.2.2]
      exact HP.out

theorem reyeInt (g : Nat) (l : List Nat) (f : Bool) (w : World) (h : REyeAt w g l f) (hl : l.length ≤ 1000000) :
    Calls Try.prog 22 #[.pointer (some ⟨g, 0, none⟩)] w fun e w' => e = .returned (.int .i64 (unz (numR l))) ∧ REyeTo g (numL l) (numF l) w w' := by
  have NU := Lib.hid (fun w h => reyeNum g l f w h hl)
  have H := Lib.hid h
  have hn := numR_word l h.2.1
  clear h
  obtain ⟨n, en⟩ : ∃ n, numR l = n := ⟨_, rfl⟩
  rw [en] at hn NU ⊢
  clear en
  rcases (show n % 2 = 0 ∨ n % 2 = 1 by omega) with h0 | h0
  · have a : ((n : Int) % 2 == 0) = true := beq_iff_eq.2 (by omega)
    have a2 : (n : Int) % 2 = 0 := by omega
    go_enter Try.func22, Try.ntmps22
    go_wp2_with fail
    with_reducible refine (NU.out _ H.out).mono ?_
    rintro e w1 ⟨rfl, hp⟩
    have HP := Lib.hid hp
    clear hp
    go_wp2_with fail
    go_ret
    exact ⟨retInt (by unfold unz; rw [if_pos h0]; rfl), HP.out⟩
  · have a : ((n : Int) % 2 == 0) = false := beq_eq_false_iff_ne.2 (by omega)
    have a2 : (n : Int) % 2 = 1 := by omega
    go_enter Try.func22, Try.ntmps22
    go_wp2_with fail
    with_reducible refine (NU.out _ H.out).mono ?_
    rintro e w1 ⟨rfl, hp⟩
    have HP := Lib.hid hp
    clear hp
    go_wp2_with fail
    go_ret
    exact ⟨retInt (by unfold unz; rw [if_neg (by omega)]; rfl), HP.out⟩

end Go.Proofs.Ytbageagobalgbaa
