/-
  The walk of the law OctetReads: whatever bytes are read as whatever things: each is what the chapter says.
-/
import Derived.Test.YtdlpnhplldnlbaaProg
import Derived.Test.YtdlpnhplldnlbaaOctS
namespace Go.Proofs.Ytdlpnhplldnlbaa
set_option linter.unusedVariables false
set_option linter.unusedSimpArgs false
set_option maxRecDepth 100000
open Go.RowKit

theorem quiet_left {P : Program} {f : FuncId} {args : Array Value} {w : World} {n : Nat} {v : Value}
    (h : Calls P f args (w.drewN n) fun e w' => e = .returned v ∧ w.drewN n = w') : Calls P f args (w.drewN n) fun e w'' => e = .returned v ∧ ∃ m, w'' = w.drewN m :=
  h.mono fun _ _ ⟨he, hm⟩ => ⟨he, n, hm.symm⟩
theorem endE_done (l : List Nat) (f : Bool) : (endE l f == 0) = doneB l f := by
  unfold endE doneB
  cases f <;> cases l <;> rfl

theorem len_Byte (l : List Nat) : (byteL l).length ≤ l.length := by cases l <;> simp [byteL]
theorem dec_len : ∀ (l : List Nat) (i n : Nat) (t : List Nat), decB i l = some (n, t) → t.length ≤ l.length := by
  intro l
  induction l with
  | nil => intro i n t h; simp [decB] at h
  | cons b l ih =>
    intro i n t h
    rw [decB] at h
    split at h
    · cases h
    · split at h
      · simp only [Option.some.injEq, Prod.mk.injEq] at h
        obtain ⟨_, rfl⟩ := h
        simp
      · split at h
        · cases h
        · rename_i v t' hv
          simp only [Option.some.injEq, Prod.mk.injEq] at h
          obtain ⟨_, rfl⟩ := h
          have := ih _ _ _ hv
          rw [List.length_cons]; omega
theorem len_Num (l : List Nat) : (numL l).length ≤ l.length := by
  unfold numL
  cases h : decB 0 l with
  | none => simp
  | some p => obtain ⟨n, t⟩ := p; exact dec_len l 0 n t h
theorem len_Int (l : List Nat) : (numL l).length ≤ l.length := len_Num l
theorem len_Flag (l : List Nat) : (flagL l).length ≤ l.length := by
  unfold flagL; split
  · simp
  · exact len_Byte l

set_option maxHeartbeats 8000000 in
theorem octetReads_at (S : List Nat) (A : Option Addr) (n c : Nat) (K N : Nat → Int) (at_ : Int) (w : World) (hm : n ≤ maxLen) (hA : 0 < n → ∃ b off, A = some ⟨b, off, none⟩ ∧ b < w.heap.size)
    (hK : ∀ i, i < n → 0 ≤ K i ∧ K i ≤ 255) (hS : Bytes S) (hSl : S.length ≤ 9223372036854775807) 
    (hC0 : ∀ b off, A = some ⟨b, off, none⟩ → ∀ i, i < n → w.cell? ⟨b, off + (i * 2 + 0), none⟩ = some (.int .u8 (K i))) :
    Calls Try.prog 4 #[.string (bs S), .slice A n c, .int .i64 at_] w fun e w' => e = .returned (.bool true) ∧ Below w.heap.size w w' := by
  unfold maxLen at hm
  have hsz := bs_size S
  by_cases h1 : 3000 < S.length
  · clear hA hK hC0
    go_enter Try.func4, Try.ntmps4
    go_wp2_with fail
    go_ret
    exact ⟨rfl, by go_grown⟩
  by_cases h2 : 100 < n
  · clear hA hK hC0
    go_enter Try.func4, Try.ntmps4
    go_wp2_with fail
    go_ret
    exact ⟨rfl, by go_grown⟩
  have h1 : S.length ≤ 3000 := by omega
  have h2 : n ≤ 100 := by omega
  clear hSl
  have HK := Lib.hid hK
  have HC0 := Lib.hid hC0
  have HA := Lib.hid hA
  have OA := Lib.hid (fun w => eyeOpen S w hS)
  have HSb := Lib.hid hS
  clear hK hC0 hA hS
  go_enter Try.func4, Try.ntmps4
  go_wp2_with fail
  with_reducible refine (OA.out _).mono ?_
  rintro e w2 ⟨rfl, he, hb2⟩
  obtain ⟨ey, hey⟩ : ∃ o, w.heap.size = o := ⟨_, rfl⟩
  have hge : w.heap.size ≤ ey := by omega
  rw [hey] at he
  rw [hey]
  have E2 := Lib.hid he
  have hes : ey < w2.heap.size := Blk.lt he.1
  have HB2 := Lib.hid hb2
  clear he hb2 hey
  go_wp2_with fail
  obtain ⟨ry, hry⟩ : ∃ g, w2.heap.size = g := ⟨_, rfl⟩
  have R3 : Hid (REyeAt (w2.alloc (.cells #[.string (bs S), .bool false] 45)) ry S false) := ⟨by rw [← hry]; exact Blk.new _ _ _, HSb.out, fun e => by cases e⟩
  have HB3 : Hid (Below w.heap.size w (w2.alloc (.cells #[.string (bs S), .bool false] 45))) := below_next HB2.out ((Below.refl _ _).alloc (Nat.le_refl _) _)
  have E3 : Hid (EyeAt (w2.alloc (.cells #[.string (bs S), .bool false] 45)) ey S false) := E2.out.below ((Below.refl _ _).alloc (Nat.le_refl _) _)
  have hgr : w.heap.size ≤ ry := by omega
  have hne : ey < ry := by omega
  rw [hry]
  obtain ⟨w3, hw3⟩ : ∃ W0, (w2.alloc (.cells #[.string (bs S), .bool false] 45)) = W0 := ⟨_, rfl⟩
  rw [hw3] at R3 HB3 E3
  rw [hw3]
  clear hry hw3 HB2 E2 hes
  go_loopg [9] n (fun gk ix wr => ∃ (i : Nat) (l : List Nat) (f : Bool), i + gk = n ∧ ix = .int .i64 i ∧ l.length ≤ 3000 ∧ EyeAt wr ey l f ∧ REyeAt wr ry l f ∧ Below w.heap.size w wr)
  case atStart => exact ⟨0, S, false, by omega, rfl, h1, E3.out, R3.out, HB3.out⟩
  case round =>
    obtain ⟨i, l, f, hi, rfl, hlen, hE, hR, hB⟩ := hrel
    have E := Lib.hid hE
    have R := Lib.hid hR
    have HB := Lib.hid hB
    clear hE hR hB E3 R3 HB3 OA HSb
    by_cases hlt : i < n
    · obtain ⟨bA, off, rfl, hbA⟩ := HA.out (by omega)
      have ck0 := HC0.out _ _ rfl i hlt
      have cw0 : wr.cell? ⟨bA, off + i * 2, none⟩ = some (.int .u8 (K i)) := (HB.out.cell (p := ⟨bA, off + i * 2, none⟩) hbA).trans ck0
      obtain ⟨k0, k1⟩ := HK.out i hlt
      obtain ⟨k, hkk⟩ : ∃ x, K i = x := ⟨_, rfl⟩
      rw [hkk] at k0 k1 cw0 ck0
      have ck0 : w.cell? ⟨bA, off + i * 2, none⟩ = some (.int .u8 k) := ck0
      have CK := Lib.hid ck0
      clear ck0 HC0 HA HK hkk
      rcases (show k % 4 = 0 ∨ k % 4 = 1 ∨ k % 4 = 2 ∨ k % 4 = 3 by omega) with hk | hk | hk | hk
      · by_cases hat : (i : Int) = at_
        · have hat2 : ((i : Int) == at_) = true := beq_iff_eq.2 hat
          clear hat
          go_wp2_with fail
          with_reducible refine (eyeFail ey _ _ _ E.out).mono ?_
          rintro e w3 ⟨rfl, hq⟩
          have E3 := Lib.hid hq.1
          have R3 := Lib.hid (R.out.fr hq.2 (by omega))
          have HB3 := Lib.hid (hq.old HB.out hge)
          clear hq cw0
          go_wp2_with fail
          with_reducible refine (reyeFail ry _ _ _ R3.out).mono ?_
          rintro e w4 ⟨rfl, hq⟩
          clear E R HB hlen
          have R := Lib.hid hq.1
          have E := Lib.hid (E3.out.fr hq.2 (by omega))
          have HB := Lib.hid (hq.old HB3.out hgr)
          clear hq E3 R3 HB3
          have cw0 : w4.cell? ⟨bA, off + i * 2, none⟩ = some (.int .u8 k) := (HB.out.cell (p := ⟨bA, off + i * 2, none⟩) hbA).trans CK.out
          obtain ⟨l, hl⟩ : ∃ l : List Nat, [] = l := ⟨_, rfl⟩
          obtain ⟨f, hf⟩ : ∃ l : Bool, true = l := ⟨_, rfl⟩
          have hlen : l.length ≤ 3000 := by rw [← hl]; simp
          rw [hl, hf] at E R
          clear hl hf
          have CE := Lib.hid (fun w h => eyeByte ey l f w h)
          have CR := Lib.hid (fun w h => reyeByte ry l f w h)
          have hL0 := len_Byte l
          obtain ⟨v, hv⟩ : ∃ v, byteR l = v := ⟨_, rfl⟩
          obtain ⟨L, hL⟩ : ∃ v, byteL l = v := ⟨_, rfl⟩
          obtain ⟨F, hF⟩ : ∃ v, byteF l f = v := ⟨_, rfl⟩
          rw [hv, hL, hF] at CE CR
          rw [hL] at hL0
          have hL1 : L.length ≤ 3000 := by omega
          obtain ⟨d, hd⟩ : ∃ d, doneB L F = d := ⟨_, rfl⟩
          have hEnd : (endE L F == 0) = d := by rw [endE_done, hd]
          have HD := Lib.hid hd
          clear hv hL hF hd hL0
          go_wp2_with fail
          with_reducible refine (CE.out _ E.out).mono ?_
          rintro e w5 ⟨rfl, hq⟩
          have E5 := Lib.hid hq.1
          have R5 := Lib.hid (R.out.fr hq.2 (by omega))
          have HB5 := Lib.hid (hq.old HB.out hge)
          clear hq cw0
          go_wp2_with fail
          with_reducible refine (CR.out _ R5.out).mono ?_
          rintro e w6 ⟨rfl, hq⟩
          have R6 := Lib.hid hq.1
          have E6 := Lib.hid (E5.out.fr hq.2 (by omega))
          have HB6 := Lib.hid (hq.old HB5.out hgr)
          clear hq
          have c0 := R6.out.c0
          have c1 := R6.out.c1
          have sL := bs_size L
          have bF : (F != F) = false := by cases F <;> rfl
          have bL : ((L.length : Int) != (L.length : Int)) = false := by simp
          have bD : (d != d) = false := by cases d <;> rfl
          have QF : Hid (∀ q, Calls Try.prog 30 #[.pointer (some ⟨ey, 0, none⟩)] (w6.drewN q) fun e w'' => e = .returned (.bool F) ∧ ∃ m, w'' = w6.drewN m) := fun q => quiet_left (eyeFailed ey L F _ ⟨E6.out.1.drewN q, E6.out.2⟩)
          have QL : Hid (∀ q, Calls Try.prog 31 #[.pointer (some ⟨ey, 0, none⟩)] (w6.drewN q) fun e w'' => e = .returned (.int .i64 L.length) ∧ ∃ m, w'' = w6.drewN m) := fun q => quiet_left (eyeLeft ey L F _ ⟨E6.out.1.drewN q, E6.out.2⟩)
          have QE : Hid (∀ q, Calls Try.prog 32 #[.pointer (some ⟨ey, 0, none⟩)] (w6.drewN q) fun e w'' => e = .returned (.int .i64 (endE L F)) ∧ ∃ m, w'' = w6.drewN m) := fun q => quiet_left (eyeEnd ey L F _ ⟨E6.out.1.drewN q, E6.out.2⟩)
          have QD : Hid (∀ q, Calls Try.prog 33 #[.pointer (some ⟨ry, 0, none⟩)] (w6.drewN q) fun e w'' => e = .returned (.bool d) ∧ ∃ m, w'' = w6.drewN m) := fun q => quiet_left (by have := reyeDone ry L F (w6.drewN q) ⟨R6.out.1.drewN q, R6.out.2⟩; rw [HD.out] at this; exact this)
          go_wp2_with fail
          go_quiet ((first | (go_at_call 30; exact QF.out _) | (go_at_call 31; exact QL.out _) | (go_at_call 32; exact QE.out _) | (go_at_call 33; exact QD.out _)))
          go_wp2_with fail
          go_roundg (gk - 1)
          case rel => exact ⟨i + 1, L, F, by omega, by go_num, hL1, ⟨E6.out.1.drewN _, E6.out.2⟩, ⟨R6.out.1.drewN _, R6.out.2⟩, below_drewN' HB6.out _⟩
          case measure => omega
        · have hat2 : ((i : Int) == at_) = false := beq_eq_false_iff_ne.2 hat
          clear hat
          have CE := Lib.hid (fun w h => eyeByte ey l f w h)
          have CR := Lib.hid (fun w h => reyeByte ry l f w h)
          have hL0 := len_Byte l
          obtain ⟨v, hv⟩ : ∃ v, byteR l = v := ⟨_, rfl⟩
          obtain ⟨L, hL⟩ : ∃ v, byteL l = v := ⟨_, rfl⟩
          obtain ⟨F, hF⟩ : ∃ v, byteF l f = v := ⟨_, rfl⟩
          rw [hv, hL, hF] at CE CR
          rw [hL] at hL0
          have hL1 : L.length ≤ 3000 := by omega
          obtain ⟨d, hd⟩ : ∃ d, doneB L F = d := ⟨_, rfl⟩
          have hEnd : (endE L F == 0) = d := by rw [endE_done, hd]
          have HD := Lib.hid hd
          clear hv hL hF hd hL0
          go_wp2_with fail
          with_reducible refine (CE.out _ E.out).mono ?_
          rintro e w5 ⟨rfl, hq⟩
          have E5 := Lib.hid hq.1
          have R5 := Lib.hid (R.out.fr hq.2 (by omega))
          have HB5 := Lib.hid (hq.old HB.out hge)
          clear hq cw0
          go_wp2_with fail
          with_reducible refine (CR.out _ R5.out).mono ?_
          rintro e w6 ⟨rfl, hq⟩
          have R6 := Lib.hid hq.1
          have E6 := Lib.hid (E5.out.fr hq.2 (by omega))
          have HB6 := Lib.hid (hq.old HB5.out hgr)
          clear hq
          have c0 := R6.out.c0
          have c1 := R6.out.c1
          have sL := bs_size L
          have bF : (F != F) = false := by cases F <;> rfl
          have bL : ((L.length : Int) != (L.length : Int)) = false := by simp
          have bD : (d != d) = false := by cases d <;> rfl
          have QF : Hid (∀ q, Calls Try.prog 30 #[.pointer (some ⟨ey, 0, none⟩)] (w6.drewN q) fun e w'' => e = .returned (.bool F) ∧ ∃ m, w'' = w6.drewN m) := fun q => quiet_left (eyeFailed ey L F _ ⟨E6.out.1.drewN q, E6.out.2⟩)
          have QL : Hid (∀ q, Calls Try.prog 31 #[.pointer (some ⟨ey, 0, none⟩)] (w6.drewN q) fun e w'' => e = .returned (.int .i64 L.length) ∧ ∃ m, w'' = w6.drewN m) := fun q => quiet_left (eyeLeft ey L F _ ⟨E6.out.1.drewN q, E6.out.2⟩)
          have QE : Hid (∀ q, Calls Try.prog 32 #[.pointer (some ⟨ey, 0, none⟩)] (w6.drewN q) fun e w'' => e = .returned (.int .i64 (endE L F)) ∧ ∃ m, w'' = w6.drewN m) := fun q => quiet_left (eyeEnd ey L F _ ⟨E6.out.1.drewN q, E6.out.2⟩)
          have QD : Hid (∀ q, Calls Try.prog 33 #[.pointer (some ⟨ry, 0, none⟩)] (w6.drewN q) fun e w'' => e = .returned (.bool d) ∧ ∃ m, w'' = w6.drewN m) := fun q => quiet_left (by have := reyeDone ry L F (w6.drewN q) ⟨R6.out.1.drewN q, R6.out.2⟩; rw [HD.out] at this; exact this)
          go_wp2_with fail
          go_quiet ((first | (go_at_call 30; exact QF.out _) | (go_at_call 31; exact QL.out _) | (go_at_call 32; exact QE.out _) | (go_at_call 33; exact QD.out _)))
          go_wp2_with fail
          go_roundg (gk - 1)
          case rel => exact ⟨i + 1, L, F, by omega, by go_num, hL1, ⟨E6.out.1.drewN _, E6.out.2⟩, ⟨R6.out.1.drewN _, R6.out.2⟩, below_drewN' HB6.out _⟩
          case measure => omega
      · by_cases hat : (i : Int) = at_
        · have hat2 : ((i : Int) == at_) = true := beq_iff_eq.2 hat
          clear hat
          go_wp2_with fail
          with_reducible refine (eyeFail ey _ _ _ E.out).mono ?_
          rintro e w3 ⟨rfl, hq⟩
          have E3 := Lib.hid hq.1
          have R3 := Lib.hid (R.out.fr hq.2 (by omega))
          have HB3 := Lib.hid (hq.old HB.out hge)
          clear hq cw0
          go_wp2_with fail
          with_reducible refine (reyeFail ry _ _ _ R3.out).mono ?_
          rintro e w4 ⟨rfl, hq⟩
          clear E R HB hlen
          have R := Lib.hid hq.1
          have E := Lib.hid (E3.out.fr hq.2 (by omega))
          have HB := Lib.hid (hq.old HB3.out hgr)
          clear hq E3 R3 HB3
          have cw0 : w4.cell? ⟨bA, off + i * 2, none⟩ = some (.int .u8 k) := (HB.out.cell (p := ⟨bA, off + i * 2, none⟩) hbA).trans CK.out
          obtain ⟨l, hl⟩ : ∃ l : List Nat, [] = l := ⟨_, rfl⟩
          obtain ⟨f, hf⟩ : ∃ l : Bool, true = l := ⟨_, rfl⟩
          have hlen : l.length ≤ 3000 := by rw [← hl]; simp
          rw [hl, hf] at E R
          clear hl hf
          have CE := Lib.hid (fun w h => eyeNum ey l f w h)
          have CR := Lib.hid (fun w h => reyeNum ry l f w h (by omega))
          have hL0 := len_Num l
          obtain ⟨v, hv⟩ : ∃ v, numR l = v := ⟨_, rfl⟩
          obtain ⟨L, hL⟩ : ∃ v, numL l = v := ⟨_, rfl⟩
          obtain ⟨F, hF⟩ : ∃ v, numF l = v := ⟨_, rfl⟩
          rw [hv, hL, hF] at CE CR
          rw [hL] at hL0
          have hL1 : L.length ≤ 3000 := by omega
          obtain ⟨d, hd⟩ : ∃ d, doneB L F = d := ⟨_, rfl⟩
          have hEnd : (endE L F == 0) = d := by rw [endE_done, hd]
          have HD := Lib.hid hd
          clear hv hL hF hd hL0
          go_wp2_with fail
          with_reducible refine (CE.out _ E.out).mono ?_
          rintro e w5 ⟨rfl, hq⟩
          have E5 := Lib.hid hq.1
          have R5 := Lib.hid (R.out.fr hq.2 (by omega))
          have HB5 := Lib.hid (hq.old HB.out hge)
          clear hq cw0
          go_wp2_with fail
          with_reducible refine (CR.out _ R5.out).mono ?_
          rintro e w6 ⟨rfl, hq⟩
          have R6 := Lib.hid hq.1
          have E6 := Lib.hid (E5.out.fr hq.2 (by omega))
          have HB6 := Lib.hid (hq.old HB5.out hgr)
          clear hq
          have c0 := R6.out.c0
          have c1 := R6.out.c1
          have sL := bs_size L
          have bF : (F != F) = false := by cases F <;> rfl
          have bL : ((L.length : Int) != (L.length : Int)) = false := by simp
          have bD : (d != d) = false := by cases d <;> rfl
          have QF : Hid (∀ q, Calls Try.prog 30 #[.pointer (some ⟨ey, 0, none⟩)] (w6.drewN q) fun e w'' => e = .returned (.bool F) ∧ ∃ m, w'' = w6.drewN m) := fun q => quiet_left (eyeFailed ey L F _ ⟨E6.out.1.drewN q, E6.out.2⟩)
          have QL : Hid (∀ q, Calls Try.prog 31 #[.pointer (some ⟨ey, 0, none⟩)] (w6.drewN q) fun e w'' => e = .returned (.int .i64 L.length) ∧ ∃ m, w'' = w6.drewN m) := fun q => quiet_left (eyeLeft ey L F _ ⟨E6.out.1.drewN q, E6.out.2⟩)
          have QE : Hid (∀ q, Calls Try.prog 32 #[.pointer (some ⟨ey, 0, none⟩)] (w6.drewN q) fun e w'' => e = .returned (.int .i64 (endE L F)) ∧ ∃ m, w'' = w6.drewN m) := fun q => quiet_left (eyeEnd ey L F _ ⟨E6.out.1.drewN q, E6.out.2⟩)
          have QD : Hid (∀ q, Calls Try.prog 33 #[.pointer (some ⟨ry, 0, none⟩)] (w6.drewN q) fun e w'' => e = .returned (.bool d) ∧ ∃ m, w'' = w6.drewN m) := fun q => quiet_left (by have := reyeDone ry L F (w6.drewN q) ⟨R6.out.1.drewN q, R6.out.2⟩; rw [HD.out] at this; exact this)
          go_wp2_with fail
          go_quiet ((first | (go_at_call 30; exact QF.out _) | (go_at_call 31; exact QL.out _) | (go_at_call 32; exact QE.out _) | (go_at_call 33; exact QD.out _)))
          go_wp2_with fail
          go_roundg (gk - 1)
          case rel => exact ⟨i + 1, L, F, by omega, by go_num, hL1, ⟨E6.out.1.drewN _, E6.out.2⟩, ⟨R6.out.1.drewN _, R6.out.2⟩, below_drewN' HB6.out _⟩
          case measure => omega
        · have hat2 : ((i : Int) == at_) = false := beq_eq_false_iff_ne.2 hat
          clear hat
          have CE := Lib.hid (fun w h => eyeNum ey l f w h)
          have CR := Lib.hid (fun w h => reyeNum ry l f w h (by omega))
          have hL0 := len_Num l
          obtain ⟨v, hv⟩ : ∃ v, numR l = v := ⟨_, rfl⟩
          obtain ⟨L, hL⟩ : ∃ v, numL l = v := ⟨_, rfl⟩
          obtain ⟨F, hF⟩ : ∃ v, numF l = v := ⟨_, rfl⟩
          rw [hv, hL, hF] at CE CR
          rw [hL] at hL0
          have hL1 : L.length ≤ 3000 := by omega
          obtain ⟨d, hd⟩ : ∃ d, doneB L F = d := ⟨_, rfl⟩
          have hEnd : (endE L F == 0) = d := by rw [endE_done, hd]
          have HD := Lib.hid hd
          clear hv hL hF hd hL0
          go_wp2_with fail
          with_reducible refine (CE.out _ E.out).mono ?_
          rintro e w5 ⟨rfl, hq⟩
          have E5 := Lib.hid hq.1
          have R5 := Lib.hid (R.out.fr hq.2 (by omega))
          have HB5 := Lib.hid (hq.old HB.out hge)
          clear hq cw0
          go_wp2_with fail
          with_reducible refine (CR.out _ R5.out).mono ?_
          rintro e w6 ⟨rfl, hq⟩
          have R6 := Lib.hid hq.1
          have E6 := Lib.hid (E5.out.fr hq.2 (by omega))
          have HB6 := Lib.hid (hq.old HB5.out hgr)
          clear hq
          have c0 := R6.out.c0
          have c1 := R6.out.c1
          have sL := bs_size L
          have bF : (F != F) = false := by cases F <;> rfl
          have bL : ((L.length : Int) != (L.length : Int)) = false := by simp
          have bD : (d != d) = false := by cases d <;> rfl
          have QF : Hid (∀ q, Calls Try.prog 30 #[.pointer (some ⟨ey, 0, none⟩)] (w6.drewN q) fun e w'' => e = .returned (.bool F) ∧ ∃ m, w'' = w6.drewN m) := fun q => quiet_left (eyeFailed ey L F _ ⟨E6.out.1.drewN q, E6.out.2⟩)
          have QL : Hid (∀ q, Calls Try.prog 31 #[.pointer (some ⟨ey, 0, none⟩)] (w6.drewN q) fun e w'' => e = .returned (.int .i64 L.length) ∧ ∃ m, w'' = w6.drewN m) := fun q => quiet_left (eyeLeft ey L F _ ⟨E6.out.1.drewN q, E6.out.2⟩)
          have QE : Hid (∀ q, Calls Try.prog 32 #[.pointer (some ⟨ey, 0, none⟩)] (w6.drewN q) fun e w'' => e = .returned (.int .i64 (endE L F)) ∧ ∃ m, w'' = w6.drewN m) := fun q => quiet_left (eyeEnd ey L F _ ⟨E6.out.1.drewN q, E6.out.2⟩)
          have QD : Hid (∀ q, Calls Try.prog 33 #[.pointer (some ⟨ry, 0, none⟩)] (w6.drewN q) fun e w'' => e = .returned (.bool d) ∧ ∃ m, w'' = w6.drewN m) := fun q => quiet_left (by have := reyeDone ry L F (w6.drewN q) ⟨R6.out.1.drewN q, R6.out.2⟩; rw [HD.out] at this; exact this)
          go_wp2_with fail
          go_quiet ((first | (go_at_call 30; exact QF.out _) | (go_at_call 31; exact QL.out _) | (go_at_call 32; exact QE.out _) | (go_at_call 33; exact QD.out _)))
          go_wp2_with fail
          go_roundg (gk - 1)
          case rel => exact ⟨i + 1, L, F, by omega, by go_num, hL1, ⟨E6.out.1.drewN _, E6.out.2⟩, ⟨R6.out.1.drewN _, R6.out.2⟩, below_drewN' HB6.out _⟩
          case measure => omega
      · by_cases hat : (i : Int) = at_
        · have hat2 : ((i : Int) == at_) = true := beq_iff_eq.2 hat
          clear hat
          go_wp2_with fail
          with_reducible refine (eyeFail ey _ _ _ E.out).mono ?_
          rintro e w3 ⟨rfl, hq⟩
          have E3 := Lib.hid hq.1
          have R3 := Lib.hid (R.out.fr hq.2 (by omega))
          have HB3 := Lib.hid (hq.old HB.out hge)
          clear hq cw0
          go_wp2_with fail
          with_reducible refine (reyeFail ry _ _ _ R3.out).mono ?_
          rintro e w4 ⟨rfl, hq⟩
          clear E R HB hlen
          have R := Lib.hid hq.1
          have E := Lib.hid (E3.out.fr hq.2 (by omega))
          have HB := Lib.hid (hq.old HB3.out hgr)
          clear hq E3 R3 HB3
          have cw0 : w4.cell? ⟨bA, off + i * 2, none⟩ = some (.int .u8 k) := (HB.out.cell (p := ⟨bA, off + i * 2, none⟩) hbA).trans CK.out
          obtain ⟨l, hl⟩ : ∃ l : List Nat, [] = l := ⟨_, rfl⟩
          obtain ⟨f, hf⟩ : ∃ l : Bool, true = l := ⟨_, rfl⟩
          have hlen : l.length ≤ 3000 := by rw [← hl]; simp
          rw [hl, hf] at E R
          clear hl hf
          have CE := Lib.hid (fun w h => eyeInt ey l f w h)
          have CR := Lib.hid (fun w h => reyeInt ry l f w h (by omega))
          have hL0 := len_Int l
          obtain ⟨v, hv⟩ : ∃ v, unz (numR l) = v := ⟨_, rfl⟩
          obtain ⟨L, hL⟩ : ∃ v, numL l = v := ⟨_, rfl⟩
          obtain ⟨F, hF⟩ : ∃ v, numF l = v := ⟨_, rfl⟩
          rw [hv, hL, hF] at CE CR
          rw [hL] at hL0
          have hL1 : L.length ≤ 3000 := by omega
          obtain ⟨d, hd⟩ : ∃ d, doneB L F = d := ⟨_, rfl⟩
          have hEnd : (endE L F == 0) = d := by rw [endE_done, hd]
          have HD := Lib.hid hd
          clear hv hL hF hd hL0
          go_wp2_with fail
          with_reducible refine (CE.out _ E.out).mono ?_
          rintro e w5 ⟨rfl, hq⟩
          have E5 := Lib.hid hq.1
          have R5 := Lib.hid (R.out.fr hq.2 (by omega))
          have HB5 := Lib.hid (hq.old HB.out hge)
          clear hq cw0
          go_wp2_with fail
          with_reducible refine (CR.out _ R5.out).mono ?_
          rintro e w6 ⟨rfl, hq⟩
          have R6 := Lib.hid hq.1
          have E6 := Lib.hid (E5.out.fr hq.2 (by omega))
          have HB6 := Lib.hid (hq.old HB5.out hgr)
          clear hq
          have c0 := R6.out.c0
          have c1 := R6.out.c1
          have sL := bs_size L
          have bF : (F != F) = false := by cases F <;> rfl
          have bL : ((L.length : Int) != (L.length : Int)) = false := by simp
          have bD : (d != d) = false := by cases d <;> rfl
          have QF : Hid (∀ q, Calls Try.prog 30 #[.pointer (some ⟨ey, 0, none⟩)] (w6.drewN q) fun e w'' => e = .returned (.bool F) ∧ ∃ m, w'' = w6.drewN m) := fun q => quiet_left (eyeFailed ey L F _ ⟨E6.out.1.drewN q, E6.out.2⟩)
          have QL : Hid (∀ q, Calls Try.prog 31 #[.pointer (some ⟨ey, 0, none⟩)] (w6.drewN q) fun e w'' => e = .returned (.int .i64 L.length) ∧ ∃ m, w'' = w6.drewN m) := fun q => quiet_left (eyeLeft ey L F _ ⟨E6.out.1.drewN q, E6.out.2⟩)
          have QE : Hid (∀ q, Calls Try.prog 32 #[.pointer (some ⟨ey, 0, none⟩)] (w6.drewN q) fun e w'' => e = .returned (.int .i64 (endE L F)) ∧ ∃ m, w'' = w6.drewN m) := fun q => quiet_left (eyeEnd ey L F _ ⟨E6.out.1.drewN q, E6.out.2⟩)
          have QD : Hid (∀ q, Calls Try.prog 33 #[.pointer (some ⟨ry, 0, none⟩)] (w6.drewN q) fun e w'' => e = .returned (.bool d) ∧ ∃ m, w'' = w6.drewN m) := fun q => quiet_left (by have := reyeDone ry L F (w6.drewN q) ⟨R6.out.1.drewN q, R6.out.2⟩; rw [HD.out] at this; exact this)
          go_wp2_with fail
          go_quiet ((first | (go_at_call 30; exact QF.out _) | (go_at_call 31; exact QL.out _) | (go_at_call 32; exact QE.out _) | (go_at_call 33; exact QD.out _)))
          go_wp2_with fail
          go_roundg (gk - 1)
          case rel => exact ⟨i + 1, L, F, by omega, by go_num, hL1, ⟨E6.out.1.drewN _, E6.out.2⟩, ⟨R6.out.1.drewN _, R6.out.2⟩, below_drewN' HB6.out _⟩
          case measure => omega
        · have hat2 : ((i : Int) == at_) = false := beq_eq_false_iff_ne.2 hat
          clear hat
          have CE := Lib.hid (fun w h => eyeInt ey l f w h)
          have CR := Lib.hid (fun w h => reyeInt ry l f w h (by omega))
          have hL0 := len_Int l
          obtain ⟨v, hv⟩ : ∃ v, unz (numR l) = v := ⟨_, rfl⟩
          obtain ⟨L, hL⟩ : ∃ v, numL l = v := ⟨_, rfl⟩
          obtain ⟨F, hF⟩ : ∃ v, numF l = v := ⟨_, rfl⟩
          rw [hv, hL, hF] at CE CR
          rw [hL] at hL0
          have hL1 : L.length ≤ 3000 := by omega
          obtain ⟨d, hd⟩ : ∃ d, doneB L F = d := ⟨_, rfl⟩
          have hEnd : (endE L F == 0) = d := by rw [endE_done, hd]
          have HD := Lib.hid hd
          clear hv hL hF hd hL0
          go_wp2_with fail
          with_reducible refine (CE.out _ E.out).mono ?_
          rintro e w5 ⟨rfl, hq⟩
          have E5 := Lib.hid hq.1
          have R5 := Lib.hid (R.out.fr hq.2 (by omega))
          have HB5 := Lib.hid (hq.old HB.out hge)
          clear hq cw0
          go_wp2_with fail
          with_reducible refine (CR.out _ R5.out).mono ?_
          rintro e w6 ⟨rfl, hq⟩
          have R6 := Lib.hid hq.1
          have E6 := Lib.hid (E5.out.fr hq.2 (by omega))
          have HB6 := Lib.hid (hq.old HB5.out hgr)
          clear hq
          have c0 := R6.out.c0
          have c1 := R6.out.c1
          have sL := bs_size L
          have bF : (F != F) = false := by cases F <;> rfl
          have bL : ((L.length : Int) != (L.length : Int)) = false := by simp
          have bD : (d != d) = false := by cases d <;> rfl
          have QF : Hid (∀ q, Calls Try.prog 30 #[.pointer (some ⟨ey, 0, none⟩)] (w6.drewN q) fun e w'' => e = .returned (.bool F) ∧ ∃ m, w'' = w6.drewN m) := fun q => quiet_left (eyeFailed ey L F _ ⟨E6.out.1.drewN q, E6.out.2⟩)
          have QL : Hid (∀ q, Calls Try.prog 31 #[.pointer (some ⟨ey, 0, none⟩)] (w6.drewN q) fun e w'' => e = .returned (.int .i64 L.length) ∧ ∃ m, w'' = w6.drewN m) := fun q => quiet_left (eyeLeft ey L F _ ⟨E6.out.1.drewN q, E6.out.2⟩)
          have QE : Hid (∀ q, Calls Try.prog 32 #[.pointer (some ⟨ey, 0, none⟩)] (w6.drewN q) fun e w'' => e = .returned (.int .i64 (endE L F)) ∧ ∃ m, w'' = w6.drewN m) := fun q => quiet_left (eyeEnd ey L F _ ⟨E6.out.1.drewN q, E6.out.2⟩)
          have QD : Hid (∀ q, Calls Try.prog 33 #[.pointer (some ⟨ry, 0, none⟩)] (w6.drewN q) fun e w'' => e = .returned (.bool d) ∧ ∃ m, w'' = w6.drewN m) := fun q => quiet_left (by have := reyeDone ry L F (w6.drewN q) ⟨R6.out.1.drewN q, R6.out.2⟩; rw [HD.out] at this; exact this)
          go_wp2_with fail
          go_quiet ((first | (go_at_call 30; exact QF.out _) | (go_at_call 31; exact QL.out _) | (go_at_call 32; exact QE.out _) | (go_at_call 33; exact QD.out _)))
          go_wp2_with fail
          go_roundg (gk - 1)
          case rel => exact ⟨i + 1, L, F, by omega, by go_num, hL1, ⟨E6.out.1.drewN _, E6.out.2⟩, ⟨R6.out.1.drewN _, R6.out.2⟩, below_drewN' HB6.out _⟩
          case measure => omega
      · by_cases hat : (i : Int) = at_
        · have hat2 : ((i : Int) == at_) = true := beq_iff_eq.2 hat
          clear hat
          go_wp2_with fail
          with_reducible refine (eyeFail ey _ _ _ E.out).mono ?_
          rintro e w3 ⟨rfl, hq⟩
          have E3 := Lib.hid hq.1
          have R3 := Lib.hid (R.out.fr hq.2 (by omega))
          have HB3 := Lib.hid (hq.old HB.out hge)
          clear hq cw0
          go_wp2_with fail
          with_reducible refine (reyeFail ry _ _ _ R3.out).mono ?_
          rintro e w4 ⟨rfl, hq⟩
          clear E R HB hlen
          have R := Lib.hid hq.1
          have E := Lib.hid (E3.out.fr hq.2 (by omega))
          have HB := Lib.hid (hq.old HB3.out hgr)
          clear hq E3 R3 HB3
          have cw0 : w4.cell? ⟨bA, off + i * 2, none⟩ = some (.int .u8 k) := (HB.out.cell (p := ⟨bA, off + i * 2, none⟩) hbA).trans CK.out
          obtain ⟨l, hl⟩ : ∃ l : List Nat, [] = l := ⟨_, rfl⟩
          obtain ⟨f, hf⟩ : ∃ l : Bool, true = l := ⟨_, rfl⟩
          have hlen : l.length ≤ 3000 := by rw [← hl]; simp
          rw [hl, hf] at E R
          clear hl hf
          have CE := Lib.hid (fun w h => eyeFlag ey l f w h)
          have CR := Lib.hid (fun w h => reyeFlag ry l f w h)
          have hL0 := len_Flag l
          obtain ⟨v, hv⟩ : ∃ v, flagR l = v := ⟨_, rfl⟩
          obtain ⟨L, hL⟩ : ∃ v, flagL l = v := ⟨_, rfl⟩
          obtain ⟨F, hF⟩ : ∃ v, flagF l f = v := ⟨_, rfl⟩
          rw [hv, hL, hF] at CE CR
          rw [hL] at hL0
          have hL1 : L.length ≤ 3000 := by omega
          obtain ⟨d, hd⟩ : ∃ d, doneB L F = d := ⟨_, rfl⟩
          have hEnd : (endE L F == 0) = d := by rw [endE_done, hd]
          have HD := Lib.hid hd
          clear hv hL hF hd hL0
          go_wp2_with fail
          with_reducible refine (CE.out _ E.out).mono ?_
          rintro e w5 ⟨rfl, hq⟩
          have E5 := Lib.hid hq.1
          have R5 := Lib.hid (R.out.fr hq.2 (by omega))
          have HB5 := Lib.hid (hq.old HB.out hge)
          clear hq cw0
          go_wp2_with fail
          with_reducible refine (CR.out _ R5.out).mono ?_
          rintro e w6 ⟨rfl, hq⟩
          have R6 := Lib.hid hq.1
          have E6 := Lib.hid (E5.out.fr hq.2 (by omega))
          have HB6 := Lib.hid (hq.old HB5.out hgr)
          clear hq
          have c0 := R6.out.c0
          have c1 := R6.out.c1
          have sL := bs_size L
          have bF : (F != F) = false := by cases F <;> rfl
          have bL : ((L.length : Int) != (L.length : Int)) = false := by simp
          have bD : (d != d) = false := by cases d <;> rfl
          have QF : Hid (∀ q, Calls Try.prog 30 #[.pointer (some ⟨ey, 0, none⟩)] (w6.drewN q) fun e w'' => e = .returned (.bool F) ∧ ∃ m, w'' = w6.drewN m) := fun q => quiet_left (eyeFailed ey L F _ ⟨E6.out.1.drewN q, E6.out.2⟩)
          have QL : Hid (∀ q, Calls Try.prog 31 #[.pointer (some ⟨ey, 0, none⟩)] (w6.drewN q) fun e w'' => e = .returned (.int .i64 L.length) ∧ ∃ m, w'' = w6.drewN m) := fun q => quiet_left (eyeLeft ey L F _ ⟨E6.out.1.drewN q, E6.out.2⟩)
          have QE : Hid (∀ q, Calls Try.prog 32 #[.pointer (some ⟨ey, 0, none⟩)] (w6.drewN q) fun e w'' => e = .returned (.int .i64 (endE L F)) ∧ ∃ m, w'' = w6.drewN m) := fun q => quiet_left (eyeEnd ey L F _ ⟨E6.out.1.drewN q, E6.out.2⟩)
          have QD : Hid (∀ q, Calls Try.prog 33 #[.pointer (some ⟨ry, 0, none⟩)] (w6.drewN q) fun e w'' => e = .returned (.bool d) ∧ ∃ m, w'' = w6.drewN m) := fun q => quiet_left (by have := reyeDone ry L F (w6.drewN q) ⟨R6.out.1.drewN q, R6.out.2⟩; rw [HD.out] at this; exact this)
          go_wp2_with fail
          go_quiet ((first | (go_at_call 30; exact QF.out _) | (go_at_call 31; exact QL.out _) | (go_at_call 32; exact QE.out _) | (go_at_call 33; exact QD.out _)))
          go_wp2_with fail
          go_roundg (gk - 1)
          case rel => exact ⟨i + 1, L, F, by omega, by go_num, hL1, ⟨E6.out.1.drewN _, E6.out.2⟩, ⟨R6.out.1.drewN _, R6.out.2⟩, below_drewN' HB6.out _⟩
          case measure => omega
        · have hat2 : ((i : Int) == at_) = false := beq_eq_false_iff_ne.2 hat
          clear hat
          have CE := Lib.hid (fun w h => eyeFlag ey l f w h)
          have CR := Lib.hid (fun w h => reyeFlag ry l f w h)
          have hL0 := len_Flag l
          obtain ⟨v, hv⟩ : ∃ v, flagR l = v := ⟨_, rfl⟩
          obtain ⟨L, hL⟩ : ∃ v, flagL l = v := ⟨_, rfl⟩
          obtain ⟨F, hF⟩ : ∃ v, flagF l f = v := ⟨_, rfl⟩
          rw [hv, hL, hF] at CE CR
          rw [hL] at hL0
          have hL1 : L.length ≤ 3000 := by omega
          obtain ⟨d, hd⟩ : ∃ d, doneB L F = d := ⟨_, rfl⟩
          have hEnd : (endE L F == 0) = d := by rw [endE_done, hd]
          have HD := Lib.hid hd
          clear hv hL hF hd hL0
          go_wp2_with fail
          with_reducible refine (CE.out _ E.out).mono ?_
          rintro e w5 ⟨rfl, hq⟩
          have E5 := Lib.hid hq.1
          have R5 := Lib.hid (R.out.fr hq.2 (by omega))
          have HB5 := Lib.hid (hq.old HB.out hge)
          clear hq cw0
          go_wp2_with fail
          with_reducible refine (CR.out _ R5.out).mono ?_
          rintro e w6 ⟨rfl, hq⟩
          have R6 := Lib.hid hq.1
          have E6 := Lib.hid (E5.out.fr hq.2 (by omega))
          have HB6 := Lib.hid (hq.old HB5.out hgr)
          clear hq
          have c0 := R6.out.c0
          have c1 := R6.out.c1
          have sL := bs_size L
          have bF : (F != F) = false := by cases F <;> rfl
          have bL : ((L.length : Int) != (L.length : Int)) = false := by simp
          have bD : (d != d) = false := by cases d <;> rfl
          have QF : Hid (∀ q, Calls Try.prog 30 #[.pointer (some ⟨ey, 0, none⟩)] (w6.drewN q) fun e w'' => e = .returned (.bool F) ∧ ∃ m, w'' = w6.drewN m) := fun q => quiet_left (eyeFailed ey L F _ ⟨E6.out.1.drewN q, E6.out.2⟩)
          have QL : Hid (∀ q, Calls Try.prog 31 #[.pointer (some ⟨ey, 0, none⟩)] (w6.drewN q) fun e w'' => e = .returned (.int .i64 L.length) ∧ ∃ m, w'' = w6.drewN m) := fun q => quiet_left (eyeLeft ey L F _ ⟨E6.out.1.drewN q, E6.out.2⟩)
          have QE : Hid (∀ q, Calls Try.prog 32 #[.pointer (some ⟨ey, 0, none⟩)] (w6.drewN q) fun e w'' => e = .returned (.int .i64 (endE L F)) ∧ ∃ m, w'' = w6.drewN m) := fun q => quiet_left (eyeEnd ey L F _ ⟨E6.out.1.drewN q, E6.out.2⟩)
          have QD : Hid (∀ q, Calls Try.prog 33 #[.pointer (some ⟨ry, 0, none⟩)] (w6.drewN q) fun e w'' => e = .returned (.bool d) ∧ ∃ m, w'' = w6.drewN m) := fun q => quiet_left (by have := reyeDone ry L F (w6.drewN q) ⟨R6.out.1.drewN q, R6.out.2⟩; rw [HD.out] at this; exact this)
          go_wp2_with fail
          go_quiet ((first | (go_at_call 30; exact QF.out _) | (go_at_call 31; exact QL.out _) | (go_at_call 32; exact QE.out _) | (go_at_call 33; exact QD.out _)))
          go_wp2_with fail
          go_roundg (gk - 1)
          case rel => exact ⟨i + 1, L, F, by omega, by go_num, hL1, ⟨E6.out.1.drewN _, E6.out.2⟩, ⟨R6.out.1.drewN _, R6.out.2⟩, below_drewN' HB6.out _⟩
          case measure => omega
    · obtain rfl : i = n := by omega
      clear HC0 HA HK
      go_wp2_with fail
      with_reducible refine (eyeFailedNil _).mono ?_
      rintro e wx ⟨rfl, rfl⟩
      go_wp2_with fail
      with_reducible refine (eyeNumNil _).mono ?_
      rintro e w5 ⟨rfl, hb5⟩
      have HB5 := Lib.hid (below_next HB.out hb5)
      clear hb5
      go_wp2_with fail
      with_reducible refine (eyeLeftNil _).mono ?_
      rintro e wx ⟨rfl, rfl⟩
      go_wp2_with fail
      with_reducible refine (eyeEndNil _).mono ?_
      rintro e wx ⟨rfl, rfl⟩
      go_wp2_with fail
      go_ret
      exact ⟨by simp, HB5.out⟩

theorem octetReads_walk (w : World) (s : ByteArray) (fs : s.size ≤ 9223372036854775807) (A : Option Addr) (n c : Nat) (K : Nat → Int) (fK : ∀ i, i < n → (Lit.int .u8 (K i)).wf = true) (F : Nat → Int) (fF : ∀ i, i < n → (Lit.int .u64 (F i)).wf = true)
    (hl : n ≤ c) (hm : c ≤ maxLen) (hA : 0 < n → ∃ b off, A = some ⟨b, off, none⟩ ∧ b < w.heap.size) (hC0 : ∀ b off, A = some ⟨b, off, none⟩ → ∀ i, i < n → w.cell? ⟨b, off + (i * 2 + 0), none⟩ = some (.int .u8 (K i)))
    (hC1 : ∀ b off, A = some ⟨b, off, none⟩ → ∀ i, i < n → w.cell? ⟨b, off + (i * 2 + 1), none⟩ = some (.int .u64 (F i))) (a : Int) (fa : (Lit.int .i64 a).wf = true) :
    Calls Try.prog 4 #[.string s, .slice A n c, .int .i64 a] w fun e w' => e = .returned (.bool true) ∧ Below w.heap.size w w' := by
  obtain ⟨l, hb, rfl, hsl⟩ := bs_of s
  exact octetReads_at l A n c K F a w (Nat.le_trans hl hm) hA (fun i hi => byte_of_wf (fK i hi)) hb (by omega) hC0

end Go.Proofs.Ytdlpnhplldnlbaa
