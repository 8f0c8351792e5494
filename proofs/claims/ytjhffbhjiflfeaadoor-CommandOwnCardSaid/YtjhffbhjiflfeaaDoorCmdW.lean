/-
  write: a kind, and what stands in slots, written.
-/
import Derived.Test.YtjhffbhjiflfeaaDoorProg
import Derived.Test.YtjhffbhjiflfeaaDoorCmdP
namespace Go.Proofs.YtjhffbhjiflfeaaDoor
set_option linter.unusedVariables false
set_option linter.unusedSimpArgs false
set_option maxRecDepth 100000
open Go.RowKit

theorem encs_append (C : Nat → Int) : ∀ L M, encs C (L ++ M) = encs C L ++ encs C M
  | [], M => rfl
  | s :: r, M => by simp only [List.cons_append, encs, encs_append C r M, List.append_assoc]
theorem encs_take (C : Nat → Int) {L : List (Nat × Nat)} {i : Nat} {s : Nat × Nat} (h : L[i]? = some s) : encs C (L.take (i + 1)) = encs C (L.take i) ++ encS s.1 (C s.2) := by
  rw [List.take_add_one, h, encs_append]
  simp [encs]


/-! ### Which type an interface has -/
theorem as00 (a : Value) (W : World) : (Instr.typeAssert (.iface 74 a) 20 74 true).run Tryd.prog W = .ok (.tuple #[a, .bool true]) W := by kernel_rfl
theorem as10 (a : Value) (W : World) : (Instr.typeAssert (.iface 76 a) 20 74 true).run Tryd.prog W = .ok (.tuple #[.pointer none, .bool false]) W := by kernel_rfl
theorem as11 (a : Value) (W : World) : (Instr.typeAssert (.iface 76 a) 20 76 true).run Tryd.prog W = .ok (.tuple #[a, .bool true]) W := by kernel_rfl
theorem as20 (a : Value) (W : World) : (Instr.typeAssert (.iface 78 a) 20 74 true).run Tryd.prog W = .ok (.tuple #[.pointer none, .bool false]) W := by kernel_rfl
theorem as21 (a : Value) (W : World) : (Instr.typeAssert (.iface 78 a) 20 76 true).run Tryd.prog W = .ok (.tuple #[.pointer none, .bool false]) W := by kernel_rfl
theorem as22 (a : Value) (W : World) : (Instr.typeAssert (.iface 78 a) 20 78 true).run Tryd.prog W = .ok (.tuple #[a, .bool true]) W := by kernel_rfl
theorem as30 (a : Value) (W : World) : (Instr.typeAssert (.iface 79 a) 20 74 true).run Tryd.prog W = .ok (.tuple #[.pointer none, .bool false]) W := by kernel_rfl
theorem as31 (a : Value) (W : World) : (Instr.typeAssert (.iface 79 a) 20 76 true).run Tryd.prog W = .ok (.tuple #[.pointer none, .bool false]) W := by kernel_rfl
theorem as32 (a : Value) (W : World) : (Instr.typeAssert (.iface 79 a) 20 78 true).run Tryd.prog W = .ok (.tuple #[.pointer none, .bool false]) W := by kernel_rfl
theorem as33 (a : Value) (W : World) : (Instr.typeAssert (.iface 79 a) 20 79 true).run Tryd.prog W = .ok (.tuple #[a, .bool true]) W := by kernel_rfl

/-- What a pen does at a slot. -/
theorem pen_slot (B g : Nat) (t : Nat) (n : Int) (r : Option Nat) (l : List Nat) (w : World) (h : PenAt w B g r l) (hf : FitS t n) (hl : l.length + 10 ≤ 100000000000000) (hB : B ≤ w.heap.size) :
    (t = 0 → Calls Tryd.prog 23 #[.pointer (some ⟨g, 0, none⟩), .int .u64 n] w fun e w' => e = .returned (.tuple #[]) ∧ PenTo B g r (l ++ encS t n) w w') ∧
    (t = 1 ∨ t = 2 → Calls Tryd.prog 24 #[.pointer (some ⟨g, 0, none⟩), .int .i64 n] w fun e w' => e = .returned (.tuple #[]) ∧ PenTo B g r (l ++ encS t n) w w') ∧
    (3 ≤ t → Calls Tryd.prog 25 #[.pointer (some ⟨g, 0, none⟩), .bool (decide (n = 1))] w fun e w' => e = .returned (.tuple #[]) ∧ PenTo B g r (l ++ encS t n) w w') := by
  refine ⟨?_, ?_, ?_⟩
  · rintro rfl
    exact penNum B g n r l w h hf hl hB
  · rintro (rfl | rfl)
    · exact penInt B g n r l w h hf.1 hf.2 hl hB
    · exact penInt B g n r l w h hf.1 hf.2 hl hB
  · intro ht
    obtain ⟨t, rfl⟩ : ∃ u, t = u + 3 := ⟨t - 3, by omega⟩
    exact penFlag B g (decide (n = 1)) r l w h (by omega) hB

set_option maxHeartbeats 8000000 in
theorem cmd_write (kd : Int) (q : Nat) (L : List (Nat × Nat)) (C : Nat → Int) (A c : Nat) (w : World) (hL : L.length ≤ 20) (k0 : 0 ≤ kd) (k1 : kd < 256) (hp : PieceAt w A (L.map (slotV q)))
    (hc : ∀ s ∈ L, w.cell? ⟨q, s.2, none⟩ = some (cellV s.1 (C s.2))) (hq : q < w.heap.size) (hf : ∀ s ∈ L, FitS s.1 (C s.2)) :
    Calls Tryd.prog 14 #[.int .u8 kd, .slice (some ⟨A, 0, none⟩) L.length c] w fun e w' => e = .returned (.tuple #[.string (bs (kd.toNat :: encs C L)), .int .i64 0]) ∧ Below w.heap.size w w' := by
  have HL := Lib.hid (And.intro hL (encs_len hf))
  have HP := Lib.hid hp
  have HC := Lib.hid hc
  have HF := Lib.hid hf
  have HQ := Lib.hid hq
  have HK := Lib.hid (And.intro k0 k1)
  clear hp hc hf hq k0 k1
  obtain ⟨n, hn⟩ : ∃ n, L.length = n := ⟨_, rfl⟩
  rw [hn] at HL hL
  rw [hn]
  have HN := Lib.hid hn
  clear hn
  go_enter Tryd.func14, Tryd.ntmps14
  go_wp2_with fail
  obtain ⟨g, hg⟩ : ∃ g, w.heap.size = g := ⟨_, rfl⟩
  have P1 : Hid (PenAt (w.alloc (.cells #[.slice none 0 0] 72)) g g none []) := ⟨.slice none 0 0, by rw [← hg]; exact Blk.new _ _ _, World.ownsRow_nil _ _ _ _, rfl, fun x hx => by cases hx⟩
  have B0 : Below w.heap.size w (w.alloc (.cells #[.slice none 0 0] 72)) := by go_grown
  have hsz : g + 1 ≤ (w.alloc (.cells #[.slice none 0 0] 72)).heap.size := by simp [hg]
  have hge : w.heap.size ≤ g := by omega
  rw [hg]
  obtain ⟨W0, hW0⟩ : ∃ W0, (w.alloc (.cells #[.slice none 0 0] 72)) = W0 := ⟨_, rfl⟩
  rw [hW0] at P1 B0 hsz
  rw [hW0]
  have HB0 := Lib.hid B0
  have HG := Lib.hid (And.intro hge hsz)
  clear hg hW0 B0 hge hsz
  with_reducible refine (penByte g g kd none [] W0 P1.out HK.out.1 HK.out.2 (by simp) (by have := HG.out.2; omega)).mono ?_
  rintro e w1 ⟨rfl, hp1⟩
  have HP1 : Hid (PenTo g g none (kd.toNat :: encs C (L.take 0)) W0 w1) := hp1
  clear hp1
  go_wp2_with fail
  go_loopg [20] n (fun gk ix wr => ∃ i : Nat, i + gk = n ∧ ix = .int .i64 i ∧ PenTo g g none (kd.toNat :: encs C (L.take i)) W0 wr)
  case atStart => exact ⟨0, by omega, rfl, HP1.out⟩
  case round =>
    obtain ⟨i, hi, rfl, r1, hP, hF, hR⟩ := hrel
    have hlu : (encs C (L.take i)).length ≤ 200 := by
      have h1 := encs_len (C := C) (L := L.take i) (fun s hs => HF.out s (List.mem_of_mem_take hs))
      have h2 : (L.take i).length ≤ 20 := by rw [List.length_take]; have := HN.out; omega
      omega
    have hws := hF.size
    have Hp := Lib.hid hP
    have Hf := Lib.hid hF
    have Hr := Lib.hid hR
    have B2 : Below w.heap.size w wr := (show PenTo g g none (kd.toNat :: encs C (L.take i)) W0 wr from ⟨r1, hP, hF, hR⟩).old (l0 := []) HB0.out P1.out HG.out.1 HG.out.1
    have HB2 := Lib.hid B2
    have HU := Lib.hid hlu
    clear hP hF hR B2 HP1 hlu
    by_cases hlt : i < n
    · obtain ⟨gm, rfl⟩ : ∃ gm, gk = gm + 1 := ⟨gk - 1, by omega⟩
      obtain ⟨⟨t, p⟩, hs⟩ : ∃ s, L[i]? = some s := ⟨L[i]'(by rw [HN.out]; exact hlt), List.getElem?_eq_getElem _⟩
      have hm : (t, p) ∈ L := List.mem_of_getElem? hs
      have ca : wr.cell? ⟨A, i, none⟩ = some (slotV q (t, p)) := (HB2.out.cell (p := ⟨A, i, none⟩) HP.out.1).trans (HP.out.2.1 i _ (by rw [List.getElem?_map, hs]; rfl))
      have cc : wr.cell? ⟨q, p, none⟩ = some (cellV t (C p)) := (HB2.out.cell (p := ⟨q, p, none⟩) HQ.out).trans (HC.out _ hm)
      have hfit := HF.out _ hm
      have PS := Lib.hid (fun hB => pen_slot g g t (C p) r1 (kd.toNat :: encs C (L.take i)) wr Hp.out hfit (by have := HU.out; simp only [List.length_cons]; omega) hB)
      have HE : Hid (kd.toNat :: encs C (L.take (i + 1)) = (kd.toNat :: encs C (L.take i)) ++ encS t (C p)) := by unfold Hid; rw [encs_take C hs]; rfl
      have PB : Hid (g ≤ wr.heap.size) := by have := HG.out.2; unfold Hid; omega
      have HI := Lib.hid (And.intro hi hlt)
      have p0 : (0 : Int) ≤ (i : Int) := by omega
      have p1 : (i : Int) < (n : Int) := by omega
      have e2 : wrap64 ((i : Int) + 1) = ((i + 1 : Nat) : Int) := by unfold wrap64; omega
      clear hs hm hfit hi hws hL
      rcases kinds t with rfl | rfl | rfl | ht
      · replace ca : wr.cell? ⟨A, i, none⟩ = some (.iface 74 (.pointer (some ⟨q, p, none⟩))) := ca
        replace PS := Lib.hid (fun hB => (PS.out hB).1 rfl)
        replace cc : wr.cell? ⟨q, p, none⟩ = some (.int .u64 (C p)) := cc
        have as0 := as00 (.pointer (some ⟨q, p, none⟩)) wr
        go_wp2_with fail
        with_reducible refine (PS.out PB.out).mono ?_
        rintro e w3 ⟨rfl, hp3⟩
        have HP3 : Hid (PenTo g g none (kd.toNat :: encs C (L.take (i + 1))) W0 w3) := by rw [HE.out]; exact hp3.next Hf.out Hr.out
        clear hp3 ca cc as0
        go_wp2_with fail
        go_roundg gm
        case rel => exact ⟨i + 1, by have := HI.out.1; omega, by go_num, HP3.out⟩
        case measure => omega
      · replace ca : wr.cell? ⟨A, i, none⟩ = some (.iface 76 (.pointer (some ⟨q, p, none⟩))) := ca
        replace PS := Lib.hid (fun hB => (PS.out hB).2.1 (Or.inl rfl))
        replace cc : wr.cell? ⟨q, p, none⟩ = some (.int .i64 (C p)) := cc
        have as0 := as10 (.pointer (some ⟨q, p, none⟩)) wr
        have as1 := as11 (.pointer (some ⟨q, p, none⟩)) wr
        go_wp2_with fail
        with_reducible refine (PS.out PB.out).mono ?_
        rintro e w3 ⟨rfl, hp3⟩
        have HP3 : Hid (PenTo g g none (kd.toNat :: encs C (L.take (i + 1))) W0 w3) := by rw [HE.out]; exact hp3.next Hf.out Hr.out
        clear hp3 ca cc as0 as1
        go_wp2_with fail
        go_roundg gm
        case rel => exact ⟨i + 1, by have := HI.out.1; omega, by go_num, HP3.out⟩
        case measure => omega
      · replace ca : wr.cell? ⟨A, i, none⟩ = some (.iface 78 (.pointer (some ⟨q, p, none⟩))) := ca
        replace PS := Lib.hid (fun hB => (PS.out hB).2.1 (Or.inr rfl))
        replace cc : wr.cell? ⟨q, p, none⟩ = some (.int .i64 (C p)) := cc
        have as0 := as20 (.pointer (some ⟨q, p, none⟩)) wr
        have as1 := as21 (.pointer (some ⟨q, p, none⟩)) wr
        have as2 := as22 (.pointer (some ⟨q, p, none⟩)) wr
        go_wp2_with fail
        with_reducible refine (PS.out PB.out).mono ?_
        rintro e w3 ⟨rfl, hp3⟩
        have HP3 : Hid (PenTo g g none (kd.toNat :: encs C (L.take (i + 1))) W0 w3) := by rw [HE.out]; exact hp3.next Hf.out Hr.out
        clear hp3 ca cc as0 as1 as2
        go_wp2_with fail
        go_roundg gm
        case rel => exact ⟨i + 1, by have := HI.out.1; omega, by go_num, HP3.out⟩
        case measure => omega
      · obtain ⟨t, rfl⟩ : ∃ u, t = u + 3 := ⟨t - 3, by omega⟩
        replace ht := Lib.hid ht
        replace ca : wr.cell? ⟨A, i, none⟩ = some (.iface 79 (.pointer (some ⟨q, p, none⟩))) := ca
        obtain ⟨fb, hfb⟩ : ∃ b, decide (C p = 1) = b := ⟨_, rfl⟩
        replace PS := Lib.hid (fun hB => (PS.out hB).2.2 ht.out)
        replace cc : wr.cell? ⟨q, p, none⟩ = some (.bool (decide (C p = 1))) := cc
        rw [hfb] at cc PS
        clear hfb
        have as0 := as30 (.pointer (some ⟨q, p, none⟩)) wr
        have as1 := as31 (.pointer (some ⟨q, p, none⟩)) wr
        have as2 := as32 (.pointer (some ⟨q, p, none⟩)) wr
        have as3 := as33 (.pointer (some ⟨q, p, none⟩)) wr
        go_wp2_with fail
        with_reducible refine (PS.out PB.out).mono ?_
        rintro e w3 ⟨rfl, hp3⟩
        have HP3 : Hid (PenTo g g none (kd.toNat :: encs C (L.take (i + 1))) W0 w3) := by rw [HE.out]; exact hp3.next Hf.out Hr.out
        clear hp3 ca cc as0 as1 as2 as3
        go_wp2_with fail
        go_roundg gm
        case rel => exact ⟨i + 1, by have := HI.out.1; omega, by go_num, HP3.out⟩
        case measure => omega
    · obtain rfl : gk = 0 := by omega
      obtain rfl : i = n := by omega
      clear hlt hi hws
      have HD : Hid (encs C (L.take i) = encs C L) := by unfold Hid; rw [← HN.out, List.take_length]
      rw [HD.out] at Hp
      have h9 : Hid ((kd.toNat :: encs C L).length ≤ 4096) := by have := HL.out.2; unfold Hid; simp only [List.length_cons]; omega
      clear HD
      go_wp2_with fail
      with_reducible refine (penDone g g r1 _ wr Hp.out h9.out).mono ?_
      rintro e wx ⟨rfl, rfl⟩
      go_wp2_with fail
      go_ret2
      exact ⟨rfl, HB2.out⟩

end Go.Proofs.YtjhffbhjiflfeaaDoor
