/-
  What an eye does: bytes, and whether it has failed.
-/
import Derived.Test.YtjhffbhjiflfeaaDoorProg
import Derived.Test.YtjhffbhjiflfeaaDoorOctB
import Derived.Lib.Bytes
namespace Go.Proofs.YtjhffbhjiflfeaaDoor
set_option linter.unusedVariables false
set_option linter.unusedSimpArgs false
set_option maxRecDepth 100000
open Go.RowKit

/-- An eye at block g, ahead of which the bytes l are left. -/
def EyeAt (w : World) (g : Nat) (l : List Nat) (f : Bool) : Prop := Blk w g 88 #[.string (bs l), .bool f] ∧ Bytes l ∧ (f = true → l = [])
/-- From w to w1 the eye has come to that; nothing else that was there has turned. -/
def EyeTo (g : Nat) (l : List Nat) (f : Bool) (w w1 : World) : Prop := EyeAt w1 g l f ∧ Fr (fun k => k = g) w w1

section
variable {w w1 w2 : World} {g : Nat} {l l2 : List Nat} {f f2 : Bool}
theorem EyeAt.c0 (h : EyeAt w g l f) : w.cell? ⟨g, 0, none⟩ = some (.string (bs l)) := h.1.get 0 rfl
theorem EyeAt.c1 (h : EyeAt w g l f) : w.cell? ⟨g, 1, none⟩ = some (.bool f) := h.1.get 1 rfl
theorem EyeAt.below (h : EyeAt w g l f) (hb : Below w.heap.size w w1) : EyeAt w1 g l f := ⟨h.1.next hb, h.2⟩
theorem EyeAt.fr {S : Nat → Prop} (h : EyeAt w g l f) (hf : Fr S w w1) (hg : ¬ S g) : EyeAt w1 g l f := ⟨h.1.fr hf hg, h.2⟩
theorem EyeTo.refl (h : EyeAt w g l f) : EyeTo g l f w w := ⟨h, Fr.refl _ _⟩
theorem EyeTo.next (h : Fr (fun k => k = g) w w1) (k : EyeTo g l f w1 w2) : EyeTo g l f w w2 := ⟨k.1, h.trans k.2⟩
theorem EyeTo.below (h : EyeTo g l f w w1) (hb : Below w1.heap.size w1 w2) : EyeTo g l f w w2 := ⟨h.1.below hb, h.2.next hb⟩
theorem EyeTo.ahead (hb : Below w.heap.size w w1) (k : EyeTo g l f w1 w2) : EyeTo g l f w w2 := EyeTo.next (Fr.of_new hb) k
theorem EyeTo.old {w0 : World} (hb : Below w0.heap.size w0 w) (hg : w0.heap.size ≤ g) (k : EyeTo g l f w w1) : Below w0.heap.size w0 w1 :=
  hb.trans (k.2.below (B := w0.heap.size) hb.size (fun i hi e => by omega))
end

theorem bs_data (l : List Nat) : (bs l).data.toList = l.map UInt8.ofNat := rfl
theorem bs_cut (x : Nat) (l : List Nat) : (bs (x :: l)).extract 1 (bs (x :: l)).size = bs l := by
  apply ByteArray.ext
  apply Array.toList_inj.1
  rw [Lib.extract_data, bs_data, bs_data, bs_size]
  simp
  rw [List.take_of_length_le (by simp)]
theorem bs_head (b : Nat) (l : List Nat) (hb : b < 256) (h : 0 < (bs (b :: l)).size) : ((bs (b :: l))[0]'h).toNat = b := by
  show (UInt8.ofNat b).toNat = b
  simp
  omega

theorem eyeFail (g : Nat) (l : List Nat) (f : Bool) (w : World) (h : EyeAt w g l f) :
    Calls Tryd.prog 21 #[.pointer (some ⟨g, 0, none⟩)] w fun e w' => e = .returned (.tuple #[]) ∧ EyeTo g [] true w w' := by
  have c0 := h.c0
  have c1 := h.c1
  have f0 := Blk.frozen h.1 0
  have f1 := Blk.frozen h.1 1
  go_enter Tryd.func21, Tryd.ntmps21
  go_wp2_with fail
  go_end0
  refine ⟨rfl, ⟨?_, fun x hx => (by cases hx), fun _ => rfl⟩, ?_⟩
  · have := Blk.put (Blk.put h.1 0 (.string ⟨#[]⟩)) 1 (.bool true)
    exact this
  · exact ((Fr.refl (fun k => k = g) w).setCell (p := ⟨g, 0, none⟩) (fun _ => rfl) _).setCell (p := ⟨g, 1, none⟩) (fun _ => rfl) _
theorem eyeFailNil (w : World) : Calls Tryd.prog 21 #[.pointer none] w fun e w' => e = .returned (.tuple #[]) ∧ w = w' := by
  go_enter Tryd.func21, Tryd.ntmps21
  go_wp2_with fail
  go_end0
  exact ⟨rfl, rfl⟩
theorem eyeLeft (g : Nat) (l : List Nat) (f : Bool) (w : World) (h : EyeAt w g l f) :
    Calls Tryd.prog 29 #[.pointer (some ⟨g, 0, none⟩)] w fun e w' => e = .returned (.int .i64 l.length) ∧ w = w' := by
  have c0 := h.c0
  have hs := bs_size l
  go_enter Tryd.func29, Tryd.ntmps29
  go_wp2_with fail
  go_ret
  exact ⟨rfl, rfl⟩
theorem eyeLeftNil (w : World) : Calls Tryd.prog 29 #[.pointer none] w fun e w' => e = .returned (.int .i64 0) ∧ w = w' := by
  go_enter Tryd.func29, Tryd.ntmps29
  go_wp2_with fail
  go_ret
  exact ⟨rfl, rfl⟩
theorem eyeFailed (g : Nat) (l : List Nat) (f : Bool) (w : World) (h : EyeAt w g l f) :
    Calls Tryd.prog 38 #[.pointer (some ⟨g, 0, none⟩)] w fun e w' => e = .returned (.bool f) ∧ w = w' := by
  have c1 := h.c1
  go_enter Tryd.func38, Tryd.ntmps38
  go_wp2_with fail
  go_ret
  exact ⟨rfl, rfl⟩
theorem eyeFailedNil (w : World) : Calls Tryd.prog 38 #[.pointer none] w fun e w' => e = .returned (.bool true) ∧ w = w' := by
  go_enter Tryd.func38, Tryd.ntmps38
  go_wp2_with fail
  go_ret
  exact ⟨rfl, rfl⟩

/-- What reading a byte tells, and what is left. -/
def byteR : List Nat → Nat
  | [] => 0
  | b :: _ => b
def byteL : List Nat → List Nat
  | [] => []
  | _ :: t => t
def byteF (l : List Nat) (f : Bool) : Bool := l.isEmpty || f

theorem eyeByteEnd (g : Nat) (f : Bool) (w : World) (h : EyeAt w g [] f) :
    Calls Tryd.prog 19 #[.pointer (some ⟨g, 0, none⟩)] w fun e w' => e = .returned (.int .u8 0) ∧ EyeTo g [] true w w' := by
  have H := Lib.hid h
  have L := Lib.hid (fun w h => eyeLeft g [] f w h)
  have F := Lib.hid (fun w h => eyeFail g [] f w h)
  clear h
  go_enter Tryd.func19, Tryd.ntmps19
  go_wp2_with fail
  with_reducible refine (L.out _ H.out).mono ?_
  rintro e w1 ⟨rfl, rfl⟩
  go_wp2_with fail
  with_reducible refine (F.out _ H.out).mono ?_
  rintro e w1 ⟨rfl, hp⟩
  have HP := Lib.hid hp
  clear hp
  go_wp2_with fail
  go_ret
  exact ⟨rfl, HP.out⟩
theorem eyeByteNil (w : World) : Calls Tryd.prog 19 #[.pointer none] w fun e w' => e = .returned (.int .u8 0) ∧ w = w' := by
  go_enter Tryd.func19, Tryd.ntmps19
  go_wp2_with fail
  with_reducible refine (eyeLeftNil _).mono ?_
  rintro e w1 ⟨rfl, rfl⟩
  go_wp2_with fail
  with_reducible refine (eyeFailNil _).mono ?_
  rintro e w1 ⟨rfl, rfl⟩
  go_wp2_with fail
  go_ret
  exact ⟨rfl, rfl⟩
theorem eyeByteMore (g b : Nat) (l : List Nat) (f : Bool) (w : World) (h : EyeAt w g (b :: l) f) :
    Calls Tryd.prog 19 #[.pointer (some ⟨g, 0, none⟩)] w fun e w' => e = .returned (.int .u8 b) ∧ EyeTo g l f w w' := by
  have H := Lib.hid h
  have L := Lib.hid (fun w h => eyeLeft g (b :: l) f w h)
  have c0 := h.c0
  have f0 := Blk.frozen h.1 0
  have hff : f = false := by cases f with | false => rfl | true => exact absurd (h.2.2 rfl) (by simp)
  have hb : b < 256 := h.2.1 b (List.mem_cons_self ..)
  have hs : (bs (b :: l)).size = l.length + 1 := bs_size _
  have hcut := bs_cut b l
  have hlen : (((b :: l).length : Nat) : Int) = (l.length : Int) + 1 := by simp
  have hz : ((l.length : Int) + 1 == 0) = false := beq_eq_false_iff_ne.2 (by omega)
  rw [hs] at hcut
  clear h
  go_enter Tryd.func19, Tryd.ntmps19
  go_wp2_with fail
  with_reducible refine (L.out _ H.out).mono ?_
  rintro e w1 ⟨rfl, rfl⟩
  go_wp2_with fail
  go_ret
  refine ⟨retInt (by rw [bs_head b l hb]), ⟨?_, fun x hx => H.out.2.1 x (List.mem_cons_of_mem _ hx), fun e => by rw [hff] at e; cases e⟩, (Fr.refl (fun k => k = g) w).setCell (p := ⟨g, 0, none⟩) (fun _ => rfl) _⟩
  have := Blk.put H.out.1 0 (.string (bs l))
  exact this
theorem eyeByte (g : Nat) (l : List Nat) (f : Bool) (w : World) (h : EyeAt w g l f) :
    Calls Tryd.prog 19 #[.pointer (some ⟨g, 0, none⟩)] w fun e w' => e = .returned (.int .u8 (byteR l)) ∧ EyeTo g (byteL l) (byteF l f) w w' := by
  cases l with
  | nil => exact eyeByteEnd g f w h
  | cons b t => exact eyeByteMore g b t f w h

theorem eyeOpen (l : List Nat) (w : World) (h : Bytes l) :
    Calls Tryd.prog 18 #[.string (bs l)] w fun e w' => e = .returned (.pointer (some ⟨w.heap.size, 0, none⟩)) ∧ EyeAt w' w.heap.size l false ∧ Below w.heap.size w w' := by
  go_enter Tryd.func18, Tryd.ntmps18
  go_wp2_with fail
  go_ret
  exact ⟨rfl, ⟨Blk.new _ _ _, h, fun e => by cases e⟩, by go_grown⟩
/-- What End tells. -/
def endE (l : List Nat) (f : Bool) : Int := if f || !l.isEmpty then 140 else 0
theorem eyeEnd (g : Nat) (l : List Nat) (f : Bool) (w : World) (h : EyeAt w g l f) :
    Calls Tryd.prog 33 #[.pointer (some ⟨g, 0, none⟩)] w fun e w' => e = .returned (.int .i64 (endE l f)) ∧ w = w' := by
  have F := Lib.hid (fun w h => eyeFailed g l f w h)
  have L := Lib.hid (fun w h => eyeLeft g l f w h)
  have H := Lib.hid h
  clear h
  cases f with
  | true =>
    go_enter Tryd.func33, Tryd.ntmps33
    go_wp2_with fail
    with_reducible refine (F.out _ H.out).mono ?_
    rintro e w1 ⟨rfl, rfl⟩
    go_wp2_with fail
    go_ret
    exact ⟨rfl, rfl⟩
  | false =>
    cases l with
    | nil =>
      go_enter Tryd.func33, Tryd.ntmps33
      go_wp2_with fail
      with_reducible refine (F.out _ H.out).mono ?_
      rintro e w1 ⟨rfl, rfl⟩
      go_wp2_with fail
      with_reducible refine (L.out _ H.out).mono ?_
      rintro e w1 ⟨rfl, rfl⟩
      go_wp2_with fail
      go_ret
      exact ⟨rfl, rfl⟩
    | cons b t =>
      have hlen : (((b :: t).length : Nat) : Int) = (t.length : Int) + 1 := by simp
      have hpos : decide ((0 : Int) < (t.length : Int) + 1) = true := decide_eq_true (by omega)
      go_enter Tryd.func33, Tryd.ntmps33
      go_wp2_with fail
      with_reducible refine (F.out _ H.out).mono ?_
      rintro e w1 ⟨rfl, rfl⟩
      go_wp2_with fail
      with_reducible refine (L.out _ H.out).mono ?_
      rintro e w1 ⟨rfl, rfl⟩
      go_wp2_with fail
      go_ret
      exact ⟨rfl, rfl⟩
theorem eyeEndNil (w : World) : Calls Tryd.prog 33 #[.pointer none] w fun e w' => e = .returned (.int .i64 140) ∧ w = w' := by
  go_enter Tryd.func33, Tryd.ntmps33
  go_wp2_with fail
  with_reducible refine (eyeFailedNil _).mono ?_
  rintro e w1 ⟨rfl, rfl⟩
  go_wp2_with fail
  go_ret
  exact ⟨rfl, rfl⟩

/-- What reading a flag tells. -/
def flagR (l : List Nat) : Bool := byteR l == 1
def flagL (l : List Nat) : List Nat := if 1 < byteR l then [] else byteL l
def flagF (l : List Nat) (f : Bool) : Bool := if 1 < byteR l then true else byteF l f
theorem eyeFlag (g : Nat) (l : List Nat) (f : Bool) (w : World) (h : EyeAt w g l f) :
    Calls Tryd.prog 32 #[.pointer (some ⟨g, 0, none⟩)] w fun e w' => e = .returned (.bool (flagR l)) ∧ EyeTo g (flagL l) (flagF l f) w w' := by
  have BY := Lib.hid (fun w h => eyeByte g l f w h)
  have H := Lib.hid h
  clear h
  obtain ⟨b, hb⟩ : ∃ b, byteR l = b := ⟨_, rfl⟩
  rw [hb] at BY
  by_cases hlt : 1 < b
  · have e1 : flagR l = false := by unfold flagR; rw [hb]; simp; omega
    have e2 : flagL l = [] := by unfold flagL; rw [hb, if_pos hlt]
    have e3 : flagF l f = true := by unfold flagF; rw [hb, if_pos hlt]
    rw [e1, e2, e3]
    have z1 : ((b : Int) == 1) = false := beq_eq_false_iff_ne.2 (by omega)
    clear hb e1 e2 e3
    go_enter Tryd.func32, Tryd.ntmps32
    go_wp2_with fail
    with_reducible refine (BY.out _ H.out).mono ?_
    rintro e w1 ⟨rfl, hp, hf⟩
    have HP := Lib.hid hp
    have HF := Lib.hid hf
    clear hp hf
    go_wp2_with fail
    with_reducible refine (eyeFail g _ _ _ HP.out).mono ?_
    rintro e w2 ⟨rfl, hq⟩
    have HQ := Lib.hid hq
    clear hq
    go_wp2_with fail
    go_ret
    exact ⟨rfl, EyeTo.next HF.out HQ.out⟩
  · have e2 : flagL l = byteL l := by unfold flagL; rw [hb, if_neg hlt]
    have e3 : flagF l f = byteF l f := by unfold flagF; rw [hb, if_neg hlt]
    have e1 : Hid (flagR l = ((b : Int) == 1)) := by
      unfold Hid flagR; rw [hb]
      rcases (show b = 0 ∨ b = 1 by omega) with rfl | rfl <;> rfl
    rw [e1.out, e2, e3]
    clear hb e2 e3
    go_enter Tryd.func32, Tryd.ntmps32
    go_wp2_with fail
    with_reducible refine (BY.out _ H.out).mono ?_
    rintro e w1 ⟨rfl, hp⟩
    have HP := Lib.hid hp
    clear hp
    go_wp2_with fail
    go_ret
    exact ⟨rfl, HP.out⟩

end Go.Proofs.YtjhffbhjiflfeaaDoor
