/-
  The walk of the law OctetOne: what is read, written, is just the bytes that were read.
-/
import Derived.Test.YtjhffbhjiflfeaaDoorProg
import Derived.Test.YtjhffbhjiflfeaaDoorOctAwake
import Derived.Test.YtjhffbhjiflfeaaDoorOctG
namespace Go.Proofs.YtjhffbhjiflfeaaDoor
set_option linter.unusedVariables false
set_option linter.unusedSimpArgs false
set_option maxRecDepth 100000
open Go.RowKit

theorem PenAt.row_ne {w : World} {B g : Nat} {r : Option Nat} {l : List Nat} (h : PenAt w B g r l) {b : Nat} {t : TypeId} {cs : Array Value} (k : Blk w b t cs) (hne : 5 ≠ t) : r ≠ some b := by
  obtain ⟨v, hb, ho, hr, _⟩ := h
  rintro rfl
  rcases ho.2 with ⟨rfl, _⟩ | ⟨g', cap, cur, rfl, _, hh, _⟩
  · simp [Value.ownBlock] at hr
  · have : g' = b := by simpa [Value.ownBlock] using hr
    subst this
    exact Blk.ne_of_type (t := 5) hh k hne rfl
theorem PenAt.g_ne {w : World} {B g : Nat} {r : Option Nat} {l : List Nat} (h : PenAt w B g r l) {b : Nat} {t : TypeId} {cs : Array Value} (k : Blk w b t cs) (hne : 72 ≠ t) : g ≠ b := by
  obtain ⟨v, hb, _⟩ := h
  exact Blk.ne_of_type hb k hne
theorem PenAt.eye {w w1 : World} {B g e : Nat} {r : Option Nat} {l m m1 : List Nat} {f f1 : Bool} (h : PenAt w B g r l) (he : EyeAt w e m f) (k : EyeTo e m1 f1 w w1) : PenAt w1 B g r l :=
  h.fr k.2 (h.g_ne he.1 (by decide)) (fun q hq e' => h.row_ne he.1 (by decide) (by rw [hq, e']))
theorem EyeAt.pen {w w1 : World} {B g e : Nat} {r : Option Nat} {l l1 m : List Nat} {f : Bool} (he : EyeAt w e m f) (h : PenAt w B g r l) (k : PenTo B g r l1 w w1) : EyeAt w1 e m f := by
  obtain ⟨r1, _, hf, _⟩ := k
  exact he.fr hf (fun hs => hs.elim (fun e' => h.g_ne he.1 (by decide) e'.symm) (fun e' => h.row_ne he.1 (by decide) e'))
theorem blk_eye {w w1 : World} {b e : Nat} {t : TypeId} {cs : Array Value} {m m1 : List Nat} {f f1 : Bool} (hb : Blk w b t cs) (he : EyeAt w e m f) (hne : t ≠ 88) (k : EyeTo e m1 f1 w w1) : Blk w1 b t cs :=
  hb.fr k.2 (Blk.ne_of_type hb he.1 hne)

/-! ### An eye that has failed -/
theorem dead_num (g : Nat) (w : World) (h : EyeAt w g [] true) : Calls Tryd.prog 30 #[.pointer (some ⟨g, 0, none⟩)] w fun e w' => e = .returned (.int .u64 0) ∧ EyeTo g [] true w w' := eye_bad g [] true w h rfl
theorem dead_byte (g : Nat) (w : World) (h : EyeAt w g [] true) : Calls Tryd.prog 19 #[.pointer (some ⟨g, 0, none⟩)] w fun e w' => e = .returned (.int .u8 0) ∧ EyeTo g [] true w w' := eyeByteEnd g true w h
theorem dead_flag (g : Nat) (w : World) (h : EyeAt w g [] true) : Calls Tryd.prog 32 #[.pointer (some ⟨g, 0, none⟩)] w fun e w' => e = .returned (.bool false) ∧ EyeTo g [] true w w' := eyeFlag g [] true w h
theorem dead_int (g : Nat) (w : World) (h : EyeAt w g [] true) : Calls Tryd.prog 31 #[.pointer (some ⟨g, 0, none⟩)] w fun e w' => e = .returned (.int .i64 0) ∧ EyeTo g [] true w w' := eyeInt g [] true w h
theorem eye_ibad (g : Nat) (l : List Nat) (w : World) (h : EyeAt w g l false) (hd : decB 0 l = none) : Calls Tryd.prog 31 #[.pointer (some ⟨g, 0, none⟩)] w fun e w' => e = .returned (.int .i64 0) ∧ EyeTo g [] true w w' := by
  obtain ⟨a, b, c⟩ := num_none hd
  have := eyeInt g l false w h
  rwa [a, b, c] at this
theorem flag_end (g : Nat) (w : World) (h : EyeAt w g [] false) : Calls Tryd.prog 32 #[.pointer (some ⟨g, 0, none⟩)] w fun e w' => e = .returned (.bool false) ∧ EyeTo g [] true w w' := eyeFlag g [] false w h
theorem flag_bad (g b : Nat) (l : List Nat) (w : World) (hb : 1 < b) (h : EyeAt w g (b :: l) false) : Calls Tryd.prog 32 #[.pointer (some ⟨g, 0, none⟩)] w fun e w' => e = .returned (.bool false) ∧ EyeTo g [] true w w' := by
  have := eyeFlag g (b :: l) false w h
  have e1 : flagR (b :: l) = false := by unfold flagR byteR; simp; omega
  have e2 : flagL (b :: l) = [] := by unfold flagL byteR; rw [if_pos hb]
  have e3 : flagF (b :: l) false = true := by unfold flagF byteR; rw [if_pos hb]
  rwa [e1, e2, e3] at this
theorem flag_zero (g : Nat) (l : List Nat) (w : World) (h : EyeAt w g (0 :: l) false) : Calls Tryd.prog 32 #[.pointer (some ⟨g, 0, none⟩)] w fun e w' => e = .returned (.bool false) ∧ EyeTo g l false w w' := eyeFlag g (0 :: l) false w h
theorem flag_one (g : Nat) (l : List Nat) (w : World) (h : EyeAt w g (1 :: l) false) : Calls Tryd.prog 32 #[.pointer (some ⟨g, 0, none⟩)] w fun e w' => e = .returned (.bool true) ∧ EyeTo g l false w w' := eyeFlag g (1 :: l) false w h
theorem unz_range {m : Nat} (h : m < 18446744073709551616) : -9223372036854775808 ≤ unz m ∧ unz m ≤ 9223372036854775807 ∧ (zz (unz m)).toNat = m := by
  unfold unz zz; split <;> split <;> omega
theorem bs_take (l m : List Nat) : (bs (l ++ m)).extract 0 l.length = bs l := by
  apply ByteArray.ext
  apply Array.toList_inj.1
  rw [Lib.extract_data, bs_data, bs_data]
  simp

end Go.Proofs.YtjhffbhjiflfeaaDoor
