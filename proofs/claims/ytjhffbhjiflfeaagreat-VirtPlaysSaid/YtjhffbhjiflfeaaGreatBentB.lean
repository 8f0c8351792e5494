/-
  A run of a bent curve behind starts; the chapter's examples.
-/
import Derived.Test.YtjhffbhjiflfeaaGreatBentS
namespace Go.Proofs.YtjhffbhjiflfeaaGreat
set_option linter.unusedVariables false
set_option linter.unusedSimpArgs false
open Go.RowKit Go.Shelf

theorem IsBent.next {w w' : World} {q : Nat} {F L R n x f r : Int} (h : IsBent w q F L R n x f r) (hb : Below w.heap.size w w') : IsBent w' q F L R n x f r := Blk.next h hb
theorem IsBent.fr {S : Nat → Prop} {w w' : World} {q : Nat} {F L R n x f r : Int} (h : IsBent w q F L R n x f r) (hf : Fr S w w') (hn : ¬ S q) : IsBent w' q F L R n x f r := Blk.fr h hf hn
theorem IsBent.lt {w : World} {q : Nat} {F L R n x f r : Int} (h : IsBent w q F L R n x f r) : q < w.heap.size := Blk.lt h
theorem bstart_val (q : Nat) (F L R n x f r X Y n' x' f' r' : Int) (w : World) (h : IsBent w q F L R n x f r) (hm : Made F L R n x f r) (hn1 : n ≤ 1000000) (wX : Word X) (wY : Word Y) (e0 : n + 1 = n') (e1 : nextX x X = x') (e2 : nextH F 0 n x f X Y = f') (e3 : nextH R ((F - R) * L) n x r X Y = r') :
    Calls Tryz.prog 113 #[.pointer (some ⟨q, 0, none⟩), .int .u64 X, .int .u64 Y] w fun e w' =>
      e = .returned (.tuple #[]) ∧ IsBent w' q F L R n' x' f' r' ∧ Fr (fun k => k = q) w w' := by
  rw [← e0, ← e1, ← e2, ← e3]; exact bstart_made q F L R n x f r X Y w h hm hn1 wX wY
theorem breach0_val (q : Nat) (F L R x f r y v : Int) (w : World) (h : IsBent w q F L R 0 x f r) (hv : (if y = 0 then 0 else 9223372036854775808) = v) : Calls Tryz.prog 112 #[.pointer (some ⟨q, 0, none⟩), .int .u64 y] w fun e w' => e = .returned (.int .u64 v) ∧ Below w.heap.size w w' := by
  rw [← hv]; exact breach_zero q F L R x f r y w h

/-- A column, with zeros behind its end. -/
def cutF (F : Nat → Int) (n : Nat) : Nat → Int := fun i => if i < n then F i else 0
theorem cutF_at {F : Nat → Int} {n i : Nat} (h : i < n) : cutF F n i = F i := by unfold cutF; rw [if_pos h]
theorem cutF_word {F : Nat → Int} {n : Nat} (h : ∀ i, i < n → Word (F i)) (i : Nat) : Word (cutF F n i) := by
  unfold cutF; split
  · exact h i ‹_›
  · exact ⟨by decide, by decide⟩

/-- What the acts that came in are. -/
def ActsAt (w : World) (A : Option Addr) (n : Nat) (X Y : Nat → Int) : Prop :=
  ∀ b off, A = some ⟨b, off, none⟩ → ∀ i, i < n → w.cell? ⟨b, off + i * 4, none⟩ = some (.int .u64 (X i)) ∧ w.cell? ⟨b, off + i * 4 + 1, none⟩ = some (.int .u64 (Y i))

end Go.Proofs.YtjhffbhjiflfeaaGreat
