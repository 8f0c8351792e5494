/-
  Red-black trees in memory (h): colours turned.
-/
import Derived.Test.YtjlnbpomncglcaaProg
import Derived.Test.YtjlnbpomncglcaaRBHB
import Derived.BigRegion
namespace Go.Proofs.Ytjlnbpomncglcaa
set_option linter.unusedVariables false
set_option linter.unusedSimpArgs false
set_option maxRecDepth 100000
open Go.RowKit

set_option maxHeartbeats 4000000 in
theorem rh_flip (b b1 b2 : Nat) (c c1 c2 : Bool) (l1 r1 l2 r2 : RB (Int × Int)) (k k1 k2 : RK) (v v1 v2 : Int) (s s1 s2 : (Int × Int)) (w : World) (h : RepH w (.node b c (.node b1 c1 l1 k1 v1 s1 r1) k v s (.node b2 c2 l2 k2 v2 s2 r2))) (hn : (RB.node b c (.node b1 c1 l1 k1 v1 s1 r1) k v s (.node b2 c2 l2 k2 v2 s2 r2)).blocks.Nodup) :
    Calls Try.prog 119 #[.pointer (some ⟨b, 0, none⟩)] w fun e w' => e = .returned (.tuple #[]) ∧ ToH (fun j => j = b ∨ j = b1 ∨ j = b2) (.node b (!c) (.node b1 (!c1) l1 k1 v1 s1 r1) k v s (.node b2 (!c2) l2 k2 v2 s2 r2)) w w' := by
  obtain ⟨h0, ⟨h1, hl1, hr1⟩, ⟨h2, hl2, hr2⟩⟩ := h
  have x0 : w.cell? ⟨b, 5, none⟩ = some (.bool c) := h0.get 5 rfl
  have x1 : w.cell? ⟨b, 6, none⟩ = some (.pointer (some ⟨b1, 0, none⟩)) := h0.get 6 rfl
  have x2 : w.cell? ⟨b, 7, none⟩ = some (.pointer (some ⟨b2, 0, none⟩)) := h0.get 7 rfl
  have x3 : w.cell? ⟨b1, 5, none⟩ = some (.bool c1) := h1.get 5 rfl
  have x4 : w.cell? ⟨b2, 5, none⟩ = some (.bool c2) := h2.get 5 rfl
  have f0 := h0.frozen 5
  have f1 := h1.frozen 5
  have f2 := h2.frozen 5
  simp only [RB.blocks, List.nodup_cons, List.mem_append, List.mem_cons, List.nodup_append, not_or] at hn
  have n1 : b ≠ b1 := hn.1.1.1
  have n2 : b ≠ b2 := hn.1.2.1
  have n3 : b1 ≠ b2 := fun e => hn.2.2.2 b1 (Or.inl rfl) b2 (Or.inl rfl) e
  have HN := Lib.hid hn
  have HR := Lib.hid (And.intro h0 (And.intro h1 (And.intro hl1 (And.intro hr1 (And.intro h2 (And.intro hl2 hr2))))))
  clear hn h0 h1 hl1 hr1 h2 hl2 hr2
  go_enter Try.func119, Try.ntmps119
  go_wp2_with fail
  go_region
  go_wp2_with fail
  go_end0
  have F : Fr (fun j => j = b ∨ j = b1 ∨ j = b2) w ((((w.setCell ⟨b, 5, none⟩ (.bool !c)).setCell ⟨b1, 5, none⟩ (.bool !c1)).setCell ⟨b2, 5, none⟩ (.bool !c2)).drew) :=
    ((((Fr.refl _ w).setCell (p := ⟨b, 5, none⟩) (fun _ => Or.inl rfl) _).setCell (p := ⟨b1, 5, none⟩) (fun _ => Or.inr (Or.inl rfl)) _).setCell (p := ⟨b2, 5, none⟩) (fun _ => Or.inr (Or.inr rfl)) _).drew
  obtain ⟨h0, h1, hl1, hr1, h2, hl2, hr2⟩ := HR.out
  have hn := HN.out
  have m3 : b1 ≠ b2 := n3
  refine ⟨rfl, ⟨?_, ⟨?_, hl1.fr F ?_, hr1.fr F ?_⟩, ⟨?_, hl2.fr F ?_, hr2.fr F ?_⟩⟩, F⟩
  · exact ((h0.put 5 _).far (p := ⟨b1, 5, none⟩) n1 _).far (p := ⟨b2, 5, none⟩) n2 _
  · exact ((h1.far (p := ⟨b, 5, none⟩) (Ne.symm n1) _).put 5 _).far (p := ⟨b2, 5, none⟩) m3 _
  · rintro x hx (rfl | rfl | rfl)
    · exact hn.1.1.2.1 hx
    · exact hn.2.1.1.1 hx
    · exact hn.2.2.2 x (Or.inr (Or.inl hx)) x (Or.inl rfl) rfl
  · rintro x hx (rfl | rfl | rfl)
    · exact hn.1.1.2.2 hx
    · exact hn.2.1.1.2 hx
    · exact hn.2.2.2 x (Or.inr (Or.inr hx)) x (Or.inl rfl) rfl
  · exact ((h2.far (p := ⟨b, 5, none⟩) (Ne.symm n2) _).far (p := ⟨b1, 5, none⟩) (Ne.symm m3) _).put 5 _
  · rintro x hx (rfl | rfl | rfl)
    · exact hn.1.2.2.1 hx
    · exact hn.2.2.2 x (Or.inl rfl) x (Or.inr (Or.inl hx)) rfl
    · exact hn.2.2.1.1.1 hx
  · rintro x hx (rfl | rfl | rfl)
    · exact hn.1.2.2.2 hx
    · exact hn.2.2.2 x (Or.inl rfl) x (Or.inr (Or.inr hx)) rfl
    · exact hn.2.2.1.1.2 hx

end Go.Proofs.Ytjlnbpomncglcaa
