/-
  Red-black trees in memory (h): a tree's copy.
-/
import Derived.Test.YtjlnbpomncglcaaProg
import Derived.Test.YtjlnbpomncglcaaRBHR
import Derived.Laws.EntriesVeiled
namespace Go.Proofs.Ytjlnbpomncglcaa
set_option linter.unusedVariables false
set_option linter.unusedSimpArgs false
set_option maxRecDepth 100000
open Go.RowKit

def CopyRH (w : World) (t : RB (Int × Int)) (e : Ending) (w' : World) : Prop := ∃ (T' : Nat) (t' : RB (Int × Int)), e = .returned (.pointer (some ⟨T', 0, none⟩)) ∧ TrIsH w' T' t' ∧ likeH t t' ∧ w.heap.size ≤ T' ∧ (∀ x ∈ t'.blocks, w.heap.size ≤ x) ∧ Below w.heap.size w w'
set_option maxHeartbeats 8000000 in
theorem rh_Copy (T : Nat) (t : RB (Int × Int)) (w : World) (h : TrIsH w T t) : Calls Try.prog 81 #[.pointer (some ⟨T, 0, none⟩)] w fun e w' => CopyRH w t e w' := by
  have HT := Lib.hid h
  obtain ⟨len, hlen⟩ : ∃ z : Int, (t.items.length : Int) = z := ⟨_, rfl⟩
  have hbb : Blk w T 135 #[(.func (.func 86) #[] #[]), (.func (.func 87) #[] #[]), .pointer (ptrO t), .int .i64 len] := by have := h.blk; rw [ptrV_eq, hlen] at this; exact this
  have HBB := Lib.hid hbb
  have HLN := Lib.hid hlen
  have y0 : w.cell? ⟨T, 0, none⟩ = some (.func (.func 86) #[] #[]) := hbb.get 0 rfl
  have y1 : w.cell? ⟨T, 1, none⟩ = some (.func (.func 87) #[] #[]) := hbb.get 1 rfl
  have y2 : w.cell? ⟨T, 2, none⟩ = some (.pointer (ptrO t)) := hbb.get 2 rfl
  have y3 : w.cell? ⟨T, 3, none⟩ = some (.int .i64 len) := hbb.get 3 rfl
  clear h hbb hlen
  go_enter Try.func81, Try.ntmps81
  go_upto_region 4 with (fail)
  have hba : Below w.heap.size w (w.alloc (.cells #[(.func (.func 86) #[] #[]), (.func (.func 87) #[] #[]), .pointer (ptrO t), .int .i64 len] 135)) := by go_grown
  have hoa : Blk (w.alloc (.cells #[(.func (.func 86) #[] #[]), (.func (.func 87) #[] #[]), .pointer (ptrO t), .int .i64 len] 135)) w.heap.size 135 #[(.func (.func 86) #[] #[]), (.func (.func 87) #[] #[]), .pointer (ptrO t), .int .i64 len] := Blk.new w 135 _
  have hza : (w.alloc (.cells #[(.func (.func 86) #[] #[]), (.func (.func 87) #[] #[]), .pointer (ptrO t), .int .i64 len] 135)).heap.size = w.heap.size + 1 := by simp
  generalize w.alloc (.cells #[(.func (.func 86) #[] #[]), (.func (.func 87) #[] #[]), .pointer (ptrO t), .int .i64 len] 135) = wa at hba hoa hza ⊢
  have HA := Lib.hid (And.intro hba (And.intro hoa hza))
  have z2 : wa.cell? ⟨T, 2, none⟩ = some (.pointer (ptrO t)) := (HBB.out.below hba HBB.out.lt).get 2 rfl
  clear y0 y1 y2 y3 hba hoa hza
  go_wp2_with fail
  with_reducible refine (rh_copied t wa (HT.out.rep.below HA.out.1)).mono ?_
  rintro e w1 ⟨t', rfl, hr, hl, hn, hg, hb⟩
  have HC := Lib.hid (And.intro hr (And.intro hl (And.intro hn (And.intro hg hb))))
  have ho := HA.out.2.1.next hb
  have HO := Lib.hid ho
  have x2 : w1.cell? ⟨w.heap.size, 2, none⟩ = some (.pointer (ptrO t)) := ho.get 2 rfl
  have f2 := ho.frozen 2
  clear hr hl hn hg hb ho z2
  go_wp2_with fail
  go_ret
  obtain ⟨hr, hl, hn, hg, hb⟩ := HC.out
  have F2 : Fr (fun j => j = w.heap.size) w1 (w1.setCell ⟨w.heap.size, 2, none⟩ (.pointer (ptrO t'))) := (Fr.refl (fun j => j = w.heap.size) w1).setCell (p := ⟨w.heap.size, 2, none⟩) (fun _ => rfl) _
  have hza := HA.out.2.2
  have hout : w.heap.size ∉ t'.blocks := fun hx => by have := hg _ hx; omega
  obtain ⟨n, hw⟩ := HT.out.well
  refine ⟨w.heap.size, t', rfl, ⟨?_, RepH.fr F2 hr (fun x hx e => hout (e ▸ hx)), hn, hout, ⟨n, hl.W hw⟩, by rw [hl.red]; exact HT.out.black, by rw [hl.items]; exact HT.out.rises⟩, hl, Nat.le_refl _, fun x hx => by have := hg x hx; omega, ?_⟩
  · rw [ptrV_eq, hl.items, HLN.out]
    exact HO.out.put 2 _
  · exact (HA.out.1.trans (hb.mono (by omega))).setCell (p := ⟨w.heap.size, 2, none⟩) (Nat.le_refl _) _

end Go.Proofs.Ytjlnbpomncglcaa
