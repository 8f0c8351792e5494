/-
  Red-black trees in memory (h): what is asked of a tree.
-/
import Derived.Test.YtjlnbpomncglcaaProg
import Derived.Test.YtjlnbpomncglcaaRBHK
namespace Go.Proofs.Ytjlnbpomncglcaa
set_option linter.unusedVariables false
set_option linter.unusedSimpArgs false
set_option maxRecDepth 100000
open Go.RowKit

theorem rh_len (T : Nat) (t : RB (Int × Int)) (w : World) (h : TrIsH w T t) :
    Calls Try.prog 79 #[.pointer (some ⟨T, 0, none⟩)] w fun e w' => e = .returned (.int .i64 (t.items.length : Int)) ∧ Below w.heap.size w w' := by
  have HT := Lib.hid h
  clear h
  go_enter Try.func79, Try.ntmps79
  go_wp2_with fail
  with_reducible refine (rh_none T w HT.out.tre).mono ?_
  rintro e wx ⟨rfl, rfl⟩
  have x0 : w.cell? ⟨T, 3, none⟩ = some (.int .i64 (t.items.length : Int)) := HT.out.blk.get 3 rfl
  go_wp2_with fail
  go_ret
  exact ⟨rfl, Below.refl _ _⟩
set_option maxHeartbeats 4000000 in
theorem rh_get (T : Nat) (t : RB (Int × Int)) (k : RK) (w : World) (h : TrIsH w T t) :
    Calls Try.prog 76 #[.pointer (some ⟨T, 0, none⟩), .agg #[.int .u64 k.1, .int .i64 k.2]] w fun e w' => e = .returned (.tuple #[.int .u64 ((get k t.items).getD 0), .bool (get k t.items).isSome]) ∧ Below w.heap.size w w' := by
  have HT := Lib.hid h
  clear h
  go_enter Try.func76, Try.ntmps76
  go_upto_region 1 with (fail)
  have hb0 : Below w.heap.size w (w.alloc (.cells #[.int .u64 k.1, .int .i64 k.2] 31)) := by go_grown
  have kb := Blk.new w 31 #[.int .u64 k.1, .int .i64 k.2]
  generalize w.alloc (.cells #[.int .u64 k.1, .int .i64 k.2] 31) = wa at hb0 kb ⊢
  have HB := Lib.hid hb0
  have k0 : wa.cell? ⟨w.heap.size, 0, none⟩ = some (.int .u64 k.1) := kb.get 0 rfl
  have k1 : wa.cell? ⟨w.heap.size, 1, none⟩ = some (.int .i64 k.2) := kb.get 1 rfl
  clear hb0 kb
  go_wp2_with fail
  with_reducible refine (rh_at T t k wa (HT.out.next HB.out)).mono ?_
  rintro e w1 ⟨p, rfl, hp, hb1⟩
  have HB1 := Lib.hid (HB.out.trans (hb1.mono HB.out.size))
  unfold AtIsH at hp
  clear hb1 k0 k1
  cases hg : get k t.items with
  | none =>
    rw [hg] at hp
    have hp : p = .pointer none := hp
    subst hp
    have HG := Lib.hid hg
    clear hg
    go_wp2_with fail
    go_ret2
    exact ⟨by rw [HG.out]; rfl, HB1.out⟩
  | some v =>
    rw [hg] at hp
    obtain ⟨b, c, l, s, r, rfl, hb, -⟩ := (show ∃ (b : Nat) (c : Bool) (l : RB (Int × Int)) (s : (Int × Int)) (r : RB (Int × Int)), p = .pointer (some ⟨b, 0, none⟩) ∧ Blk w1 b 138 #[.int .u64 k.1, .int .i64 k.2, .int .u64 v, .int .u64 s.1, .int .i64 s.2, .bool c, ptrV (l : RB (Int × Int)), ptrV (r : RB (Int × Int))] ∧ b ∈ t.blocks from hp)
    have HG := Lib.hid hg
    have x0 : w1.cell? ⟨b, 2, none⟩ = some (.int .u64 v) := hb.get 2 rfl
    clear hg hp hb
    go_wp2_with fail
    go_ret2
    exact ⟨by rw [HG.out]; rfl, HB1.out⟩
/-- The summary of all. -/
def allH : RB (Int × Int) → (Int × Int)
  | .nil => ((0, 0) : Int × Int)
  | .node _ _ _ _ _ s _ => s
theorem rh_all (T : Nat) (t : RB (Int × Int)) (w : World) (h : TrIsH w T t) :
    Calls Try.prog 78 #[.pointer (some ⟨T, 0, none⟩)] w fun e w' => e = .returned (.tuple #[(.agg #[.int .u64 (allH t).1, .int .i64 (allH t).2]), .bool (!t.items.isEmpty)]) ∧ Below w.heap.size w w' := by
  have HT := Lib.hid h
  have hTl := h.blk.lt
  clear h
  go_enter Try.func78, Try.ntmps78
  go_wp2_with fail
  with_reducible refine (rh_none T _ (HT.out.next (by go_grown)).tre).mono ?_
  rintro e wx ⟨rfl, rfl⟩
  cases t with
  | nil =>
    have x0 : w.cell? ⟨T, 2, none⟩ = some (.pointer none) := HT.out.blk.get 2 rfl
    go_wp2_with fail
    go_returns
    exact ⟨rfl, by first | exact Below.refl _ _ | go_grown⟩
  | node b c l k v s r =>
    have x0 : w.cell? ⟨T, 2, none⟩ = some (.pointer (some ⟨b, 0, none⟩)) := HT.out.blk.get 2 rfl
    have hb : Blk w b 138 #[.int .u64 k.1, .int .i64 k.2, .int .u64 v, .int .u64 s.1, .int .i64 s.2, .bool c, ptrV l, ptrV r] ∧ RepH w l ∧ RepH w r := HT.out.rep
    have hbl := hb.1.lt
    have y0 : w.cell? ⟨b, 3, none⟩ = some (.int .u64 s.1) := hb.1.get 3 rfl
    have y1 : w.cell? ⟨b, 4, none⟩ = some (.int .i64 s.2) := hb.1.get 4 rfl
    have he : (RB.items (.node b c l k v s r)).isEmpty = false := by simp [RB.items]
    have HE := Lib.hid he
    clear hb he
    go_wp2_with fail
    go_returns
    exact ⟨by rw [HE.out]; rfl, by first | exact Below.refl _ _ | go_grown⟩

end Go.Proofs.Ytjlnbpomncglcaa
