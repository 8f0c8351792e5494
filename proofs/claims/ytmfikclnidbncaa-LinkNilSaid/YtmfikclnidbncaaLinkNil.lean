/-
  The walk of the law LinkNil: a link that nobody made sends nothing.
-/
import Derived.Test.YtmfikclnidbncaaProg
import Derived.Test.YtmfikclnidbncaaLinkA
import Derived.Test.YtmfikclnidbncaaLinkB
namespace Go.Proofs.Ytmfikclnidbncaa
set_option linter.unusedVariables false
set_option linter.unusedSimpArgs false
open Go.RowKit

set_option maxHeartbeats 1000000 in
theorem linkNil_at (now n : Int) (w : World) : Calls Try.prog 4 #[.int .u64 now, .int .i64 n] w fun e w' => e = .returned (.bool true) ∧ Below w.heap.size w w' := by
  go_enter Try.func4, Try.ntmps4
  go_wp2_with fail
  refine wp_loop_rounds 3 ?_
  rw [rounds_succ]
  go_wp2_with fail
  refine (idle_unmade none now _ (.inl rfl)).mono ?_
  rintro e w1 ⟨rfl, rfl⟩
  go_wp2_with fail
  refine (send_unmade none now n _ (.inl rfl)).mono ?_
  rintro e w1 ⟨rfl, hb1⟩
  have B1 : Below w.heap.size w w1 := Below.trans (by go_grown) (hb1.mono (by simp only [World.size_alloc]; omega))
  have c0 : w1.cell? ⟨w.heap.size, 0, none⟩ = some (.int .u64 0) := (hb1.cell (p := ⟨w.heap.size, 0, none⟩) (by simp only [World.size_alloc]; omega)).trans (by go_simp)
  have c1 : w1.cell? ⟨w.heap.size + 1, 1, none⟩ = some (.pointer (some ⟨w.heap.size, 0, none⟩)) := (hb1.cell (p := ⟨w.heap.size + 1, 1, none⟩) (by simp only [World.size_alloc]; omega)).trans (by go_simp)
  clear hb1
  go_wp2_with fail
  refine (rate_unmade none _ (.inl rfl)).mono ?_
  rintro e w2 ⟨rfl, rfl⟩
  go_wp2_with fail
  refine (until_unmade none _ (.inl rfl)).mono ?_
  rintro e w2 ⟨rfl, rfl⟩
  go_wp2_with fail
  refine (free_unmade none now _ (.inl rfl)).mono ?_
  rintro e w2 ⟨rfl, rfl⟩
  go_wp2_with fail
  refine (idles_unmade none _ (.inl rfl)).mono ?_
  rintro e w2 ⟨rfl, rfl⟩
  go_wp2_with fail
  refine (takes_unmade none n _ (.inl rfl)).mono ?_
  rintro e w2 ⟨rfl, rfl⟩
  go_wp2_with fail
  rw [rounds_succ]
  go_wp2_with fail
  have U := fun W (h : W.cell? ⟨w.heap.size, 0, none⟩ = some (.int .u64 0)) => (show Unmade W (some ⟨w.heap.size, 0, none⟩) from .inr ⟨_, rfl, h⟩)
  have HU := Lib.hid U
  clear U
  refine (idle_unmade _ now _ (HU.out _ c0)).mono ?_
  rintro e w2 ⟨rfl, rfl⟩
  go_wp2_with fail
  refine (send_unmade _ now n _ (HU.out _ c0)).mono ?_
  rintro e w2 ⟨rfl, hb2⟩
  have B2 := below_next B1 hb2
  have d0 : w2.cell? ⟨w.heap.size, 0, none⟩ = some (.int .u64 0) := (hb2.cell (World.block_lt_of_cell? _ _ c0)).trans c0
  clear hb2 c0 c1
  go_wp2_with fail
  refine (rate_unmade _ _ (HU.out _ d0)).mono ?_
  rintro e w3 ⟨rfl, rfl⟩
  go_wp2_with fail
  refine (until_unmade _ _ (HU.out _ d0)).mono ?_
  rintro e w3 ⟨rfl, rfl⟩
  go_wp2_with fail
  refine (free_unmade _ now _ (HU.out _ d0)).mono ?_
  rintro e w3 ⟨rfl, rfl⟩
  go_wp2_with fail
  refine (idles_unmade _ _ (HU.out _ d0)).mono ?_
  rintro e w3 ⟨rfl, rfl⟩
  go_wp2_with fail
  refine (takes_unmade _ n _ (HU.out _ d0)).mono ?_
  rintro e w3 ⟨rfl, rfl⟩
  go_wp2_with fail
  rw [rounds_succ]
  go_wp2_with fail
  refine (copy_nil _).mono ?_
  rintro e w3 ⟨rfl, rfl⟩
  go_wp2_with fail
  go_ret
  exact ⟨rfl, B2⟩

theorem linkNil_walk (a : Int) (fa : (Lit.int .u64 a).wf = true) (b : Int) (fb : (Lit.int .i64 b).wf = true) (w : World) : Calls Try.prog 4 #[.int .u64 a, .int .i64 b] w fun e w' => e = .returned (.bool true) ∧ Below w.heap.size w w' :=
  linkNil_at a b w

end Go.Proofs.Ytmfikclnidbncaa
