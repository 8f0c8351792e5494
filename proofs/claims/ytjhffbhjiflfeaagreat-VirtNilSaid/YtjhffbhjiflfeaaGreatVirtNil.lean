/-
  VirtNil holds.
-/
import Derived.Test.YtjhffbhjiflfeaaGreatVirtV
namespace Go.Proofs.YtjhffbhjiflfeaaGreat
set_option linter.unusedVariables false
set_option linter.unusedSimpArgs false
set_option maxRecDepth 100000
open Go.RowKit Go.Shelf

set_option maxHeartbeats 8000000 in
theorem virtNil_walk (w : World) (id : Int) (fid : (Lit.int .i64 id).wf = true) (xF : Int) (fF : (Lit.int .u64 xF).wf = true) (xL : Int) (fL : (Lit.int .u64 xL).wf = true) (xR : Int) (fR : (Lit.int .u64 xR).wf = true) (g : Int) (fg : (Lit.int .u64 g).wf = true) :
    Calls Tryz.prog 4 #[.int .i64 id, .agg #[.int .u64 xF, .int .u64 xL, .int .u64 xR], .int .u64 g] w fun e w' => e = .returned (.bool true) ∧ Below w.heap.size w w' := by
  clear fid fF fL fR fg
  go_enter Tryz.func4, Tryz.ntmps4
  go_wp2_with fail
  have bC := ((Blk.new w 32 #[.int .u64 xF, .int .u64 xL, .int .u64 xR]).alloc (.cells #[.map none, .int .u64 0] 43)).alloc (.cells #[.pointer none, .pointer (some ⟨w.heap.size + 1, 0, none⟩)] 24)
  have bF := (Blk.new (w.alloc (.cells #[.int .u64 xF, .int .u64 xL, .int .u64 xR] 32)) 43 #[.map none, .int .u64 0]).alloc (.cells #[.pointer none, .pointer (some ⟨w.heap.size + 1, 0, none⟩)] 24)
  have bS := Blk.new ((w.alloc (.cells #[.int .u64 xF, .int .u64 xL, .int .u64 xR] 32)).alloc (.cells #[.map none, .int .u64 0] 43)) 24 #[.pointer none, .pointer (some ⟨w.heap.size + 1, 0, none⟩)]
  have hB0 : Below w.heap.size w (((w.alloc (.cells #[.int .u64 xF, .int .u64 xL, .int .u64 xR] 32)).alloc (.cells #[.map none, .int .u64 0] 43)).alloc (.cells #[.pointer none, .pointer (some ⟨w.heap.size + 1, 0, none⟩)] 24)) := by go_grown
  simp only [World.size_alloc] at bF bS
  obtain ⟨W0, hW0⟩ : ∃ z, ((w.alloc (.cells #[.int .u64 xF, .int .u64 xL, .int .u64 xR] 32)).alloc (.cells #[.map none, .int .u64 0] 43)).alloc (.cells #[.pointer none, .pointer (some ⟨w.heap.size + 1, 0, none⟩)] 24) = z := ⟨_, rfl⟩
  rw [hW0] at bC bF bS hB0 ⊢
  have HBX := Lib.hid bC
  have HBF := Lib.hid bF
  have HBS := Lib.hid bS
  have HB0 := Lib.hid hB0
  clear hW0 bC bF bS hB0
  go_loopg [9] 2 (fun gk ix wr => ∃ i : Nat, i + gk = 2 ∧ ix = .int .i64 i ∧ Below W0.heap.size W0 wr)
  case atStart => exact ⟨0, rfl, rfl, Below.refl _ _⟩
  case round =>
    obtain ⟨i, hi, rfl, hb⟩ := hrel
    have HO := Lib.hid hb
    clear hb
    obtain ⟨wo, rfl⟩ : ∃ x : World, x = wr := ⟨_, rfl⟩
    have s0 := (HBS.out.next HO.out).get 0 rfl
    have s1 := (HBS.out.next HO.out).get 1 rfl
    obtain rfl | rfl | rfl : i = 0 ∨ i = 1 ∨ i = 2 := by omega
    · obtain rfl : gk = 2 := by omega
      clear hi
      have HNF : Hid (NoF wo (.pointer none)) := Or.inl rfl
      have HP := Lib.hid (show NoF wo (.pointer none) from HNF.out)
      have z0 := (HBX.out.next HO.out).get 0 rfl
      have z1 := (HBX.out.next HO.out).get 1 rfl
      have z2 := (HBX.out.next HO.out).get 2 rfl
      go_wp2_with fail
      with_reducible refine (nf_add _ id xF xL xR wo HP.out).mono ?_
      rintro e w1 ⟨rfl, hb1⟩
      have HP1 := Lib.hid (HP.out.next hb1)
      have HO1 := Lib.hid (below_next HO.out hb1)
      clear hb1 z0 z1 z2
      go_wp2_with fail
      with_reducible refine (nf_drop _ id w1 HP1.out).mono ?_
      rintro e wx ⟨rfl, rfl⟩
      go_wp2_with fail
      with_reducible refine (nf_wake _ id w1 HP1.out).mono ?_
      rintro e wx ⟨rfl, rfl⟩
      go_wp2_with fail
      with_reducible refine (nf_gain _ id g w1 HP1.out).mono ?_
      rintro e wx ⟨rfl, rfl⟩
      go_wp2_with fail
      with_reducible refine (nf_sleep _ id w1 HP1.out).mono ?_
      rintro e wx ⟨rfl, rfl⟩
      go_wp2_with fail
      with_reducible refine (nf_awake _ id w1 HP1.out).mono ?_
      rintro e wx ⟨rfl, rfl⟩
      go_wp2_with fail
      with_reducible refine (nf_v _ id w1 HP1.out).mono ?_
      rintro e wx ⟨rfl, rfl⟩
      go_wp2_with fail
      with_reducible refine (nf_total _ id w1 HP1.out).mono ?_
      rintro e wx ⟨rfl, rfl⟩
      go_wp2_with fail
      with_reducible refine (nf_mark _ w1 HP1.out).mono ?_
      rintro e wx ⟨rfl, rfl⟩
      go_wp2_with fail
      with_reducible refine (nf_ids _ w1 HP1.out).mono ?_
      rintro e w2 ⟨rfl, hb2⟩
      have HO2 := Lib.hid (below_next HO1.out hb2)
      clear hb2
      go_wp2_with fail
      go_roundg 1
      case rel => exact ⟨1, rfl, rfl, HO2.out⟩
      case measure => omega

    · obtain rfl : gk = 1 := by omega
      clear hi
      have HNF : Hid (NoF wo (.pointer (some ⟨w.heap.size + 1, 0, none⟩))) := Or.inr ⟨_, rfl, HBF.out.next HO.out⟩
      have HP := Lib.hid (show NoF wo (.pointer (some ⟨w.heap.size + 1, 0, none⟩)) from HNF.out)
      have z0 := (HBX.out.next HO.out).get 0 rfl
      have z1 := (HBX.out.next HO.out).get 1 rfl
      have z2 := (HBX.out.next HO.out).get 2 rfl
      go_wp2_with fail
      with_reducible refine (nf_add _ id xF xL xR wo HP.out).mono ?_
      rintro e w1 ⟨rfl, hb1⟩
      have HP1 := Lib.hid (HP.out.next hb1)
      have HO1 := Lib.hid (below_next HO.out hb1)
      clear hb1 z0 z1 z2
      go_wp2_with fail
      with_reducible refine (nf_drop _ id w1 HP1.out).mono ?_
      rintro e wx ⟨rfl, rfl⟩
      go_wp2_with fail
      with_reducible refine (nf_wake _ id w1 HP1.out).mono ?_
      rintro e wx ⟨rfl, rfl⟩
      go_wp2_with fail
      with_reducible refine (nf_gain _ id g w1 HP1.out).mono ?_
      rintro e wx ⟨rfl, rfl⟩
      go_wp2_with fail
      with_reducible refine (nf_sleep _ id w1 HP1.out).mono ?_
      rintro e wx ⟨rfl, rfl⟩
      go_wp2_with fail
      with_reducible refine (nf_awake _ id w1 HP1.out).mono ?_
      rintro e wx ⟨rfl, rfl⟩
      go_wp2_with fail
      with_reducible refine (nf_v _ id w1 HP1.out).mono ?_
      rintro e wx ⟨rfl, rfl⟩
      go_wp2_with fail
      with_reducible refine (nf_total _ id w1 HP1.out).mono ?_
      rintro e wx ⟨rfl, rfl⟩
      go_wp2_with fail
      with_reducible refine (nf_mark _ w1 HP1.out).mono ?_
      rintro e wx ⟨rfl, rfl⟩
      go_wp2_with fail
      with_reducible refine (nf_ids _ w1 HP1.out).mono ?_
      rintro e w2 ⟨rfl, hb2⟩
      have HO2 := Lib.hid (below_next HO1.out hb2)
      clear hb2
      go_wp2_with fail
      go_roundg 0
      case rel => exact ⟨2, rfl, rfl, HO2.out⟩
      case measure => omega

    · clear hi s0 s1
      have AW := Lib.hid (vawake_law wo)
      go_wp2_with fail
      with_reducible refine (nf_copy wo).mono ?_
      rintro e wx ⟨rfl, rfl⟩
      go_wp2_with fail
      with_reducible refine (AW.out).mono ?_
      rintro e w2 ⟨rfl, hb2⟩
      have HO2 := Lib.hid (below_next HO.out hb2)
      clear hb2
      go_wp2_with fail
      go_ret
      exact ⟨by simp, HB0.out.trans (HO2.out.mono HB0.out.size)⟩

end Go.Proofs.YtjhffbhjiflfeaaGreat
