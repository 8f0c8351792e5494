/-
  Red-black trees in memory (h): turned left, right.
-/
import Derived.Test.YtjlnbpomncglcaaProg
import Derived.Test.YtjlnbpomncglcaaRBHB
namespace Go.Proofs.Ytjlnbpomncglcaa
set_option linter.unusedVariables false
set_option linter.unusedSimpArgs false
set_option maxRecDepth 100000
open Go.RowKit

set_option maxHeartbeats 8000000 in
theorem rh_left (T b b' : Nat) (c c' : Bool) (l l' r' : RB (Int × Int)) (k k' : RK) (v v' : Int) (s s' : (Int × Int)) (w : World) (h : RepH w (.node b c l k v s (.node b' c' l' k' v' s' r'))) (hn : (RB.blocks (.node b c l k v s (.node b' c' l' k' v' s' r'))).Nodup) (hT : TreH w T) (hTn : T ∉ RB.blocks (.node b c l k v s (.node b' c' l' k' v' s' r'))) :
    Calls Try.prog 118 #[.pointer (some ⟨T, 0, none⟩), .pointer (some ⟨b, 0, none⟩)] w fun e w' => e = .returned (.pointer (some ⟨b', 0, none⟩)) ∧ ToH (fun j => j = b ∨ j = b') (RB.rotL ofH minH (.node b c l k v s (.node b' c' l' k' v' s' r'))) w w' := by
  rw [RB.rotL_n]
  obtain ⟨sa, hsa⟩ : ∃ z, (RB.tot ofH minH l k v l') = z := ⟨_, rfl⟩
  rw [hsa]
  have HSA := Lib.hid hsa
  clear hsa
  obtain ⟨sb, hsb⟩ : ∃ z, (RB.tot ofH minH (.node b true l k v sa l') k' v' r') = z := ⟨_, rfl⟩
  rw [hsb]
  have HSB := Lib.hid hsb
  clear hsb
  have FACT : b ≠ b' ∧ T ≠ b ∧ T ≠ b' ∧ (∀ x, x ∈ l.blocks ∨ x ∈ l'.blocks ∨ x ∈ r'.blocks → ¬ (x = b ∨ x = b')) := by
    simp only [RB.blocks, List.nodup_cons, List.mem_append, List.mem_cons, List.nodup_append, not_or] at hn hTn
    obtain ⟨hn1, hn2⟩ := hn
    refine ⟨fun e => ?_, fun e => ?_, fun e => ?_, ?_⟩
    · simp_all
    · simp_all
    · simp_all
    · rintro x (hx | hx | hx) (rfl | rfl) <;> first | exact hn2.2.2 x hx x (Or.inl rfl) rfl | exact hn2.2.2 x (Or.inl rfl) x hx rfl | simp_all
  obtain ⟨n1, n2, n3, n4⟩ := FACT
  have HN := Lib.hid n4
  obtain ⟨h0, hl, h1, hl', hr'⟩ := h
  have HR := Lib.hid (And.intro h0 (And.intro h1 (And.intro hl (And.intro hl' (And.intro hr' hT)))))
  have x0 : w.cell? ⟨b, 7, none⟩ = some (.pointer (some ⟨b', 0, none⟩)) := h0.get 7 rfl
  have x1 : w.cell? ⟨b', 6, none⟩ = some (.pointer (ptrO l')) := by rw [← ptrV_eq]; exact h1.get 6 rfl
  have x2 : w.cell? ⟨b, 5, none⟩ = some (.bool c) := h0.get 5 rfl
  have x3 : w.cell? ⟨b', 5, none⟩ = some (.bool c') := h1.get 5 rfl
  have f0 := h0.frozen 7
  have f1 := h1.frozen 6
  have f2 := h0.frozen 5
  have f3 := h1.frozen 5
  clear n4 h0 hl h1 hl' hr' hT hn hTn
  have n1' := Ne.symm n1
  go_enter Try.func118, Try.ntmps118
  go_upto_region 4 with (fail)
  have F1 : Fr (fun j => j = b ∨ j = b') w ((((w.setCell ⟨b, 7, none⟩ (.pointer (ptrO l'))).setCell ⟨b', 6, none⟩ (.pointer (some ⟨b, 0, none⟩))).setCell ⟨b', 5, none⟩ (.bool c)).setCell ⟨b, 5, none⟩ (.bool true)) :=
    (((((Fr.refl _ w).setCell (p := ⟨b, 7, none⟩) (fun _ => Or.inl rfl) _).setCell (p := ⟨b', 6, none⟩) (fun _ => Or.inr rfl) _).setCell (p := ⟨b', 5, none⟩) (fun _ => Or.inr rfl) _).setCell (p := ⟨b, 5, none⟩) (fun _ => Or.inl rfl) _)
  have B1 : Blk ((((w.setCell ⟨b, 7, none⟩ (.pointer (ptrO l'))).setCell ⟨b', 6, none⟩ (.pointer (some ⟨b, 0, none⟩))).setCell ⟨b', 5, none⟩ (.bool c)).setCell ⟨b, 5, none⟩ (.bool true)) b 138 #[.int .u64 k.1, .int .i64 k.2, .int .u64 v, .int .u64 s.1, .int .i64 s.2, .bool true, ptrV l, ptrV l'] := by
    rw [ptrV_eq l']
    exact ((((HR.out.1.put 7 _).far (p := ⟨b', 6, none⟩) n1 _).far (p := ⟨b', 5, none⟩) n1 _).put 5 _)
  have B2 : Blk ((((w.setCell ⟨b, 7, none⟩ (.pointer (ptrO l'))).setCell ⟨b', 6, none⟩ (.pointer (some ⟨b, 0, none⟩))).setCell ⟨b', 5, none⟩ (.bool c)).setCell ⟨b, 5, none⟩ (.bool true)) b' 138 #[.int .u64 k'.1, .int .i64 k'.2, .int .u64 v', .int .u64 s'.1, .int .i64 s'.2, .bool c, .pointer (some ⟨b, 0, none⟩), ptrV r'] :=
    ((((HR.out.2.1.far (p := ⟨b, 7, none⟩) n1' _).put 6 _).put 5 _).far (p := ⟨b, 5, none⟩) n1' _)
  have R1 : RepH ((((w.setCell ⟨b, 7, none⟩ (.pointer (ptrO l'))).setCell ⟨b', 6, none⟩ (.pointer (some ⟨b, 0, none⟩))).setCell ⟨b', 5, none⟩ (.bool c)).setCell ⟨b, 5, none⟩ (.bool true)) l ∧ RepH ((((w.setCell ⟨b, 7, none⟩ (.pointer (ptrO l'))).setCell ⟨b', 6, none⟩ (.pointer (some ⟨b, 0, none⟩))).setCell ⟨b', 5, none⟩ (.bool c)).setCell ⟨b, 5, none⟩ (.bool true)) l' ∧ RepH ((((w.setCell ⟨b, 7, none⟩ (.pointer (ptrO l'))).setCell ⟨b', 6, none⟩ (.pointer (some ⟨b, 0, none⟩))).setCell ⟨b', 5, none⟩ (.bool c)).setCell ⟨b, 5, none⟩ (.bool true)) r' ∧ TreH ((((w.setCell ⟨b, 7, none⟩ (.pointer (ptrO l'))).setCell ⟨b', 6, none⟩ (.pointer (some ⟨b, 0, none⟩))).setCell ⟨b', 5, none⟩ (.bool c)).setCell ⟨b, 5, none⟩ (.bool true)) T :=
    ⟨HR.out.2.2.1.fr F1 (fun x hx => HN.out x (Or.inl hx)), HR.out.2.2.2.1.fr F1 (fun x hx => HN.out x (Or.inr (Or.inl hx))), HR.out.2.2.2.2.1.fr F1 (fun x hx => HN.out x (Or.inr (Or.inr hx))), HR.out.2.2.2.2.2.fr F1 (by rintro (e | e); exact n2 e; exact n3 e)⟩
  generalize ((((w.setCell ⟨b, 7, none⟩ (.pointer (ptrO l'))).setCell ⟨b', 6, none⟩ (.pointer (some ⟨b, 0, none⟩))).setCell ⟨b', 5, none⟩ (.bool c)).setCell ⟨b, 5, none⟩ (.bool true)) = w1 at F1 B1 B2 R1 ⊢
  have HF := Lib.hid (And.intro F1 (And.intro B1 (And.intro B2 R1)))
  clear F1 B1 B2 R1 x0 x1 x2 x3 f0 f1 f2 f3 HR
  have HTT := Lib.hid (rh_total T b true l k v s l' w1 ⟨HF.out.2.1, HF.out.2.2.2.1, HF.out.2.2.2.2.1⟩ HF.out.2.2.2.2.2.2)
  rw [HSA.out] at HTT
  go_wp2_with fail
  with_reducible refine HTT.out.mono ?_
  rintro e w2 ⟨rfl, hb2⟩
  replace HF := Lib.hid (And.intro (HF.out.1.trans (Fr.of_new hb2)) (And.intro (HF.out.2.1.next hb2) (And.intro (HF.out.2.2.1.next hb2) (And.intro (HF.out.2.2.2.1.below hb2) (And.intro (HF.out.2.2.2.2.1.below hb2) (And.intro (HF.out.2.2.2.2.2.1.below hb2) (HF.out.2.2.2.2.2.2.below hb2)))))))
  clear hb2 HTT
  have y0 : w2.cell? ⟨b, 3, none⟩ = some (.int .u64 s.1) := HF.out.2.1.get 3 rfl
  have g0 := HF.out.2.1.frozen 3
  have y1 : w2.cell? ⟨b, 4, none⟩ = some (.int .i64 s.2) := HF.out.2.1.get 4 rfl
  have g1 := HF.out.2.1.frozen 4
  go_upto_region 5 with (fail)
  have F2 : Fr (fun j => j = b ∨ j = b') w2 ((w2.setCell ⟨b, 3, none⟩ (.int .u64 sa.1)).setCell ⟨b, 4, none⟩ (.int .i64 sa.2)) := (((Fr.refl _ w2).setCell (p := ⟨b, 3, none⟩) (fun _ => Or.inl rfl) _).setCell (p := ⟨b, 4, none⟩) (fun _ => Or.inl rfl) _)
  have B1 : Blk ((w2.setCell ⟨b, 3, none⟩ (.int .u64 sa.1)).setCell ⟨b, 4, none⟩ (.int .i64 sa.2)) b 138 #[.int .u64 k.1, .int .i64 k.2, .int .u64 v, .int .u64 sa.1, .int .i64 sa.2, .bool true, ptrV l, ptrV l'] := ((HF.out.2.1.put 3 _).put 4 _)
  have B2 : Blk ((w2.setCell ⟨b, 3, none⟩ (.int .u64 sa.1)).setCell ⟨b, 4, none⟩ (.int .i64 sa.2)) b' 138 #[.int .u64 k'.1, .int .i64 k'.2, .int .u64 v', .int .u64 s'.1, .int .i64 s'.2, .bool c, .pointer (some ⟨b, 0, none⟩), ptrV r'] := ((HF.out.2.2.1.far (p := ⟨b, 3, none⟩) n1' _).far (p := ⟨b, 4, none⟩) n1' _)
  have R1 : RepH ((w2.setCell ⟨b, 3, none⟩ (.int .u64 sa.1)).setCell ⟨b, 4, none⟩ (.int .i64 sa.2)) l ∧ RepH ((w2.setCell ⟨b, 3, none⟩ (.int .u64 sa.1)).setCell ⟨b, 4, none⟩ (.int .i64 sa.2)) l' ∧ RepH ((w2.setCell ⟨b, 3, none⟩ (.int .u64 sa.1)).setCell ⟨b, 4, none⟩ (.int .i64 sa.2)) r' ∧ TreH ((w2.setCell ⟨b, 3, none⟩ (.int .u64 sa.1)).setCell ⟨b, 4, none⟩ (.int .i64 sa.2)) T :=
    ⟨HF.out.2.2.2.1.fr F2 (fun x hx => HN.out x (Or.inl hx)), HF.out.2.2.2.2.1.fr F2 (fun x hx => HN.out x (Or.inr (Or.inl hx))), HF.out.2.2.2.2.2.1.fr F2 (fun x hx => HN.out x (Or.inr (Or.inr hx))), HF.out.2.2.2.2.2.2.fr F2 (by rintro (e | e); exact n2 e; exact n3 e)⟩
  have F3 := HF.out.1.trans F2
  generalize ((w2.setCell ⟨b, 3, none⟩ (.int .u64 sa.1)).setCell ⟨b, 4, none⟩ (.int .i64 sa.2)) = w3 at F2 B1 B2 R1 F3 ⊢
  clear HF F2 y0 g0 y1 g1
  have HF := Lib.hid (And.intro F3 (And.intro B1 (And.intro B2 R1)))
  clear F3 B1 B2 R1
  have HRH : RepH w3 (.node b true l k v sa l') := ⟨HF.out.2.1, HF.out.2.2.2.1, HF.out.2.2.2.2.1⟩
  have HTT := Lib.hid (rh_total T b' c (.node b true l k v sa l') k' v' s' r' w3 ⟨HF.out.2.2.1, HRH, HF.out.2.2.2.2.2.1⟩ HF.out.2.2.2.2.2.2)
  clear HRH
  rw [HSB.out] at HTT
  go_wp2_with fail
  with_reducible refine HTT.out.mono ?_
  rintro e w4 ⟨rfl, hb4⟩
  replace HF := Lib.hid (And.intro (HF.out.1.trans (Fr.of_new hb4)) (And.intro (HF.out.2.1.next hb4) (And.intro (HF.out.2.2.1.next hb4) (And.intro (HF.out.2.2.2.1.below hb4) (And.intro (HF.out.2.2.2.2.1.below hb4) (And.intro (HF.out.2.2.2.2.2.1.below hb4) (HF.out.2.2.2.2.2.2.below hb4)))))))
  clear hb4 HTT
  have y0 : w4.cell? ⟨b', 3, none⟩ = some (.int .u64 s'.1) := HF.out.2.2.1.get 3 rfl
  have g0 := HF.out.2.2.1.frozen 3
  have y1 : w4.cell? ⟨b', 4, none⟩ = some (.int .i64 s'.2) := HF.out.2.2.1.get 4 rfl
  have g1 := HF.out.2.2.1.frozen 4
  go_wp2_with fail
  go_ret
  have F2 : Fr (fun j => j = b ∨ j = b') w4 ((w4.setCell ⟨b', 3, none⟩ (.int .u64 sb.1)).setCell ⟨b', 4, none⟩ (.int .i64 sb.2)) := (((Fr.refl _ w4).setCell (p := ⟨b', 3, none⟩) (fun _ => Or.inr rfl) _).setCell (p := ⟨b', 4, none⟩) (fun _ => Or.inr rfl) _)
  refine ⟨rfl, ?_, HF.out.1.trans F2⟩
  have B1 : Blk ((w4.setCell ⟨b', 3, none⟩ (.int .u64 sb.1)).setCell ⟨b', 4, none⟩ (.int .i64 sb.2)) b 138 #[.int .u64 k.1, .int .i64 k.2, .int .u64 v, .int .u64 sa.1, .int .i64 sa.2, .bool true, ptrV l, ptrV l'] := ((HF.out.2.1.far (p := ⟨b', 3, none⟩) n1 _).far (p := ⟨b', 4, none⟩) n1 _)
  have B2 : Blk ((w4.setCell ⟨b', 3, none⟩ (.int .u64 sb.1)).setCell ⟨b', 4, none⟩ (.int .i64 sb.2)) b' 138 #[.int .u64 k'.1, .int .i64 k'.2, .int .u64 v', .int .u64 sb.1, .int .i64 sb.2, .bool c, .pointer (some ⟨b, 0, none⟩), ptrV r'] := ((HF.out.2.2.1.put 3 _).put 4 _)
  have q1 := HF.out.2.2.2.1.fr F2 (fun x hx => HN.out x (Or.inl hx))
  have q2 := HF.out.2.2.2.2.1.fr F2 (fun x hx => HN.out x (Or.inr (Or.inl hx)))
  have q3 := HF.out.2.2.2.2.2.1.fr F2 (fun x hx => HN.out x (Or.inr (Or.inr hx)))
  exact ⟨B2, ⟨B1, q1, q2⟩, q3⟩

set_option maxHeartbeats 8000000 in
theorem rh_right (T b b' : Nat) (c c' : Bool) (r l' r' : RB (Int × Int)) (k k' : RK) (v v' : Int) (s s' : (Int × Int)) (w : World) (h : RepH w (.node b c (.node b' c' l' k' v' s' r') k v s r)) (hn : (RB.blocks (.node b c (.node b' c' l' k' v' s' r') k v s r)).Nodup) (hT : TreH w T) (hTn : T ∉ RB.blocks (.node b c (.node b' c' l' k' v' s' r') k v s r)) :
    Calls Try.prog 115 #[.pointer (some ⟨T, 0, none⟩), .pointer (some ⟨b, 0, none⟩)] w fun e w' => e = .returned (.pointer (some ⟨b', 0, none⟩)) ∧ ToH (fun j => j = b ∨ j = b') (RB.rotR ofH minH (.node b c (.node b' c' l' k' v' s' r') k v s r)) w w' := by
  rw [RB.rotR_n]
  obtain ⟨sa, hsa⟩ : ∃ z, (RB.tot ofH minH r' k v r) = z := ⟨_, rfl⟩
  rw [hsa]
  have HSA := Lib.hid hsa
  clear hsa
  obtain ⟨sb, hsb⟩ : ∃ z, (RB.tot ofH minH l' k' v' (.node b true r' k v sa r)) = z := ⟨_, rfl⟩
  rw [hsb]
  have HSB := Lib.hid hsb
  clear hsb
  have FACT : b ≠ b' ∧ T ≠ b ∧ T ≠ b' ∧ (∀ x, x ∈ r.blocks ∨ x ∈ l'.blocks ∨ x ∈ r'.blocks → ¬ (x = b ∨ x = b')) := by
    simp only [RB.blocks, List.nodup_cons, List.mem_append, List.mem_cons, List.nodup_append, not_or] at hn hTn
    obtain ⟨hn1, hn2⟩ := hn
    refine ⟨fun e => ?_, fun e => ?_, fun e => ?_, ?_⟩
    · simp_all
    · simp_all
    · simp_all
    · rintro x (hx | hx | hx) (rfl | rfl) <;> first | exact hn2.2.2 x hx x (Or.inl rfl) rfl | exact hn2.2.2 x (Or.inl rfl) x hx rfl | simp_all
  obtain ⟨n1, n2, n3, n4⟩ := FACT
  have HN := Lib.hid n4
  obtain ⟨h0, ⟨h1, hl', hr'⟩, hr⟩ := h
  have HR := Lib.hid (And.intro h0 (And.intro h1 (And.intro hr (And.intro hl' (And.intro hr' hT)))))
  have x0 : w.cell? ⟨b, 6, none⟩ = some (.pointer (some ⟨b', 0, none⟩)) := h0.get 6 rfl
  have x1 : w.cell? ⟨b', 7, none⟩ = some (.pointer (ptrO r')) := by rw [← ptrV_eq]; exact h1.get 7 rfl
  have x2 : w.cell? ⟨b, 5, none⟩ = some (.bool c) := h0.get 5 rfl
  have x3 : w.cell? ⟨b', 5, none⟩ = some (.bool c') := h1.get 5 rfl
  have f0 := h0.frozen 6
  have f1 := h1.frozen 7
  have f2 := h0.frozen 5
  have f3 := h1.frozen 5
  clear n4 h0 hr h1 hl' hr' hT hn hTn
  have n1' := Ne.symm n1
  go_enter Try.func115, Try.ntmps115
  go_upto_region 4 with (fail)
  have F1 : Fr (fun j => j = b ∨ j = b') w ((((w.setCell ⟨b, 6, none⟩ (.pointer (ptrO r'))).setCell ⟨b', 7, none⟩ (.pointer (some ⟨b, 0, none⟩))).setCell ⟨b', 5, none⟩ (.bool c)).setCell ⟨b, 5, none⟩ (.bool true)) :=
    (((((Fr.refl _ w).setCell (p := ⟨b, 6, none⟩) (fun _ => Or.inl rfl) _).setCell (p := ⟨b', 7, none⟩) (fun _ => Or.inr rfl) _).setCell (p := ⟨b', 5, none⟩) (fun _ => Or.inr rfl) _).setCell (p := ⟨b, 5, none⟩) (fun _ => Or.inl rfl) _)
  have B1 : Blk ((((w.setCell ⟨b, 6, none⟩ (.pointer (ptrO r'))).setCell ⟨b', 7, none⟩ (.pointer (some ⟨b, 0, none⟩))).setCell ⟨b', 5, none⟩ (.bool c)).setCell ⟨b, 5, none⟩ (.bool true)) b 138 #[.int .u64 k.1, .int .i64 k.2, .int .u64 v, .int .u64 s.1, .int .i64 s.2, .bool true, ptrV r', ptrV r] := by
    rw [ptrV_eq r']
    exact ((((HR.out.1.put 6 _).far (p := ⟨b', 7, none⟩) n1 _).far (p := ⟨b', 5, none⟩) n1 _).put 5 _)
  have B2 : Blk ((((w.setCell ⟨b, 6, none⟩ (.pointer (ptrO r'))).setCell ⟨b', 7, none⟩ (.pointer (some ⟨b, 0, none⟩))).setCell ⟨b', 5, none⟩ (.bool c)).setCell ⟨b, 5, none⟩ (.bool true)) b' 138 #[.int .u64 k'.1, .int .i64 k'.2, .int .u64 v', .int .u64 s'.1, .int .i64 s'.2, .bool c, ptrV l', .pointer (some ⟨b, 0, none⟩)] :=
    ((((HR.out.2.1.far (p := ⟨b, 6, none⟩) n1' _).put 7 _).put 5 _).far (p := ⟨b, 5, none⟩) n1' _)
  have R1 : RepH ((((w.setCell ⟨b, 6, none⟩ (.pointer (ptrO r'))).setCell ⟨b', 7, none⟩ (.pointer (some ⟨b, 0, none⟩))).setCell ⟨b', 5, none⟩ (.bool c)).setCell ⟨b, 5, none⟩ (.bool true)) r ∧ RepH ((((w.setCell ⟨b, 6, none⟩ (.pointer (ptrO r'))).setCell ⟨b', 7, none⟩ (.pointer (some ⟨b, 0, none⟩))).setCell ⟨b', 5, none⟩ (.bool c)).setCell ⟨b, 5, none⟩ (.bool true)) l' ∧ RepH ((((w.setCell ⟨b, 6, none⟩ (.pointer (ptrO r'))).setCell ⟨b', 7, none⟩ (.pointer (some ⟨b, 0, none⟩))).setCell ⟨b', 5, none⟩ (.bool c)).setCell ⟨b, 5, none⟩ (.bool true)) r' ∧ TreH ((((w.setCell ⟨b, 6, none⟩ (.pointer (ptrO r'))).setCell ⟨b', 7, none⟩ (.pointer (some ⟨b, 0, none⟩))).setCell ⟨b', 5, none⟩ (.bool c)).setCell ⟨b, 5, none⟩ (.bool true)) T :=
    ⟨HR.out.2.2.1.fr F1 (fun x hx => HN.out x (Or.inl hx)), HR.out.2.2.2.1.fr F1 (fun x hx => HN.out x (Or.inr (Or.inl hx))), HR.out.2.2.2.2.1.fr F1 (fun x hx => HN.out x (Or.inr (Or.inr hx))), HR.out.2.2.2.2.2.fr F1 (by rintro (e | e); exact n2 e; exact n3 e)⟩
  generalize ((((w.setCell ⟨b, 6, none⟩ (.pointer (ptrO r'))).setCell ⟨b', 7, none⟩ (.pointer (some ⟨b, 0, none⟩))).setCell ⟨b', 5, none⟩ (.bool c)).setCell ⟨b, 5, none⟩ (.bool true)) = w1 at F1 B1 B2 R1 ⊢
  have HF := Lib.hid (And.intro F1 (And.intro B1 (And.intro B2 R1)))
  clear F1 B1 B2 R1 x0 x1 x2 x3 f0 f1 f2 f3 HR
  have HTT := Lib.hid (rh_total T b true r' k v s r w1 ⟨HF.out.2.1, HF.out.2.2.2.2.2.1, HF.out.2.2.2.1⟩ HF.out.2.2.2.2.2.2)
  rw [HSA.out] at HTT
  go_wp2_with fail
  with_reducible refine HTT.out.mono ?_
  rintro e w2 ⟨rfl, hb2⟩
  replace HF := Lib.hid (And.intro (HF.out.1.trans (Fr.of_new hb2)) (And.intro (HF.out.2.1.next hb2) (And.intro (HF.out.2.2.1.next hb2) (And.intro (HF.out.2.2.2.1.below hb2) (And.intro (HF.out.2.2.2.2.1.below hb2) (And.intro (HF.out.2.2.2.2.2.1.below hb2) (HF.out.2.2.2.2.2.2.below hb2)))))))
  clear hb2 HTT
  have y0 : w2.cell? ⟨b, 3, none⟩ = some (.int .u64 s.1) := HF.out.2.1.get 3 rfl
  have g0 := HF.out.2.1.frozen 3
  have y1 : w2.cell? ⟨b, 4, none⟩ = some (.int .i64 s.2) := HF.out.2.1.get 4 rfl
  have g1 := HF.out.2.1.frozen 4
  go_upto_region 5 with (fail)
  have F2 : Fr (fun j => j = b ∨ j = b') w2 ((w2.setCell ⟨b, 3, none⟩ (.int .u64 sa.1)).setCell ⟨b, 4, none⟩ (.int .i64 sa.2)) := (((Fr.refl _ w2).setCell (p := ⟨b, 3, none⟩) (fun _ => Or.inl rfl) _).setCell (p := ⟨b, 4, none⟩) (fun _ => Or.inl rfl) _)
  have B1 : Blk ((w2.setCell ⟨b, 3, none⟩ (.int .u64 sa.1)).setCell ⟨b, 4, none⟩ (.int .i64 sa.2)) b 138 #[.int .u64 k.1, .int .i64 k.2, .int .u64 v, .int .u64 sa.1, .int .i64 sa.2, .bool true, ptrV r', ptrV r] := ((HF.out.2.1.put 3 _).put 4 _)
  have B2 : Blk ((w2.setCell ⟨b, 3, none⟩ (.int .u64 sa.1)).setCell ⟨b, 4, none⟩ (.int .i64 sa.2)) b' 138 #[.int .u64 k'.1, .int .i64 k'.2, .int .u64 v', .int .u64 s'.1, .int .i64 s'.2, .bool c, ptrV l', .pointer (some ⟨b, 0, none⟩)] := ((HF.out.2.2.1.far (p := ⟨b, 3, none⟩) n1' _).far (p := ⟨b, 4, none⟩) n1' _)
  have R1 : RepH ((w2.setCell ⟨b, 3, none⟩ (.int .u64 sa.1)).setCell ⟨b, 4, none⟩ (.int .i64 sa.2)) r ∧ RepH ((w2.setCell ⟨b, 3, none⟩ (.int .u64 sa.1)).setCell ⟨b, 4, none⟩ (.int .i64 sa.2)) l' ∧ RepH ((w2.setCell ⟨b, 3, none⟩ (.int .u64 sa.1)).setCell ⟨b, 4, none⟩ (.int .i64 sa.2)) r' ∧ TreH ((w2.setCell ⟨b, 3, none⟩ (.int .u64 sa.1)).setCell ⟨b, 4, none⟩ (.int .i64 sa.2)) T :=
    ⟨HF.out.2.2.2.1.fr F2 (fun x hx => HN.out x (Or.inl hx)), HF.out.2.2.2.2.1.fr F2 (fun x hx => HN.out x (Or.inr (Or.inl hx))), HF.out.2.2.2.2.2.1.fr F2 (fun x hx => HN.out x (Or.inr (Or.inr hx))), HF.out.2.2.2.2.2.2.fr F2 (by rintro (e | e); exact n2 e; exact n3 e)⟩
  have F3 := HF.out.1.trans F2
  generalize ((w2.setCell ⟨b, 3, none⟩ (.int .u64 sa.1)).setCell ⟨b, 4, none⟩ (.int .i64 sa.2)) = w3 at F2 B1 B2 R1 F3 ⊢
  clear HF F2 y0 g0 y1 g1
  have HF := Lib.hid (And.intro F3 (And.intro B1 (And.intro B2 R1)))
  clear F3 B1 B2 R1
  have HRH : RepH w3 (.node b true r' k v sa r) := ⟨HF.out.2.1, HF.out.2.2.2.2.2.1, HF.out.2.2.2.1⟩
  have HTT := Lib.hid (rh_total T b' c l' k' v' s' (.node b true r' k v sa r) w3 ⟨HF.out.2.2.1, HF.out.2.2.2.2.1, HRH⟩ HF.out.2.2.2.2.2.2)
  clear HRH
  rw [HSB.out] at HTT
  go_wp2_with fail
  with_reducible refine HTT.out.mono ?_
  rintro e w4 ⟨rfl, hb4⟩
  replace HF := Lib.hid (And.intro (HF.out.1.trans (Fr.of_new hb4)) (And.intro (HF.out.2.1.next hb4) (And.intro (HF.out.2.2.1.next hb4) (And.intro (HF.out.2.2.2.1.below hb4) (And.intro (HF.out.2.2.2.2.1.below hb4) (And.intro (HF.out.2.2.2.2.2.1.below hb4) (HF.out.2.2.2.2.2.2.below hb4)))))))
  clear hb4 HTT
  have y0 : w4.cell? ⟨b', 3, none⟩ = some (.int .u64 s'.1) := HF.out.2.2.1.get 3 rfl
  have g0 := HF.out.2.2.1.frozen 3
  have y1 : w4.cell? ⟨b', 4, none⟩ = some (.int .i64 s'.2) := HF.out.2.2.1.get 4 rfl
  have g1 := HF.out.2.2.1.frozen 4
  go_wp2_with fail
  go_ret
  have F2 : Fr (fun j => j = b ∨ j = b') w4 ((w4.setCell ⟨b', 3, none⟩ (.int .u64 sb.1)).setCell ⟨b', 4, none⟩ (.int .i64 sb.2)) := (((Fr.refl _ w4).setCell (p := ⟨b', 3, none⟩) (fun _ => Or.inr rfl) _).setCell (p := ⟨b', 4, none⟩) (fun _ => Or.inr rfl) _)
  refine ⟨rfl, ?_, HF.out.1.trans F2⟩
  have B1 : Blk ((w4.setCell ⟨b', 3, none⟩ (.int .u64 sb.1)).setCell ⟨b', 4, none⟩ (.int .i64 sb.2)) b 138 #[.int .u64 k.1, .int .i64 k.2, .int .u64 v, .int .u64 sa.1, .int .i64 sa.2, .bool true, ptrV r', ptrV r] := ((HF.out.2.1.far (p := ⟨b', 3, none⟩) n1 _).far (p := ⟨b', 4, none⟩) n1 _)
  have B2 : Blk ((w4.setCell ⟨b', 3, none⟩ (.int .u64 sb.1)).setCell ⟨b', 4, none⟩ (.int .i64 sb.2)) b' 138 #[.int .u64 k'.1, .int .i64 k'.2, .int .u64 v', .int .u64 sb.1, .int .i64 sb.2, .bool c, ptrV l', .pointer (some ⟨b, 0, none⟩)] := ((HF.out.2.2.1.put 3 _).put 4 _)
  have q1 := HF.out.2.2.2.1.fr F2 (fun x hx => HN.out x (Or.inl hx))
  have q2 := HF.out.2.2.2.2.1.fr F2 (fun x hx => HN.out x (Or.inr (Or.inl hx)))
  have q3 := HF.out.2.2.2.2.2.1.fr F2 (fun x hx => HN.out x (Or.inr (Or.inr hx)))
  exact ⟨B2, q2, ⟨B1, q3, q1⟩⟩

end Go.Proofs.Ytjlnbpomncglcaa
