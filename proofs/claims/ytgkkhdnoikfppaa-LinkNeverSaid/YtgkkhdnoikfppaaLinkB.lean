/-
  What the program's Send does: what is wrong, and what is sent.
-/
import Derived.Test.YtgkkhdnoikfppaaProg
import Derived.Test.YtgkkhdnoikfppaaLinkA
namespace Go.Proofs.Ytgkkhdnoikfppaa
set_option linter.unusedVariables false
set_option linter.unusedSimpArgs false
open Go.RowKit

theorem wrong_unmade (o : Option Addr) (now n : Int) (w : World) (h : Unmade w o) :
    Calls Try.prog 16 #[.pointer o, .int .u64 now, .int .i64 n] w fun e w' => e = .returned (.int .i64 1) ∧ w = w' := by
  go_enter Try.func16, Try.ntmps16
  go_wp2_with fail
  refine (none_unmade o w h).mono ?_
  rintro e w1 ⟨rfl, rfl⟩
  go_wp2_with fail
  go_ret
  exact ⟨rfl, rfl⟩

/-- What is wrong with what is asked of a link. -/
def wrongN (t r now n : Int) : Int := if now > 1099511627776 then 2 else if n < 1 ∨ n ≥ 65536 then 100 else if freeB t r now then 0 else 230

theorem wrong_made (b : Nat) (r t now n : Int) (w : World) (h0 : w.cell? ⟨b, 0, none⟩ = some (.int .u64 r)) (h1 : w.cell? ⟨b, 1, none⟩ = some (.int .u64 t)) (hr : 0 < r) (hr2 : r ≤ 1048576) (g0 : 0 ≤ t) (g1 : t ≤ 9223372036854775808) :
    Calls Try.prog 16 #[.pointer (some ⟨b, 0, none⟩), .int .u64 now, .int .i64 n] w fun e w' => e = .returned (.int .i64 (wrongN t r now n)) ∧ ∃ m, w' = w.drewN m := by
  have fin : ∀ c : Int, wrongN t r now n = c → Hid (wrongN t r now n = c) := fun _ h => h
  by_cases c1 : now > 1099511627776
  · have HW := fin 2 (by unfold wrongN; rw [if_pos c1])
    clear fin
    rw [HW.out]
    go_enter Try.func16, Try.ntmps16
    go_wp2_with fail
    refine (none_made b r w h0 hr).mono ?_
    rintro e w1 ⟨rfl, rfl⟩
    go_wp2_with fail
    go_ret
    exact ⟨rfl, 0, rfl⟩
  · by_cases c2 : n < 1
    · have HW := fin 100 (by unfold wrongN; rw [if_neg c1, if_pos (.inl c2)])
      clear fin
      rw [HW.out]
      go_enter Try.func16, Try.ntmps16
      go_wp2_with fail
      refine (none_made b r w h0 hr).mono ?_
      rintro e w1 ⟨rfl, rfl⟩
      go_wp2_with fail
      go_ret
      exact ⟨rfl, 0, rfl⟩
    · by_cases c3 : 65536 ≤ n
      · have HW := fin 100 (by unfold wrongN; rw [if_neg c1, if_pos (.inr c3)])
        clear fin
        rw [HW.out]
        go_enter Try.func16, Try.ntmps16
        go_wp2_with fail
        refine (none_made b r w h0 hr).mono ?_
        rintro e w1 ⟨rfl, rfl⟩
        go_wp2_with fail
        go_ret
        exact ⟨rfl, 0, rfl⟩
      · rcases hf : freeB t r now with _ | _
        · have HW := fin 230 (by unfold wrongN; rw [if_neg c1, if_neg (by omega), hf]; rfl)
          have HF := Lib.hid hf
          clear fin hf
          rw [HW.out]
          go_enter Try.func16, Try.ntmps16
          go_wp2_with fail
          refine (none_made b r w h0 hr).mono ?_
          rintro e w1 ⟨rfl, rfl⟩
          go_wp2_with fail
          refine (free_made b r t now w h0 h1 hr hr2 g0 g1).mono ?_
          rw [HF.out]
          rintro e w1 ⟨rfl, m, rfl⟩
          go_wp2_with fail
          go_ret
          exact ⟨rfl, _, rfl⟩
        · have HW := fin 0 (by unfold wrongN; rw [if_neg c1, if_neg (by omega), hf]; rfl)
          have HF := Lib.hid hf
          clear fin hf
          rw [HW.out]
          go_enter Try.func16, Try.ntmps16
          go_wp2_with fail
          refine (none_made b r w h0 hr).mono ?_
          rintro e w1 ⟨rfl, rfl⟩
          go_wp2_with fail
          refine (free_made b r t now w h0 h1 hr hr2 g0 g1).mono ?_
          rw [HF.out]
          rintro e w1 ⟨rfl, m, rfl⟩
          go_wp2_with fail
          go_ret
          exact ⟨rfl, _, rfl⟩

/-! ### The deferred closure -/
theorem sendD_bad (pe p1 p2 p3 p4 : Addr) (c : Int) (hc : c ≠ 0) (u : FrameMode) (w : World) (he : w.cell? pe = some (.int .i64 c)) :
    CallsD Try.prog 15 #[.pointer (some pe), .pointer (some p1), .pointer (some p2), .pointer (some p3), .pointer (some p4)] u w fun e u' w' => u' = u ∧ (e = .returned (.tuple #[]) ∧ w' = w) := by
  have hb : (c == 0) = false := beq_eq_false_iff_ne.2 hc
  go_enter_d Try.func15, Try.ntmps15
  go_wp2_with fail
  go_end0
  exact ⟨rfl, rfl⟩

theorem send_unmade (o : Option Addr) (now n : Int) (w : World) (h : Unmade w o) :
    Calls Try.prog 8 #[.pointer o, .int .u64 now, .int .i64 n] w fun e w' => e = .returned (.tuple #[.int .u64 0, .int .i64 1]) ∧ Below w.heap.size w w' := by
  have hmf : ∀ (fn : Fn) (first cap : Array Value) (w : World), (Instr.makeFunc fn first cap).run Try.prog w = .ok (.func fn first cap) w := fun _ _ _ _ => rfl
  have hu : ∀ W : World, (∀ a : Addr, a.block < w.heap.size → W.cell? a = w.cell? a) → Unmade W o := by
    intro W hW
    rcases h with h | ⟨b, h, hc⟩
    · exact .inl h
    · have hlt := World.block_lt_of_cell? _ _ hc
      exact .inr ⟨b, h, (hW _ hlt).trans hc⟩
  have HU := Lib.hid hu
  clear hu h
  go_enter_defers Try.func8, Try.ntmps8
  go_wp2_with fail
  refine (wrong_unmade o now n _ (HU.out _ ?_)).mono ?_
  · intro a ha
    exact Below.cell (B := w.heap.size) (by go_grown) ha
  rintro e w1 ⟨rfl, rfl⟩
  go_wp2_with fail
  go_region
  go_wp2_with fail
  refine leaves_cons (f := 15) (args := #[.pointer (some ⟨w.heap.size + 1 + 1 + 1, 0, none⟩), .pointer (some ⟨w.heap.size + 1 + 1 + 1 + 1, 0, none⟩), .pointer (some ⟨w.heap.size + 1, 0, none⟩), .pointer (some ⟨w.heap.size, 0, none⟩), .pointer (some ⟨w.heap.size + 1 + 1, 0, none⟩)]) (by simp) (by simp [go_sem]) ?_
  refine (sendD_bad ⟨w.heap.size + 1 + 1 + 1, 0, none⟩ _ _ _ _ 1 (by decide) .returning _ ?_).mono ?_
  · simp [go_sem]
  rintro e u' w'' ⟨rfl, rfl, rfl⟩
  simp [Leaves, settle, results, Try.results8, go_sem]
  go_grown

theorem send_bad (b : Nat) (r t now n : Int) (i : Bool) (w : World) (h : IsLink w b r t i) (hr : 0 < r) (hr2 : r ≤ 1048576) (g0 : 0 ≤ t) (g1 : t ≤ 9223372036854775808) (hw : wrongN t r now n ≠ 0) :
    Calls Try.prog 8 #[.pointer (some ⟨b, 0, none⟩), .int .u64 now, .int .i64 n] w fun e w' => e = .returned (.tuple #[.int .u64 0, .int .i64 (wrongN t r now n)]) ∧ Below w.heap.size w w' := by
  have hmf : ∀ (fn : Fn) (first cap : Array Value) (w : World), (Instr.makeFunc fn first cap).run Try.prog w = .ok (.func fn first cap) w := fun _ _ _ _ => rfl
  have hb := Blk.lt h
  have h0 := h.c0
  have h1 := h.c1
  obtain ⟨c, hc⟩ : ∃ c, wrongN t r now n = c := ⟨_, rfl⟩
  rw [hc] at hw
  have hcb : (c == 0) = false := beq_eq_false_iff_ne.2 hw
  have hcn : (c != 0) = true := by simp [bne, hcb]
  rw [hc]
  have HC := Lib.hid hc
  clear hc
  go_enter_defers Try.func8, Try.ntmps8
  go_wp2_with fail
  refine (wrong_made b r t now n _ ?_ ?_ hr hr2 g0 g1).mono ?_
  · exact (Below.cell (B := w.heap.size) (by go_grown) hb).trans h0
  · exact (Below.cell (B := w.heap.size) (by go_grown) hb).trans h1
  rw [HC.out]
  rintro e w1 ⟨rfl, m, rfl⟩
  go_wp2_with fail
  go_region
  go_wp2_with fail
  refine leaves_cons (f := 15) (args := #[.pointer (some ⟨w.heap.size + 1 + 1 + 1, 0, none⟩), .pointer (some ⟨w.heap.size + 1 + 1 + 1 + 1, 0, none⟩), .pointer (some ⟨w.heap.size + 1, 0, none⟩), .pointer (some ⟨w.heap.size, 0, none⟩), .pointer (some ⟨w.heap.size + 1 + 1, 0, none⟩)]) (by simp) (by simp [go_sem]) ?_
  refine (sendD_bad ⟨w.heap.size + 1 + 1 + 1, 0, none⟩ _ _ _ _ c hw .returning _ ?_).mono ?_
  · simp [go_sem]
  rintro e u' w'' ⟨rfl, rfl, rfl⟩
  simp [Leaves, settle, results, Try.results8, go_sem]
  exact below_drewN' (by go_grown) _

theorem sendD_good (s b : Nat) (F n r t : Int) (i : Bool) (u : FrameMode) (w : World) (hbs : b < s) (h : IsLink w b r t i) (hr : 0 < r) (hr2 : r ≤ 1048576) (n1 : 1 ≤ n) (n2 : n < 65536) (F0 : 0 ≤ F) (F1 : F ≤ 4611686018427387904)
    (ce : w.cell? ⟨s + 1 + 1 + 1, 0, none⟩ = some (.int .i64 0)) (cF : w.cell? ⟨s + 1 + 1 + 1 + 1, 0, none⟩ = some (.int .u64 F)) (cn : w.cell? ⟨s + 1, 0, none⟩ = some (.int .i64 n)) (cl : w.cell? ⟨s, 0, none⟩ = some (.pointer (some ⟨b, 0, none⟩)))
    (ct : w.cell? ⟨s + 1 + 1, 0, none⟩ = some (.int .u64 0)) (ft : w.frozen? ⟨s + 1 + 1, 0, none⟩ = false) :
    CallsD Try.prog 15 #[.pointer (some ⟨s + 1 + 1 + 1, 0, none⟩), .pointer (some ⟨s + 1 + 1 + 1 + 1, 0, none⟩), .pointer (some ⟨s + 1, 0, none⟩), .pointer (some ⟨s, 0, none⟩), .pointer (some ⟨s + 1 + 1, 0, none⟩)] u w fun e u' w' =>
      u' = u ∧ (e = .returned (.tuple #[]) ∧ IsLink w' b r (F + n * 256) false ∧ w'.cell? ⟨s + 1 + 1, 0, none⟩ = some (.int .u64 (upDiv (F + n * 256) r)) ∧ Fr (fun k => k = b ∨ k = s + 1 + 1) w w') := by
  have h0 := h.c0
  have h1 := h.c1
  have h2 := h.c2
  have f1 := Blk.frozen h 1
  have f2 := Blk.frozen h 2
  have q1 := Blk.put h 1 (.int .u64 (F + n * 256))
  have q2 := Blk.put q1 2 (.bool false)
  go_enter_d Try.func15, Try.ntmps15
  go_wp2_with fail
  refine (until_made b r (F + n * 256) _ (Blk.get q2 0 rfl) (Blk.get q2 1 rfl) hr hr2 (by omega) (by omega)).mono ?_
  rintro e w1 ⟨rfl, m, rfl⟩
  go_wp2_with fail
  go_end0
  refine ⟨rfl, ?_, ?_, ?_⟩
  · have q3 : IsLink ((w.setCell ⟨b, 1, none⟩ (.int .u64 (F + n * 256))).setCell ⟨b, 2, none⟩ (.bool false)) b r (F + n * 256) false := q2
    exact (Blk.far q3 (p := ⟨s + 1 + 1, 0, none⟩) (by show b ≠ s + 1 + 1; omega) _).drewN m
  · refine World.cell?_setCell_same _ _ _ (u := .int .u64 0) ?_
    rw [World.cell?_setCell_other _ _ _ _ (by intro e; injection e; omega), World.cell?_setCell_other _ _ _ _ (by intro e; injection e; omega)]
    exact ct
  · exact (((((Fr.refl (fun k => k = b ∨ k = s + 1 + 1) w).setCell (p := ⟨b, 1, none⟩) (fun _ => .inl rfl) _).setCell (p := ⟨b, 2, none⟩) (fun _ => .inl rfl) _).setCell (p := ⟨s + 1 + 1, 0, none⟩) (fun _ => .inr rfl) _).drewN m)

/-- From when a packet starts. -/
def sendFrom (t r now : Int) (i : Bool) : Int := if !i && now == upDiv t r then t else now * r

set_option maxHeartbeats 1000000 in
theorem send_good (b : Nat) (r t now n : Int) (i : Bool) (w : World) (h : IsLink w b r t i) (hr : 0 < r) (hr2 : r ≤ 1048576) (g0 : 0 ≤ t) (g1 : t ≤ 4611686018427387904) (hn : 0 ≤ now) (hw : wrongN t r now n = 0) :
    Calls Try.prog 8 #[.pointer (some ⟨b, 0, none⟩), .int .u64 now, .int .i64 n] w fun e w' =>
      e = .returned (.tuple #[.int .u64 (upDiv (sendFrom t r now i + n * 256) r), .int .i64 0]) ∧ IsLink w' b r (sendFrom t r now i + n * 256) false ∧ Fr (fun k => k = b) w w' := by
  have hmf : ∀ (fn : Fn) (first cap : Array Value) (w : World), (Instr.makeFunc fn first cap).run Try.prog w = .ok (.func fn first cap) w := fun _ _ _ _ => rfl
  have hb := Blk.lt h
  have h0 := h.c0
  have h1 := h.c1
  have h2 := h.c2
  have lims : now ≤ 1099511627776 ∧ 1 ≤ n ∧ n < 65536 := by
    unfold wrongN at hw
    split at hw
    · cases hw
    · split at hw
      · cases hw
      · omega
  obtain ⟨l1, l2, l3⟩ := lims
  have hnr : 0 ≤ now * r ∧ now * r ≤ 1152921504606846976 := by
    refine ⟨Int.mul_nonneg hn (by omega), ?_⟩
    have a1 : now * r ≤ 1099511627776 * r := Int.mul_le_mul_of_nonneg_right l1 (by omega)
    omega
  obtain ⟨m0, m1⟩ := hnr
  have HC := Lib.hid hw
  clear hw
  obtain ⟨F, hF⟩ : ∃ F, sendFrom t r now i = F := ⟨_, rfl⟩
  have F0 : 0 ≤ F := by rw [← hF]; unfold sendFrom; split <;> omega
  have F1 : F ≤ 4611686018427387904 := by rw [← hF]; unfold sendFrom; split <;> omega
  rw [hF]
  cases i with
  | true =>
    obtain rfl : now * r = F := by rw [← hF]; simp [sendFrom]
    clear hF
    go_enter_defers Try.func8, Try.ntmps8
    go_wp2_with fail
    refine (wrong_made b r t now n _ ?_ ?_ hr hr2 g0 (by omega)).mono ?_
    · exact (Below.cell (B := w.heap.size) (by go_grown) hb).trans h0
    · exact (Below.cell (B := w.heap.size) (by go_grown) hb).trans h1
    rw [HC.out]
    rintro e w1 ⟨rfl, m, hw1⟩
    have B1 : Below w.heap.size w w1 := by rw [hw1]; exact below_drewN' (by go_grown) m
    have b0 : Blk w1 w.heap.size 25 #[.pointer (some ⟨b, 0, none⟩)] := by rw [hw1]; refine Blk.drewN ?_ m; repeat (first | (refine Blk.new_at ?_; simp only [World.size_alloc]; done) | refine Blk.alloc ?_ _)
    have b1 : Blk w1 (w.heap.size + 1) 3 #[.int .i64 n] := by rw [hw1]; refine Blk.drewN ?_ m; repeat (first | (refine Blk.new_at ?_; simp only [World.size_alloc]; done) | refine Blk.alloc ?_ _)
    have b2 : Blk w1 (w.heap.size + 1 + 1) 22 #[.int .u64 0] := by rw [hw1]; refine Blk.drewN ?_ m; repeat (first | (refine Blk.new_at ?_; simp only [World.size_alloc]; done) | refine Blk.alloc ?_ _)
    have b3 : Blk w1 (w.heap.size + 1 + 1 + 1) 26 #[.int .i64 0] := by rw [hw1]; refine Blk.drewN ?_ m; repeat (first | (refine Blk.new_at ?_; simp only [World.size_alloc]; done) | refine Blk.alloc ?_ _)
    have b4 : Blk w1 (w.heap.size + 1 + 1 + 1 + 1) 22 #[.int .u64 0] := by rw [hw1]; refine Blk.drewN ?_ m; repeat (first | (refine Blk.new_at ?_; simp only [World.size_alloc]; done) | refine Blk.alloc ?_ _)
    have L1 : IsLink w1 b r t true := Blk.below h B1 hb
    clear hw1
    obtain ⟨s, hs⟩ : ∃ s, w.heap.size = s := ⟨_, rfl⟩
    rw [hs] at b0 b1 b2 b3 b4 B1 hb ⊢
    have d0 : w1.cell? ⟨s, 0, none⟩ = some (.pointer (some ⟨b, 0, none⟩)) := Blk.get b0 0 rfl
    have d1 : w1.cell? ⟨s + 1, 0, none⟩ = some (.int .i64 n) := Blk.get b1 0 rfl
    have d2 : w1.cell? ⟨s + 1 + 1, 0, none⟩ = some (.int .u64 0) := Blk.get b2 0 rfl
    have d3 : w1.cell? ⟨s + 1 + 1 + 1, 0, none⟩ = some (.int .i64 0) := Blk.get b3 0 rfl
    have d4 : w1.cell? ⟨s + 1 + 1 + 1 + 1, 0, none⟩ = some (.int .u64 0) := Blk.get b4 0 rfl
    have x2 := Blk.frozen b2 0
    have x3 := Blk.frozen b3 0
    have x4 := Blk.frozen b4 0
    have y0 := L1.c0
    have y1 := L1.c1
    have y2 := L1.c2
    have HS := Lib.hid hs
    clear hs h0 h1 h2
    go_wp2_with fail
    refine leaves_cons (f := 15) (args := #[.pointer (some ⟨s + 1 + 1 + 1, 0, none⟩), .pointer (some ⟨s + 1 + 1 + 1 + 1, 0, none⟩), .pointer (some ⟨s + 1, 0, none⟩), .pointer (some ⟨s, 0, none⟩), .pointer (some ⟨s + 1 + 1, 0, none⟩)]) (by simp) (by simp [go_sem]) ?_
    refine (sendD_good s b (now * r) n r t true .returning _ hb ?_ hr hr2 l2 l3 F0 F1 ?_ ?_ ?_ ?_ ?_ ?_).mono ?_
    · unfold IsLink at L1 ⊢; repeat (first | (with_reducible exact L1) | (with_reducible refine Blk.drewN ?_ _) | (with_reducible refine Blk.far ?_ (by show b ≠ _ + 1; omega) _))
    · go_simp
    · go_simp
    · go_simp
    · go_simp
    · go_simp
    · go_simp
    rintro e u' w2 ⟨rfl, rfl, hL, hct, hFr⟩
    have he := hFr.cell (p := ⟨s + 1 + 1 + 1, 0, none⟩) (by simp only [World.size_setCell, size_drewN']; exact Blk.lt b3) (by show ¬ (s + 1 + 1 + 1 = b ∨ s + 1 + 1 + 1 = s + 1 + 1); omega)
    have he2 : w2.cell? ⟨s + 1 + 1 + 1, 0, none⟩ = some (.int .i64 0) := he.trans (by go_simp)
    clear he
    have B2 : Below w.heap.size w w1 := by rw [HS.out]; exact B1
    have hF2 : Fr (fun k => k = b) w w2 := by
      refine Fr.then ?_ hFr ?_
      · repeat (first | (with_reducible exact Fr.of_new B2) | (with_reducible refine Fr.drewN ?_ _) | (with_reducible refine Fr.setCell ?_ (by intro hlt; rw [HS.out] at hlt; simp only at hlt; omega) _))
      · rintro i hi (h | h)
        · exact h
        · rw [HS.out] at hi; omega
    simp [Leaves, settle, results, Try.results8, go_sem, hct, he2]
    exact ⟨hL, hF2⟩
  | false =>
    go_enter_defers Try.func8, Try.ntmps8
    go_wp2_with fail
    refine (wrong_made b r t now n _ ?_ ?_ hr hr2 g0 (by omega)).mono ?_
    · exact (Below.cell (B := w.heap.size) (by go_grown) hb).trans h0
    · exact (Below.cell (B := w.heap.size) (by go_grown) hb).trans h1
    rw [HC.out]
    rintro e w1 ⟨rfl, m, hw1⟩
    have B1 : Below w.heap.size w w1 := by rw [hw1]; exact below_drewN' (by go_grown) m
    have b0 : Blk w1 w.heap.size 25 #[.pointer (some ⟨b, 0, none⟩)] := by rw [hw1]; refine Blk.drewN ?_ m; repeat (first | (refine Blk.new_at ?_; simp only [World.size_alloc]; done) | refine Blk.alloc ?_ _)
    have b1 : Blk w1 (w.heap.size + 1) 3 #[.int .i64 n] := by rw [hw1]; refine Blk.drewN ?_ m; repeat (first | (refine Blk.new_at ?_; simp only [World.size_alloc]; done) | refine Blk.alloc ?_ _)
    have b2 : Blk w1 (w.heap.size + 1 + 1) 22 #[.int .u64 0] := by rw [hw1]; refine Blk.drewN ?_ m; repeat (first | (refine Blk.new_at ?_; simp only [World.size_alloc]; done) | refine Blk.alloc ?_ _)
    have b3 : Blk w1 (w.heap.size + 1 + 1 + 1) 26 #[.int .i64 0] := by rw [hw1]; refine Blk.drewN ?_ m; repeat (first | (refine Blk.new_at ?_; simp only [World.size_alloc]; done) | refine Blk.alloc ?_ _)
    have b4 : Blk w1 (w.heap.size + 1 + 1 + 1 + 1) 22 #[.int .u64 0] := by rw [hw1]; refine Blk.drewN ?_ m; repeat (first | (refine Blk.new_at ?_; simp only [World.size_alloc]; done) | refine Blk.alloc ?_ _)
    have L1 : IsLink w1 b r t false := Blk.below h B1 hb
    clear hw1
    obtain ⟨s, hs⟩ : ∃ s, w.heap.size = s := ⟨_, rfl⟩
    rw [hs] at b0 b1 b2 b3 b4 B1 hb ⊢
    have d0 : w1.cell? ⟨s, 0, none⟩ = some (.pointer (some ⟨b, 0, none⟩)) := Blk.get b0 0 rfl
    have d1 : w1.cell? ⟨s + 1, 0, none⟩ = some (.int .i64 n) := Blk.get b1 0 rfl
    have d2 : w1.cell? ⟨s + 1 + 1, 0, none⟩ = some (.int .u64 0) := Blk.get b2 0 rfl
    have d3 : w1.cell? ⟨s + 1 + 1 + 1, 0, none⟩ = some (.int .i64 0) := Blk.get b3 0 rfl
    have d4 : w1.cell? ⟨s + 1 + 1 + 1 + 1, 0, none⟩ = some (.int .u64 0) := Blk.get b4 0 rfl
    have x2 := Blk.frozen b2 0
    have x3 := Blk.frozen b3 0
    have x4 := Blk.frozen b4 0
    have y0 := L1.c0
    have y1 := L1.c1
    have y2 := L1.c2
    have HS := Lib.hid hs
    clear hs h0 h1 h2
    go_wp2_with fail
    refine (until_made b r t _ ?_ ?_ hr hr2 g0 (by omega)).mono ?_
    · go_simp
    · go_simp
    rintro e w3 ⟨rfl, m3, rfl⟩
    by_cases hu : now = upDiv t r
    · have hub : (now == upDiv t r) = true := beq_iff_eq.2 hu
      have HU := Lib.hid hu
      clear hu
      obtain rfl : t = F := by rw [← hF]; simp [sendFrom, hub]
      clear hF
      go_wp2_with fail
      refine leaves_cons (f := 15) (args := #[.pointer (some ⟨s + 1 + 1 + 1, 0, none⟩), .pointer (some ⟨s + 1 + 1 + 1 + 1, 0, none⟩), .pointer (some ⟨s + 1, 0, none⟩), .pointer (some ⟨s, 0, none⟩), .pointer (some ⟨s + 1 + 1, 0, none⟩)]) (by simp) (by simp [go_sem]) ?_
      refine (sendD_good s b t n r t false .returning _ hb ?_ hr hr2 l2 l3 F0 F1 ?_ ?_ ?_ ?_ ?_ ?_).mono ?_
      · unfold IsLink at L1 ⊢; repeat (first | (with_reducible exact L1) | (with_reducible refine Blk.drewN ?_ _) | (with_reducible refine Blk.far ?_ (by show b ≠ _ + 1; omega) _))
      · go_simp
      · go_simp; all_goals exact World.cell?_setCell_same _ _ _ (u := .int .u64 (now * r)) (by go_simp)
      · go_simp
      · go_simp
      · go_simp
      · go_simp
      rintro e u' w2 ⟨rfl, rfl, hL, hct, hFr⟩
      have he := hFr.cell (p := ⟨s + 1 + 1 + 1, 0, none⟩) (by simp only [World.size_setCell, size_drewN']; exact Blk.lt b3) (by show ¬ (s + 1 + 1 + 1 = b ∨ s + 1 + 1 + 1 = s + 1 + 1); omega)
      have he2 : w2.cell? ⟨s + 1 + 1 + 1, 0, none⟩ = some (.int .i64 0) := he.trans (by go_simp)
      clear he
      have B2 : Below w.heap.size w w1 := by rw [HS.out]; exact B1
      have hF2 : Fr (fun k => k = b) w w2 := by
        refine Fr.then ?_ hFr ?_
        · repeat (first | (with_reducible exact Fr.of_new B2) | (with_reducible refine Fr.drewN ?_ _) | (with_reducible refine Fr.setCell ?_ (by intro hlt; rw [HS.out] at hlt; simp only at hlt; omega) _))
        · rintro i hi (h | h)
          · exact h
          · rw [HS.out] at hi; omega
      simp [Leaves, settle, results, Try.results8, go_sem, hct, he2]
      exact ⟨hL, hF2⟩
    · have hub : (now == upDiv t r) = false := beq_eq_false_iff_ne.2 hu
      clear hu
      obtain rfl : now * r = F := by rw [← hF]; simp [sendFrom, hub]
      clear hF
      go_wp2_with fail
      refine leaves_cons (f := 15) (args := #[.pointer (some ⟨s + 1 + 1 + 1, 0, none⟩), .pointer (some ⟨s + 1 + 1 + 1 + 1, 0, none⟩), .pointer (some ⟨s + 1, 0, none⟩), .pointer (some ⟨s, 0, none⟩), .pointer (some ⟨s + 1 + 1, 0, none⟩)]) (by simp) (by simp [go_sem]) ?_
      refine (sendD_good s b (now * r) n r t false .returning _ hb ?_ hr hr2 l2 l3 F0 F1 ?_ ?_ ?_ ?_ ?_ ?_).mono ?_
      · unfold IsLink at L1 ⊢; repeat (first | (with_reducible exact L1) | (with_reducible refine Blk.drewN ?_ _) | (with_reducible refine Blk.far ?_ (by show b ≠ _ + 1; omega) _))
      · go_simp
      · go_simp
      · go_simp
      · go_simp
      · go_simp
      · go_simp
      rintro e u' w2 ⟨rfl, rfl, hL, hct, hFr⟩
      have he := hFr.cell (p := ⟨s + 1 + 1 + 1, 0, none⟩) (by simp only [World.size_setCell, size_drewN']; exact Blk.lt b3) (by show ¬ (s + 1 + 1 + 1 = b ∨ s + 1 + 1 + 1 = s + 1 + 1); omega)
      have he2 : w2.cell? ⟨s + 1 + 1 + 1, 0, none⟩ = some (.int .i64 0) := he.trans (by go_simp)
      clear he
      have B2 : Below w.heap.size w w1 := by rw [HS.out]; exact B1
      have hF2 : Fr (fun k => k = b) w w2 := by
        refine Fr.then ?_ hFr ?_
        · repeat (first | (with_reducible exact Fr.of_new B2) | (with_reducible refine Fr.drewN ?_ _) | (with_reducible refine Fr.setCell ?_ (by intro hlt; rw [HS.out] at hlt; simp only at hlt; omega) _))
        · rintro i hi (h | h)
          · exact h
          · rw [HS.out] at hi; omega
      simp [Leaves, settle, results, Try.results8, go_sem, hct, he2]
      exact ⟨hL, hF2⟩

end Go.Proofs.Ytgkkhdnoikfppaa
