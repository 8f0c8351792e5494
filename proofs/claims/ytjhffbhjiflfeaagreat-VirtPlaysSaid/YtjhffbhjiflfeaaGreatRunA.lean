/-
  Runs: bent or sagging, behind one interface.
-/
import Derived.Test.YtjhffbhjiflfeaaGreatSagD
import Derived.Test.YtjhffbhjiflfeaaGreatBentC
namespace Go.Proofs.YtjhffbhjiflfeaaGreat
set_option linter.unusedVariables false
set_option linter.unusedSimpArgs false
set_option maxRecDepth 100000
open Go.RowKit Go.Shelf

/-- What a run is, plainly. -/
inductive RS where
  | bent (F L R n x f r : Int)
  | sag (F L R n x : Int) (K : List (Int × Int))
def RS.ok : RS → Prop
  | .bent F L R n x f r => Made F L R n x f r
  | .sag F L R n x K => SagOk F L R n x K
def RS.many : RS → Int
  | .bent _ _ _ n _ _ _ => n
  | .sag _ _ _ n _ _ => n
def RS.start : RS → Int → Int → RS
  | .bent F L R n x f r, X, Y => .bent F L R (n + 1) (nextX x X) (nextH F 0 n x f X Y) (nextH R ((F - R) * L) n x r X Y)
  | .sag F L R n x K, X, Y => .sag F L R (n + 1) (nextX x X) (sNext F L R x X Y K)
def RS.reach : RS → Int → Int
  | .bent F L R n x f r, y => if n = 0 then (if y = 0 then 0 else 9223372036854775808) else reachB F R x f r y
  | .sag F L R n x K, y => sReach F L R n x K y
def RS.new (F L R : Int) : RS := if R < F then .bent F L R 0 0 0 0 else .sag F L R 0 0 []
def RunAt (w : World) (p q : Nat) : RS → Prop
  | .bent F L R n x f r => Blk w p 98 #[.int .u64 F, .int .u64 L, .int .u64 R, .iface 94 (.agg #[.pointer (some ⟨q, 0, none⟩)])] ∧ IsBent w q F L R n x f r
  | .sag F L R n x K => ∃ kv, Blk w p 98 #[.int .u64 F, .int .u64 L, .int .u64 R, .iface 103 (.agg #[.pointer (some ⟨q, 0, none⟩)])] ∧ IsSag w q F L R n x kv ∧ OwnK w 0 kv K
theorem RunAt.next {w w' : World} {p q : Nat} {s : RS} (h : RunAt w p q s) (hb : Below w.heap.size w w') : RunAt w' p q s := by
  cases s with
  | bent F L R n x f r => exact ⟨h.1.next hb, h.2.next hb⟩
  | sag F L R n x K => obtain ⟨kv, h1, h2, h3⟩ := h; exact ⟨kv, h1.next hb, h2.next hb, h3.next hb⟩
theorem RS.ok.start {s : RS} (h : s.ok) {X Y : Int} (hY : 0 ≤ Y) : (s.start X Y).ok := by
  cases s with
  | bent F L R n x f r => exact Made.next h hY
  | sag F L R n x K => exact SagOk.next h hY

set_option maxHeartbeats 2000000 in
theorem snew_made (F L R : Int) (w : World) (wF : Word F) (wL : Word L) (wR : Word R) (hm : mayB F L R = true) (hb : ¬ R < F) : Calls Tryz.prog 58 #[.agg #[.int .u64 F, .int .u64 L, .int .u64 R]] w fun e w' =>
    ∃ p, e = .returned (.tuple #[.pointer (some ⟨p, 0, none⟩), .int .i64 0]) ∧ w.heap.size ≤ p ∧ IsSag w' p F L R 0 0 (.slice none 0 0) ∧ Below w.heap.size w w' := by
  have MA := Lib.hid (fun w => may_val F L R true w wF wL wR hm)
  have BE := Lib.hid (fun w => bent_val F L R false w (decide_eq_false hb))
  clear hm hb
  go_enter Tryz.func58, Tryz.ntmps58
  go_wp2_with fail
  with_reducible refine (MA.out _).mono ?_
  rintro e w1 ⟨rfl, hb1⟩
  have Cm : Blk w1 (w.heap.size) 32 #[.int .u64 F, .int .u64 L, .int .u64 R] := Blk.next (by repeat (first | (refine Blk.new_at ?_; simp only [World.size_alloc]; done) | (with_reducible refine Blk.alloc ?_ _) | (with_reducible refine Blk.drewN ?_ _))) hb1
  have Cb := Cm
  clear Cm
  have Cc0 : World.cell? w1 ⟨w.heap.size, 0, none⟩ = some (.int .u64 F) := Cb.get 0 rfl
  have Cf0 := Blk.frozen Cb 0
  have Cc1 : World.cell? w1 ⟨w.heap.size, 1, none⟩ = some (.int .u64 L) := Cb.get 1 rfl
  have Cf1 := Blk.frozen Cb 1
  have Cc2 : World.cell? w1 ⟨w.heap.size, 2, none⟩ = some (.int .u64 R) := Cb.get 2 rfl
  have Cf2 := Blk.frozen Cb 2
  have Cn := Blk.lt Cb
  have B1 : Below w.heap.size w w1 := by first | with_reducible exact hb1 | exact Below.trans (by go_grown) (hb1.mono (by simp only [World.size_alloc]; omega))
  clear hb1
  go_wp2_with fail
  with_reducible refine (BE.out _).mono ?_
  rintro e w2 ⟨rfl, hb2⟩
  have Cm : Blk w2 (w.heap.size) 32 #[.int .u64 F, .int .u64 L, .int .u64 R] := Blk.next (by repeat (first | (with_reducible exact Cb) | (refine Blk.new_at ?_; simp only [World.size_alloc]; done) | (with_reducible refine Blk.alloc ?_ _) | (with_reducible refine Blk.drewN ?_ _))) hb2
  clear Cn Cb Cc0 Cf0 Cc1 Cf1 Cc2 Cf2
  have Cb := Cm
  clear Cm
  have Cc0 : World.cell? w2 ⟨w.heap.size, 0, none⟩ = some (.int .u64 F) := Cb.get 0 rfl
  have Cf0 := Blk.frozen Cb 0
  have Cc1 : World.cell? w2 ⟨w.heap.size, 1, none⟩ = some (.int .u64 L) := Cb.get 1 rfl
  have Cf1 := Blk.frozen Cb 1
  have Cc2 : World.cell? w2 ⟨w.heap.size, 2, none⟩ = some (.int .u64 R) := Cb.get 2 rfl
  have Cf2 := Blk.frozen Cb 2
  have Cn := Blk.lt Cb
  have B2 : Below w.heap.size w w2 := by first | with_reducible exact below_next B1 hb2 | exact below_step B1 (by go_grown) hb2
  clear hb2 B1
  go_wp2_with fail
  go_ret2
  exact ⟨w2.heap.size, by simp, B2.size, Blk.new w2 _ _, B2.alloc B2.size _⟩

set_option maxHeartbeats 2000000 in
theorem run_of (p : Nat) (t : TypeId) (v : Value) (w : World) (c3 : w.cell? ⟨p, 3, none⟩ = some (.iface t v)) : Calls Tryz.prog 60 #[.pointer (some ⟨p, 0, none⟩)] w fun e w' => e = .returned (.iface t v) ∧ w = w' := by
  go_enter Tryz.func60, Tryz.ntmps60
  go_wp2_with fail
  go_ret
  exact ⟨by simp, rfl⟩

set_option maxHeartbeats 2000000 in
theorem run_start_sag (p q : Nat) (F L R n x : Int) (K : List (Int × Int)) (X Y : Int) (w : World) (h : RunAt w p q (RS.sag F L R n x K)) (ok : (RS.sag F L R n x K).ok) (hn : n ≤ 1000000) (wX : Word X) (wY : Word Y) :
    Calls Tryz.prog 40 #[.pointer (some ⟨p, 0, none⟩), .int .u64 X, .int .u64 Y] w fun e w' => e = .returned (.tuple #[]) ∧ RunAt w' p q ((RS.sag F L R n x K).start X Y) ∧ Fr (fun k => k = q) w w' := by
  obtain ⟨kv, h1, h2, h3⟩ := h
  have c3 : World.cell? w ⟨p, 3, none⟩ = some (.iface 103 (.agg #[.pointer (some ⟨q, 0, none⟩)])) := h1.get 3 rfl
  have hne : ¬ (p = q) := Blk.ne_of_type h1 (show Blk w q _ _ from h2) (by decide)
  have OF := Lib.hid (run_of p _ _ w c3)
  have ST := Lib.hid (sstart_any q F L R n x K kv X Y w h2 h3 ok hn wX wY)
  have H1 := Lib.hid h1
  have HNE := Lib.hid hne
  clear h1 h2 h3 ok hn wX wY c3 hne
  go_enter Tryz.func40, Tryz.ntmps40
  go_wp2_with fail
  with_reducible refine (OF.out).mono ?_
  rintro e wx ⟨rfl, rfl⟩
  go_wp2_with fail
  with_reducible refine (ST.out).mono ?_
  rintro e w2 ⟨rfl, kv', g1, g2, g3⟩
  have HG := Lib.hid (And.intro g1 (And.intro g2 g3))
  clear g1 g2 g3
  go_wp2_with fail
  first | go_ret | go_end0
  exact ⟨rfl, ⟨kv', H1.out.fr HG.out.2.2 HNE.out, HG.out.1, HG.out.2.1⟩, HG.out.2.2⟩

set_option maxHeartbeats 2000000 in
theorem run_start_bent (p q : Nat) (F L R n x f r : Int) (X Y : Int) (w : World) (h : RunAt w p q (RS.bent F L R n x f r)) (ok : (RS.bent F L R n x f r).ok) (hn : n ≤ 1000000) (wX : Word X) (wY : Word Y) :
    Calls Tryz.prog 40 #[.pointer (some ⟨p, 0, none⟩), .int .u64 X, .int .u64 Y] w fun e w' => e = .returned (.tuple #[]) ∧ RunAt w' p q ((RS.bent F L R n x f r).start X Y) ∧ Fr (fun k => k = q) w w' := by
  obtain ⟨h1, h2⟩ := h
  have c3 : World.cell? w ⟨p, 3, none⟩ = some (.iface 94 (.agg #[.pointer (some ⟨q, 0, none⟩)])) := h1.get 3 rfl
  have hne : ¬ (p = q) := Blk.ne_of_type h1 (show Blk w q _ _ from h2) (by decide)
  have OF := Lib.hid (run_of p _ _ w c3)
  have ST := Lib.hid (bstart_made q F L R n x f r X Y w h2 ok hn wX wY)
  have H1 := Lib.hid h1
  have HNE := Lib.hid hne
  clear h1 h2 ok hn wX wY c3 hne
  go_enter Tryz.func40, Tryz.ntmps40
  go_wp2_with fail
  with_reducible refine (OF.out).mono ?_
  rintro e wx ⟨rfl, rfl⟩
  go_wp2_with fail
  with_reducible refine (ST.out).mono ?_
  rintro e w2 ⟨rfl, g1, g3⟩
  have HG := Lib.hid (And.intro g1 g3)
  clear g1 g3
  go_wp2_with fail
  first | go_ret | go_end0
  exact ⟨rfl, ⟨H1.out.fr HG.out.2 HNE.out, HG.out.1⟩, HG.out.2⟩

set_option maxHeartbeats 2000000 in
theorem run_reach_sag (p q : Nat) (F L R n x : Int) (K : List (Int × Int)) (y : Int) (w : World) (h : RunAt w p q (RS.sag F L R n x K)) (ok : (RS.sag F L R n x K).ok) (hn : n ≤ 1000000) (wY : Word y) :
    Calls Tryz.prog 45 #[.pointer (some ⟨p, 0, none⟩), .int .u64 y] w fun e w' => e = .returned (.int .u64 ((RS.sag F L R n x K).reach y)) ∧ Below w.heap.size w w' := by
  obtain ⟨kv, h1, h2, h3⟩ := h
  have c3 : World.cell? w ⟨p, 3, none⟩ = some (.iface 103 (.agg #[.pointer (some ⟨q, 0, none⟩)])) := h1.get 3 rfl
  have OF := Lib.hid (run_of p _ _ w c3)
  obtain ⟨v, hv⟩ : ∃ z, (RS.sag F L R n x K).reach y = z := ⟨_, rfl⟩
  have RE := Lib.hid (sreach_any q F L R n x y K kv w h2 h3 ok hn wY)
  have e : sReach F L R n x K y = v := hv
  rw [e] at RE
  rw [hv]
  clear h1 h2 h3 e ok hn wY c3 hv
  go_enter Tryz.func45, Tryz.ntmps45
  go_wp2_with fail
  with_reducible refine (OF.out).mono ?_
  rintro e wx ⟨rfl, rfl⟩
  go_wp2_with fail
  with_reducible refine (RE.out).mono ?_
  rintro e w2 ⟨rfl, hb⟩
  have HB := Lib.hid hb
  clear hb
  go_wp2_with fail
  go_ret
  exact ⟨rfl, HB.out⟩

set_option maxHeartbeats 2000000 in
theorem run_reach_bent (p q : Nat) (F L R n x f r : Int) (y : Int) (w : World) (h : RunAt w p q (RS.bent F L R n x f r)) (ok : (RS.bent F L R n x f r).ok) (hn : n ≤ 1000000) (wY : Word y) :
    Calls Tryz.prog 45 #[.pointer (some ⟨p, 0, none⟩), .int .u64 y] w fun e w' => e = .returned (.int .u64 ((RS.bent F L R n x f r).reach y)) ∧ Below w.heap.size w w' := by
  obtain ⟨h1, h2⟩ := h
  have c3 : World.cell? w ⟨p, 3, none⟩ = some (.iface 94 (.agg #[.pointer (some ⟨q, 0, none⟩)])) := h1.get 3 rfl
  have OF := Lib.hid (run_of p _ _ w c3)
  obtain ⟨v, hv⟩ : ∃ z, (RS.bent F L R n x f r).reach y = z := ⟨_, rfl⟩
  have RE : Hid (Calls Tryz.prog 112 #[.pointer (some ⟨q, 0, none⟩), .int .u64 y] w fun e w' => e = .returned (.int .u64 v) ∧ Below w.heap.size w w') := by
    by_cases h0 : n = 0
    · subst h0
      have e : (if y = 0 then 0 else 9223372036854775808) = v := by rw [← hv]; rfl
      exact breach0_val q F L R x f r y v w h2 e
    · have e : reachB F R x f r y = v := by rw [← hv]; exact (if_neg h0).symm
      exact breach_made q F L R n x f r y v w h2 ok (by have := Made.n0 ok; omega) wY e
  rw [hv]
  clear h1 h2 ok hn wY c3 hv
  go_enter Tryz.func45, Tryz.ntmps45
  go_wp2_with fail
  with_reducible refine (OF.out).mono ?_
  rintro e wx ⟨rfl, rfl⟩
  go_wp2_with fail
  with_reducible refine (RE.out).mono ?_
  rintro e w2 ⟨rfl, hb⟩
  have HB := Lib.hid hb
  clear hb
  go_wp2_with fail
  go_ret
  exact ⟨rfl, HB.out⟩

theorem run_start (p q : Nat) (s : RS) (X Y : Int) (w : World) (h : RunAt w p q s) (ok : s.ok) (hn : s.many ≤ 1000000) (wX : Word X) (wY : Word Y) :
    Calls Tryz.prog 40 #[.pointer (some ⟨p, 0, none⟩), .int .u64 X, .int .u64 Y] w fun e w' => e = .returned (.tuple #[]) ∧ RunAt w' p q (s.start X Y) ∧ Fr (fun k => k = q) w w' := by
  cases s with
  | bent F L R n x f r => exact run_start_bent p q F L R n x f r X Y w h ok hn wX wY
  | sag F L R n x K => exact run_start_sag p q F L R n x K X Y w h ok hn wX wY
theorem run_reach (p q : Nat) (s : RS) (y : Int) (w : World) (h : RunAt w p q s) (ok : s.ok) (hn : s.many ≤ 1000000) (wY : Word y) :
    Calls Tryz.prog 45 #[.pointer (some ⟨p, 0, none⟩), .int .u64 y] w fun e w' => e = .returned (.int .u64 (s.reach y)) ∧ Below w.heap.size w w' := by
  cases s with
  | bent F L R n x f r => exact run_reach_bent p q F L R n x f r y w h ok hn wY
  | sag F L R n x K => exact run_reach_sag p q F L R n x K y w h ok hn wY

end Go.Proofs.YtjhffbhjiflfeaaGreat

/-!
  A run is made.
-/
namespace Go.Proofs.YtjhffbhjiflfeaaGreat
set_option linter.unusedVariables false
set_option linter.unusedSimpArgs false
set_option maxRecDepth 100000
open Go.RowKit Go.Shelf

theorem RS.new_ok {F L R : Int} (hm : May F L R) : (RS.new F L R).ok := by
  unfold RS.new
  split
  · exact made_none hm (by assumption)
  · exact sag_none hm (by omega)
theorem RS.new_many (F L R : Int) : (RS.new F L R).many = 0 := by
  unfold RS.new
  split <;> rfl

set_option maxHeartbeats 2000000 in
theorem run_new_bad (F L R : Int) (w : World) (wF : Word F) (wL : Word L) (wR : Word R) (hm : mayB F L R = false) :
    Calls Tryz.prog 34 #[.agg #[.int .u64 F, .int .u64 L, .int .u64 R]] w fun e w' => e = .returned (.pointer none) ∧ Below w.heap.size w w' := by
  have MA := Lib.hid (fun w => may_val F L R false w wF wL wR hm)
  clear hm
  go_enter Tryz.func34, Tryz.ntmps34
  go_wp2_with fail
  with_reducible refine (MA.out _).mono ?_
  rintro e w1 ⟨rfl, hb1⟩
  have Cm : Blk w1 (w.heap.size) 32 #[.int .u64 F, .int .u64 L, .int .u64 R] := Blk.next (by repeat (first | (refine Blk.new_at ?_; simp only [World.size_alloc]; done) | (with_reducible refine Blk.alloc ?_ _) | (with_reducible refine Blk.drewN ?_ _))) hb1
  have Cb := Cm
  clear Cm
  have Cc0 : World.cell? w1 ⟨w.heap.size, 0, none⟩ = some (.int .u64 F) := Cb.get 0 rfl
  have Cf0 := Blk.frozen Cb 0
  have Cc1 : World.cell? w1 ⟨w.heap.size, 1, none⟩ = some (.int .u64 L) := Cb.get 1 rfl
  have Cf1 := Blk.frozen Cb 1
  have Cc2 : World.cell? w1 ⟨w.heap.size, 2, none⟩ = some (.int .u64 R) := Cb.get 2 rfl
  have Cf2 := Blk.frozen Cb 2
  have Cn := Blk.lt Cb
  have B1 : Below w.heap.size w w1 := by first | with_reducible exact hb1 | exact Below.trans (by go_grown) (hb1.mono (by simp only [World.size_alloc]; omega))
  clear hb1
  go_wp2_with fail
  go_ret
  exact ⟨by simp, B1⟩

set_option maxHeartbeats 4000000 in
theorem run_new_made (F L R : Int) (w : World) (wF : Word F) (wL : Word L) (wR : Word R) (hm : mayB F L R = true) :
    Calls Tryz.prog 34 #[.agg #[.int .u64 F, .int .u64 L, .int .u64 R]] w fun e w' =>
      ∃ p q, e = .returned (.pointer (some ⟨p, 0, none⟩)) ∧ w.heap.size ≤ p ∧ w.heap.size ≤ q ∧ RunAt w' p q (RS.new F L R) ∧ Below w.heap.size w w' := by
  have MA := Lib.hid (fun w => may_val F L R true w wF wL wR hm)
  unfold RS.new
  by_cases hb : R < F
  · rw [if_pos hb]
    have NB := Lib.hid (fun w => bnew_made F L R w wF wL wR hm hb)
    clear hm hb
    go_enter Tryz.func34, Tryz.ntmps34
    go_wp2_with fail
    with_reducible refine (MA.out _).mono ?_
    rintro e w1 ⟨rfl, hb1⟩
    have Cm : Blk w1 (w.heap.size) 32 #[.int .u64 F, .int .u64 L, .int .u64 R] := Blk.next (by repeat (first | (refine Blk.new_at ?_; simp only [World.size_alloc]; done) | (with_reducible refine Blk.alloc ?_ _) | (with_reducible refine Blk.drewN ?_ _))) hb1
    have Cb := Cm
    clear Cm
    have Cc0 : World.cell? w1 ⟨w.heap.size, 0, none⟩ = some (.int .u64 F) := Cb.get 0 rfl
    have Cf0 := Blk.frozen Cb 0
    have Cc1 : World.cell? w1 ⟨w.heap.size, 1, none⟩ = some (.int .u64 L) := Cb.get 1 rfl
    have Cf1 := Blk.frozen Cb 1
    have Cc2 : World.cell? w1 ⟨w.heap.size, 2, none⟩ = some (.int .u64 R) := Cb.get 2 rfl
    have Cf2 := Blk.frozen Cb 2
    have Cn := Blk.lt Cb
    have B1 : Below w.heap.size w w1 := by first | with_reducible exact hb1 | exact Below.trans (by go_grown) (hb1.mono (by simp only [World.size_alloc]; omega))
    clear hb1
    have HS1 := Lib.hid B1.size
    go_wp2_with fail
    with_reducible refine (NB.out _).mono ?_
    rintro e w2 ⟨q, rfl, hq, hbt, hb2⟩
    have Cm : Blk w2 (w.heap.size) 32 #[.int .u64 F, .int .u64 L, .int .u64 R] := Blk.next (by repeat (first | (with_reducible exact Cb) | (refine Blk.new_at ?_; simp only [World.size_alloc]; done) | (with_reducible refine Blk.alloc ?_ _) | (with_reducible refine Blk.drewN ?_ _))) hb2
    clear Cn Cb Cc0 Cf0 Cc1 Cf1 Cc2 Cf2
    have Cb := Cm
    clear Cm
    have Cc0 : World.cell? w2 ⟨w.heap.size, 0, none⟩ = some (.int .u64 F) := Cb.get 0 rfl
    have Cf0 := Blk.frozen Cb 0
    have Cc1 : World.cell? w2 ⟨w.heap.size, 1, none⟩ = some (.int .u64 L) := Cb.get 1 rfl
    have Cf1 := Blk.frozen Cb 1
    have Cc2 : World.cell? w2 ⟨w.heap.size, 2, none⟩ = some (.int .u64 R) := Cb.get 2 rfl
    have Cf2 := Blk.frozen Cb 2
    have Cn := Blk.lt Cb
    have B2 : Below w.heap.size w w2 := by first | with_reducible exact below_next B1 hb2 | exact below_step B1 (by go_grown) hb2
    clear hb2 B1
    have HT := Lib.hid hbt
    have HQ := Lib.hid (Nat.le_trans HS1.out hq)
    clear hq hbt
    go_wp2_with fail
    go_ret
    exact ⟨w2.heap.size, q, by simp, B2.size, HQ.out, ⟨Blk.new w2 _ _, HT.out.next ((Below.refl _ w2).alloc (Nat.le_refl _) _)⟩, B2.alloc B2.size _⟩
  · rw [if_neg hb]
    have NB := Lib.hid (fun w => bnew_bad F L R w wF wL wR (by rw [hm, decide_eq_false hb]; rfl))
    have NS := Lib.hid (fun w => snew_made F L R w wF wL wR hm hb)
    clear hm hb
    go_enter Tryz.func34, Tryz.ntmps34
    go_wp2_with fail
    with_reducible refine (MA.out _).mono ?_
    rintro e w1 ⟨rfl, hb1⟩
    have Cm : Blk w1 (w.heap.size) 32 #[.int .u64 F, .int .u64 L, .int .u64 R] := Blk.next (by repeat (first | (refine Blk.new_at ?_; simp only [World.size_alloc]; done) | (with_reducible refine Blk.alloc ?_ _) | (with_reducible refine Blk.drewN ?_ _))) hb1
    have Cb := Cm
    clear Cm
    have Cc0 : World.cell? w1 ⟨w.heap.size, 0, none⟩ = some (.int .u64 F) := Cb.get 0 rfl
    have Cf0 := Blk.frozen Cb 0
    have Cc1 : World.cell? w1 ⟨w.heap.size, 1, none⟩ = some (.int .u64 L) := Cb.get 1 rfl
    have Cf1 := Blk.frozen Cb 1
    have Cc2 : World.cell? w1 ⟨w.heap.size, 2, none⟩ = some (.int .u64 R) := Cb.get 2 rfl
    have Cf2 := Blk.frozen Cb 2
    have Cn := Blk.lt Cb
    have B1 : Below w.heap.size w w1 := by first | with_reducible exact hb1 | exact Below.trans (by go_grown) (hb1.mono (by simp only [World.size_alloc]; omega))
    clear hb1
    go_wp2_with fail
    with_reducible refine (NB.out _).mono ?_
    rintro e w2 ⟨rfl, hb2⟩
    have Cm : Blk w2 (w.heap.size) 32 #[.int .u64 F, .int .u64 L, .int .u64 R] := Blk.next (by repeat (first | (with_reducible exact Cb) | (refine Blk.new_at ?_; simp only [World.size_alloc]; done) | (with_reducible refine Blk.alloc ?_ _) | (with_reducible refine Blk.drewN ?_ _))) hb2
    clear Cn Cb Cc0 Cf0 Cc1 Cf1 Cc2 Cf2
    have Cb := Cm
    clear Cm
    have Cc0 : World.cell? w2 ⟨w.heap.size, 0, none⟩ = some (.int .u64 F) := Cb.get 0 rfl
    have Cf0 := Blk.frozen Cb 0
    have Cc1 : World.cell? w2 ⟨w.heap.size, 1, none⟩ = some (.int .u64 L) := Cb.get 1 rfl
    have Cf1 := Blk.frozen Cb 1
    have Cc2 : World.cell? w2 ⟨w.heap.size, 2, none⟩ = some (.int .u64 R) := Cb.get 2 rfl
    have Cf2 := Blk.frozen Cb 2
    have Cn := Blk.lt Cb
    have B2 : Below w.heap.size w w2 := by first | with_reducible exact below_next B1 hb2 | exact below_step B1 (by go_grown) hb2
    clear hb2 B1
    have HS1 := Lib.hid B2.size
    go_wp2_with fail
    with_reducible refine (NS.out _).mono ?_
    rintro e w3 ⟨q, rfl, hq, hbt, hb3⟩
    have Cm : Blk w3 (w.heap.size) 32 #[.int .u64 F, .int .u64 L, .int .u64 R] := Blk.next (by repeat (first | (with_reducible exact Cb) | (refine Blk.new_at ?_; simp only [World.size_alloc]; done) | (with_reducible refine Blk.alloc ?_ _) | (with_reducible refine Blk.drewN ?_ _))) hb3
    clear Cn Cb Cc0 Cf0 Cc1 Cf1 Cc2 Cf2
    have Cb := Cm
    clear Cm
    have Cc0 : World.cell? w3 ⟨w.heap.size, 0, none⟩ = some (.int .u64 F) := Cb.get 0 rfl
    have Cf0 := Blk.frozen Cb 0
    have Cc1 : World.cell? w3 ⟨w.heap.size, 1, none⟩ = some (.int .u64 L) := Cb.get 1 rfl
    have Cf1 := Blk.frozen Cb 1
    have Cc2 : World.cell? w3 ⟨w.heap.size, 2, none⟩ = some (.int .u64 R) := Cb.get 2 rfl
    have Cf2 := Blk.frozen Cb 2
    have Cn := Blk.lt Cb
    have B3 : Below w.heap.size w w3 := by first | with_reducible exact below_next B2 hb3 | exact below_step B2 (by go_grown) hb3
    clear hb3 B2
    have HT := Lib.hid hbt
    have HQ := Lib.hid (Nat.le_trans HS1.out hq)
    clear hq hbt
    go_wp2_with fail
    go_ret
    exact ⟨w3.heap.size, q, by simp, B3.size, HQ.out, ⟨_, Blk.new w3 _ _, HT.out.next ((Below.refl _ w3).alloc (Nat.le_refl _) _), OwnK.nil _ _⟩, B3.alloc B3.size _⟩

end Go.Proofs.YtjhffbhjiflfeaaGreat
