/-
  A table: values are put in and taken out.
-/
import Derived.Test.YtddehgcdflfonaaDoorProg
import Derived.Test.YtddehgcdflfonaaDoorTabC
namespace Go.Proofs.YtddehgcdflfonaaDoor
set_option linter.unusedVariables false
set_option linter.unusedSimpArgs false
set_option maxRecDepth 100000
open Go.RowKit

theorem TOk.ge {L : TRow} (h : TOk L) : ∀ (k : Nat) (hk : k < L.length), (k : Int) + 1 ≤ (L[k]).1
  | 0, hk => by have := (h.ids _ (List.getElem_mem hk)).1; omega
  | k + 1, hk => by
    have h1 := h.ge k (by omega)
    have h2 := rises_at h.rises (show k < L.length by omega) hk (by omega)
    omega
theorem TOk.few {L : TRow} (h : TOk L) : L.length ≤ 65535 := by
  rcases e : L.length with _ | k
  · omega
  · have h1 := h.ge k (by omega)
    have h2 := (h.ids _ (List.getElem_mem (show k < L.length by omega))).2
    omega

section
variable (w : World) {ops : Array Oper} {rest : List Oper} {o : Oper} {a : Act} {Q : Exit → Act → World → Prop}
theorem wpList_strike (hg : o.guard = none) (mm x : Operand) (hop : o.op = Op.call { callee := Callee.builtin Builtin.delete, args := #[mm, x], argTypes := #[56, 3] })
    (m n : Nat) (f : Nat → Option Nat) (hm : a.eval mm = .map (some m)) (h : MapAt w m n f) (i : Nat) (hi : i ≤ 1023) (hx : a.eval x = .int .i64 (i : Int))
    (hK : ∀ w', MapAt w' m n (fun j => if j = i then none else f j) → w.grownBy w' (some m) → wpList Tryd.prog ops Q rest (a.put o.dst (.tuple #[])) w') : wpList Tryd.prog ops Q (o :: rest) a w := by
  refine wpList_plain hg fun K' hK' => ?_
  obtain ⟨w', hrun, r1, r2⟩ := h.strike i hi o.type
  unfold Oper.wp
  simp [execOp, hop, resolve, invoke, builtin, hm, hx, hrun, Result.andThen]
  exact hK' _ _ (hK w' r1 r2)
theorem wpList_store_page (hg : o.guard = none) (mm x v : Operand) (hop : o.op = Op.mapUpdate 56 mm x v)
    (m n : Nat) (f : Nat → Option Nat) (hm : a.eval mm = .map (some m)) (h : MapAt w m n f) (hn : n < maxLen) (i : Nat) (hi : i ≤ 1023) (hx : a.eval x = .int .i64 (i : Int)) (b : Nat) (hv : a.eval v = .pointer (some ⟨b, 0, none⟩))
    (hK : ∀ w', MapAt w' m (n + 1) (fun j => if j = i then some b else f j) → w.grownBy w' (some m) → wpList Tryd.prog ops Q rest (a.put o.dst undef) w') : wpList Tryd.prog ops Q (o :: rest) a w := by
  refine wpList_plain hg fun K' hK' => ?_
  obtain ⟨w', hrun, r1, r2⟩ := h.store hn i hi b
  unfold Oper.wp
  simp [execOp, hop, hm, hx, hv, hrun, Result.andThen]
  exact hK' _ _ (hK w' r1 r2)
end

set_option maxHeartbeats 2000000 in
theorem tab_drop_there (T N : Nat) (S : Nat → Prop) (L : TRow) (id v0 : Int) (w : World) (h : TabAt w T S N L) (hv : tget id L = some v0) :
    Calls Tryd.prog 15 #[.pointer (some ⟨T, 0, none⟩), .int .i64 id] w fun e w' => e = .returned (.int .i64 0) ∧ TabAt w' T S N (tdel id L) ∧ Fr S w w' := by
  have HA := tabat_asked T N S L id true w h
  rw [askE_some h.ok hv] at HA
  obtain ⟨h1', h2', _⟩ := h.ok.get_may hv
  have hok := h.ok
  have hfew := hok.few
  have hlen := tdel_length hok.rises hv
  obtain ⟨m, n, pg, h1, h2, h3, h4, h5, h6, h7, h8⟩ := h
  obtain ⟨i, rfl⟩ : ∃ i : Nat, id = (i : Int) := ⟨id.toNat, by omega⟩
  obtain ⟨p, hp, hb, -⟩ := page_of h3 hv
  have AT := fun k => tab_at T m n i pg _ (w.drewN k) (h1.fr (Fr.of_drewN w (fun _ => False) k) (fun h => h) (fun h => h) (fun _ _ _ h => h)) (by omega) (by omega)
  rw [hp] at AT
  simp only [Option.map_some, pgPtr] at AT
  have hr : i % 64 < 64 := Nat.mod_lt _ (by omega)
  have hp64 := (h3.few _ _ hp).2.1
  have hB := bit_lt hr
  obtain ⟨nh, hnh⟩ : ∃ nh, p.has &&& (18446744073709551615 - 2 ^ (i % 64)) = nh := ⟨_, rfl⟩
  have ea : bits .andNot .u64 (p.has : Int) ((2 ^ (i % 64) : Nat) : Int) = (nh : Int) := by rw [← hnh]; exact u64_andNot_nat _ _ hp64 hB
  have n64 : nh < 18446744073709551616 := by rw [← hnh]; exact clear_lt hp64
  -- the page behind both stores
  have T1 : Tab (w.setCell ⟨p.b, 0, none⟩ (.int .u64 (nh : Int))) T m n (setPage pg (i / 64) (some ⟨p.b, nh, p.vs⟩)) L.length := h1.store hp 0 (.int .u64 (nh : Int)) ⟨p.b, nh, p.vs⟩ rfl (pageCells_put _ _ _)
  have T2 : Tab ((w.setCell ⟨p.b, 0, none⟩ (.int .u64 (nh : Int))).setCell ⟨p.b, 1 + i % 64, none⟩ (.int .u64 0)) T m n (setPage (setPage pg (i / 64) (some ⟨p.b, nh, p.vs⟩)) (i / 64) (some ⟨p.b, nh, fun j => if j = i % 64 then 0 else p.vs j⟩)) L.length :=
    T1.store (p := ⟨p.b, nh, p.vs⟩) setPage_same (1 + i % 64) (.int .u64 0) ⟨p.b, nh, fun j => if j = i % 64 then 0 else p.vs j⟩ rfl (pageCells_set _ _ hr 0)
  have e2p : setPage (setPage pg (i / 64) (some ⟨p.b, nh, p.vs⟩)) (i / 64) (some ⟨p.b, nh, fun j => if j = i % 64 then 0 else p.vs j⟩) = setPage pg (i / 64) (some ⟨p.b, nh, fun j => if j = i % 64 then 0 else p.vs j⟩) := by
    funext x
    by_cases cx : x = i / 64
    · subst cx; rw [setPage_same, setPage_same]
    · rw [setPage_other cx, setPage_other cx, setPage_other cx]
  rw [e2p] at T2
  have PG : PagesOf (setPage pg (i / 64) (some ⟨p.b, nh, fun j => if j = i % 64 then 0 else p.vs j⟩)) (tdel i L) :=
    h3.drop hp (by omega) (fun j hj => by rw [← hnh]; exact testBit_clear hp64 hr) n64 (fun j hj => rfl)
  have F2 : Fr S w ((w.setCell ⟨p.b, 0, none⟩ (.int .u64 (nh : Int))).setCell ⟨p.b, 1 + i % 64, none⟩ (.int .u64 0)) := ((Fr.refl S w).setCell (p := ⟨p.b, 0, none⟩) (fun _ => h7 _ _ hp) _).setCell (p := ⟨p.b, 1 + i % 64, none⟩) (fun _ => h7 _ _ hp) _
  have own2 : ∀ x q, setPage pg (i / 64) (some ⟨p.b, nh, fun j => if j = i % 64 then 0 else p.vs j⟩) x = some q → S q.b := fun x q hq => by
    by_cases cx : x = i / 64
    · subst cx; rw [setPage_same] at hq; injection hq with hq; subst hq; exact h7 (i / 64) p hp
    · rw [setPage_other cx] at hq; exact h7 _ _ hq
  have c0 := (h1.pages _ _ hp).get 0 (pageCells_has p.has p.vs)
  have f0 := (h1.pages _ _ hp).frozen 0
  have B2 := T2.pages (i / 64) _ setPage_same
  have B1 := T1.pages (i / 64) _ setPage_same
  have hc := B1.get (1 + i % 64) (pageCells_v nh p.vs hr)
  have hf := B1.frozen (1 + i % 64)
  have c2 := B2.get 0 (pageCells_has nh _)
  have k1 := T2.head.get 1 rfl
  have k0 := T2.head.get 0 rfl
  have fk := T2.head.frozen 1
  have e2 : ((i : Int)) % 64 = ((i % 64 : Nat) : Int) := rfl
  have e3 : ((i : Int)) / 64 = ((i / 64 : Nat) : Int) := rfl
  have HAT := Lib.hid AT
  have HAS := Lib.hid HA
  have h1i : 1 ≤ i := by omega
  have h2i : i ≤ 65535 := by omega
  obtain ⟨l, hl⟩ : ∃ l, (tdel i L).length = l := ⟨_, rfl⟩
  rw [← hlen, hl] at k1
  have ec : wrap64 (((l + 1 : Nat) : Int) - 1) = (l : Int) := by unfold wrap64; omega
  have ec2 : ((l + 1 : Nat) : Int) - 1 = (l : Int) := by omega
  have lb : l ≤ 65535 := by omega
  by_cases hz : nh = 0
  · -- the page goes
    have KEY : Hid (∀ w', ((w.setCell ⟨p.b, 0, none⟩ (.int .u64 (nh : Int))).setCell ⟨p.b, 1 + i % 64, none⟩ (.int .u64 0)).grownBy w' (some m) → MapAt w' m n (fun x => if x = i / 64 then none else (setPage pg (i / 64) (some ⟨p.b, nh, fun j => if j = i % 64 then 0 else p.vs j⟩) x).map (·.b)) →
        (w'.cell? ⟨T, 0, none⟩ = some (.map (some m)) ∧ w'.cell? ⟨T, 1, none⟩ = some (.int .i64 ((l + 1 : Nat) : Int)) ∧ w'.frozen? ⟨T, 1, none⟩ = false) ∧ TabAt (w'.setCell ⟨T, 1, none⟩ (.int .i64 (l : Int))) T S N (tdel i L) ∧ Fr S w (w'.setCell ⟨T, 1, none⟩ (.int .i64 (l : Int)))) := by
      intro w' hg hm
      have T3 := T2.strike hg hm
      have T4 := T3.count l
      have F3 := F2.grown hg (fun k e _ => by cases e; exact h6)
      refine ⟨⟨T3.head.get 0 rfl, (by rw [← hl, hlen]; exact T3.head.get 1 rfl), T3.head.frozen 1⟩, ⟨m, n, _, by rw [hl]; exact T4, h2, ?_, hok.del _, h5, h6, ?_, ?_⟩, F3.setCell (p := ⟨T, 1, none⟩) (fun _ => h5) _⟩
      · exact PG.strike setPage_same hz
      · intro x q hq
        by_cases cx : x = i / 64
        · subst cx; rw [setPage_same] at hq; cases hq
        · rw [setPage_other cx] at hq; exact own2 x q hq
      · intro k hk
        have := Nat.lt_of_lt_of_le (h8 k hk) F3.size
        simpa using this
    have hmap := Lib.hid T2.map
    have hjb : i / 64 ≤ 1023 := by omega
    obtain ⟨b, hb'⟩ : ∃ b, p.b = b := ⟨_, rfl⟩
    have hz1 : ((nh : Int) == 0) = true := by rw [hz]; rfl
    have hz2 : (nh == 0) = true := by rw [hz]; rfl
    clear hz
    simp only [hb'] at c0 f0 hc hf c2 k1 k0 fk KEY HAT hmap
    clear B1 B2 own2 F2 PG T2 T1 e2p hp64 hB hnh n64 h1 h2 h3 h4 h5 h6 h7 h8 hv AT HA h1' h2' hok hp hb hb' hfew hlen hl
    obtain ⟨vs0, hvs0⟩ : ∃ x, p.vs (i % 64) = x := ⟨_, rfl⟩
    obtain ⟨has0, hhas0⟩ : ∃ x, p.has = x := ⟨_, rfl⟩
    obtain ⟨B, hB⟩ : ∃ B : Nat, 2 ^ (i % 64) = B := ⟨_, rfl⟩
    rw [hvs0] at hc
    rw [hhas0] at c0 ea
    rw [hB] at HAT ea
    obtain ⟨q, hq⟩ : ∃ q, i % 64 = q := ⟨_, rfl⟩
    obtain ⟨j, hj⟩ : ∃ q, i / 64 = q := ⟨_, rfl⟩
    simp only [hq, hj] at hc hr e2 e3 HAT hf KEY c2 k1 k0 fk hjb hmap
    clear hvs0 hhas0 hB hq hj
    go_enter Tryd.func15, Tryd.ntmps15
    go_wp2_with fail
    with_reducible refine HAS.out.mono ?_
    rintro e w1 ⟨rfl, k, rfl⟩
    go_wp2_with fail
    with_reducible refine (HAT.out k).mono ?_
    rintro e w1 ⟨rfl, k2, rfl⟩
    go_wp2_with (at_delete; refine wpList_strike _ rfl (.tmp 44) (.tmp 46) rfl m n _ rfl (MapAt.same hmap.out rfl) j hjb rfl ?_; intro w2 hm2 hg2; obtain ⟨⟨z0, z1, z2⟩, z3⟩ := KEY.out w2 ⟨hg2.os, hg2.tape, hg2.output, hg2.size, hg2.block⟩ hm2; have Z3 := Lib.hid z3; clear z3 hm2 hg2 KEY)
    go_ret
    exact ⟨by simp, Z3.out⟩
  · -- the page stays
    have KEY : Hid (TabAt (((w.setCell ⟨p.b, 0, none⟩ (.int .u64 (nh : Int))).setCell ⟨p.b, 1 + i % 64, none⟩ (.int .u64 0)).setCell ⟨T, 1, none⟩ (.int .i64 (l : Int))) T S N (tdel i L) ∧ Fr S w (((w.setCell ⟨p.b, 0, none⟩ (.int .u64 (nh : Int))).setCell ⟨p.b, 1 + i % 64, none⟩ (.int .u64 0)).setCell ⟨T, 1, none⟩ (.int .i64 (l : Int)))) := by
      have T4 := T2.count l
      refine ⟨⟨m, n, _, by rw [hl]; exact T4, h2, PG, hok.del _, h5, h6, own2, ?_⟩, F2.setCell (p := ⟨T, 1, none⟩) (fun _ => h5) _⟩
      intro k hk
      have := Nat.lt_of_lt_of_le (h8 k hk) F2.size
      simpa using this
    obtain ⟨b, hb'⟩ : ∃ b, p.b = b := ⟨_, rfl⟩
    have hz1 : ((nh : Int) == 0) = false := beq_eq_false_iff_ne.2 (by omega)
    have hz2 : (nh == 0) = false := beq_eq_false_iff_ne.2 hz
    clear hz
    simp only [hb'] at c0 f0 hc hf c2 k1 k0 fk KEY HAT
    clear B1 B2 own2 F2 PG T2 T1 e2p hp64 hB hnh n64 h1 h2 h3 h4 h5 h6 h7 h8 hv AT HA h1' h2' hok hp hb hb' hfew hlen hl
    obtain ⟨vs0, hvs0⟩ : ∃ x, p.vs (i % 64) = x := ⟨_, rfl⟩
    obtain ⟨has0, hhas0⟩ : ∃ x, p.has = x := ⟨_, rfl⟩
    obtain ⟨B, hB⟩ : ∃ B : Nat, 2 ^ (i % 64) = B := ⟨_, rfl⟩
    rw [hvs0] at hc
    rw [hhas0] at c0 ea
    rw [hB] at HAT ea
    obtain ⟨q, hq⟩ : ∃ q, i % 64 = q := ⟨_, rfl⟩
    obtain ⟨j, hj⟩ : ∃ q, i / 64 = q := ⟨_, rfl⟩
    simp only [hq, hj] at hc hr e2 e3 HAT hf KEY c2 k1 k0 fk
    clear hvs0 hhas0 hB hq hj
    go_enter Tryd.func15, Tryd.ntmps15
    go_wp2_with fail
    with_reducible refine HAS.out.mono ?_
    rintro e w1 ⟨rfl, k, rfl⟩
    go_wp2_with fail
    with_reducible refine (HAT.out k).mono ?_
    rintro e w1 ⟨rfl, k2, rfl⟩
    go_wp2
    go_ret
    exact ⟨by simp, KEY.out.1.drewN _, KEY.out.2.drewN _⟩

/-! ### A new page -/
theorem zero_pageval (w : World) : (zeroValue 68).run Tryd.prog w = .ok (.agg (pageCells 0 fun _ => 0)) w := by kernel_rfl

set_option maxHeartbeats 2000000 in
theorem tab_put_free (T N : Nat) (S : Nat → Prop) (L : TRow) (id v : Int) (w : World) (h : TabAt w T S N L) (h1' : 1 ≤ id) (h2' : id ≤ 65535) (hv : tget id L = none) (hw : Word v) (hN : N < 1000000) :
    Calls Tryd.prog 13 #[.pointer (some ⟨T, 0, none⟩), .int .i64 id, .int .u64 v] w fun e w' => e = .returned (.int .i64 0) ∧ ∃ S', TabAt w' T S' (N + 1) (tins id v L) ∧ Fr S w w' ∧ ∀ k, S' k → S k ∨ w.heap.size ≤ k := by
  have HA := tabat_asked T N S L id false w h
  rw [askE_free h1' h2' hv] at HA
  have hok := h.ok
  have hfew := hok.few
  have hlen := tins_length id v L
  obtain ⟨m, n, pg, h1, h2, h3, h4, h5, h6, h7, h8⟩ := h
  obtain ⟨i, rfl⟩ : ∃ i : Nat, id = (i : Int) := ⟨id.toNat, by omega⟩
  have AT := fun k => tab_at T m n i pg _ (w.drewN k) (h1.fr (Fr.of_drewN w (fun _ => False) k) (fun h => h) (fun h => h) (fun _ _ _ h => h)) (by omega) (by omega)
  have hr : i % 64 < 64 := Nat.mod_lt _ (by omega)
  have hB := bit_lt hr
  have e2 : ((i : Int)) % 64 = ((i % 64 : Nat) : Int) := rfl
  have e3 : ((i : Int)) / 64 = ((i / 64 : Nat) : Int) := rfl
  have h1i : 1 ≤ i := by omega
  have h2i : i ≤ 65535 := by omega
  have HAS := Lib.hid HA
  obtain ⟨l, hl⟩ : ∃ l, L.length = l := ⟨_, rfl⟩
  have lb : l ≤ 65535 := by omega
  obtain ⟨l1, hl1⟩ : ∃ l1, l + 1 = l1 := ⟨_, rfl⟩
  have ec : wrap64 ((l : Int) + 1) = (l1 : Int) := by unfold wrap64; omega
  have ec2 : (l : Int) + 1 = (l1 : Int) := by omega
  rcases hp : pg (i / 64) with _ | p
  · rw [hp] at AT
    simp only [Option.map_none, pgPtr] at AT
    have HAT := Lib.hid AT
    obtain ⟨z, hz0⟩ : ∃ z : Nat, 0 = z := ⟨_, rfl⟩
    have hz := zero_pageval
    obtain ⟨Z, hZ⟩ : ∃ Z, pageCells z (fun _ => 0) = Z := ⟨_, rfl⟩
    rw [hz0, hZ] at hz
    have ea : bits .or .u64 (z : Int) ((2 ^ (i % 64) : Nat) : Int) = ((2 ^ (i % 64) : Nat) : Int) := by
      rw [u64_or_nat z (2 ^ (i % 64)) (by omega) hB, ← hz0, Nat.zero_or]
    have nw : Blk (w.alloc (.cells Z 68)) w.heap.size 68 Z := Blk.new w _ Z
    have F1 : Fr (fun _ => False) w (w.alloc (.cells Z 68)) := (Fr.refl _ w).alloc _
    have T1 : Tab (w.alloc (.cells Z 68)) T m n pg L.length := h1.fr F1 (fun h => h) (fun h => h) (fun _ _ _ h => h)
    have hlt : ∀ k, S k → k < w.heap.size := h8
    have KEY : Hid (∀ w', (w.alloc (.cells Z 68)).grownBy w' (some m) → MapAt w' m (n + 1) (fun x => if x = i / 64 then some w.heap.size else (pg x).map (·.b)) →
        (w'.cell? ⟨w.heap.size, 0, none⟩ = some (.int .u64 (z : Int)) ∧ w'.frozen? ⟨w.heap.size, 0, none⟩ = false) ∧
        ((w'.setCell ⟨w.heap.size, 0, none⟩ (.int .u64 ((2 ^ (i % 64) : Nat) : Int))).cell? ⟨w.heap.size, 1 + i % 64, none⟩ = some (.int .u64 0) ∧ (w'.setCell ⟨w.heap.size, 0, none⟩ (.int .u64 ((2 ^ (i % 64) : Nat) : Int))).frozen? ⟨w.heap.size, 1 + i % 64, none⟩ = false) ∧
        (((w'.setCell ⟨w.heap.size, 0, none⟩ (.int .u64 ((2 ^ (i % 64) : Nat) : Int))).setCell ⟨w.heap.size, 1 + i % 64, none⟩ (.int .u64 v)).cell? ⟨T, 1, none⟩ = some (.int .i64 (l : Int)) ∧ ((w'.setCell ⟨w.heap.size, 0, none⟩ (.int .u64 ((2 ^ (i % 64) : Nat) : Int))).setCell ⟨w.heap.size, 1 + i % 64, none⟩ (.int .u64 v)).frozen? ⟨T, 1, none⟩ = false) ∧
        ∃ S', TabAt (((w'.setCell ⟨w.heap.size, 0, none⟩ (.int .u64 ((2 ^ (i % 64) : Nat) : Int))).setCell ⟨w.heap.size, 1 + i % 64, none⟩ (.int .u64 v)).setCell ⟨T, 1, none⟩ (.int .i64 (l1 : Int))) T S' (N + 1) (tins i v L) ∧
          Fr S w (((w'.setCell ⟨w.heap.size, 0, none⟩ (.int .u64 ((2 ^ (i % 64) : Nat) : Int))).setCell ⟨w.heap.size, 1 + i % 64, none⟩ (.int .u64 v)).setCell ⟨T, 1, none⟩ (.int .i64 (l1 : Int))) ∧ ∀ k, S' k → S k ∨ w.heap.size ≤ k) := by
      intro w' hg hm
      have T2 := T1.more (p := ⟨w.heap.size, z, fun _ => 0⟩) hp (by rw [hZ]; exact nw) (fun x q hq => by have := h8 _ (h7 _ _ hq); dsimp only; omega) hg hm
      have T3 := T2.store (j := i / 64) (p := ⟨w.heap.size, z, fun _ => 0⟩) setPage_same 0 (.int .u64 ((2 ^ (i % 64) : Nat) : Int)) ⟨w.heap.size, 2 ^ (i % 64), fun _ => 0⟩ rfl (pageCells_put _ _ _)
      have T4 := T3.store (j := i / 64) (p := ⟨w.heap.size, 2 ^ (i % 64), fun _ => 0⟩) setPage_same (1 + i % 64) (.int .u64 v) ⟨w.heap.size, 2 ^ (i % 64), fun j => if j = i % 64 then v else 0⟩ rfl (pageCells_set _ _ hr v)
      have e4 : ∀ p1 p2 p3, setPage (setPage (setPage pg (i / 64) p1) (i / 64) p2) (i / 64) p3 = setPage pg (i / 64) p3 := by
        intro p1 p2 p3
        funext x
        by_cases cx : x = i / 64
        · subst cx; simp only [setPage_same]
        · simp only [setPage_other cx]
      rw [e4] at T4
      have T5 := T4.count l1
      have B2 := T2.pages (i / 64) _ setPage_same
      have B3 := T3.pages (i / 64) _ setPage_same
      refine ⟨⟨B2.get 0 (pageCells_has _ _), B2.frozen 0⟩, ⟨B3.get (1 + i % 64) (pageCells_v _ _ hr), B3.frozen _⟩, ⟨(by rw [← hl]; exact T4.head.get 1 rfl), T4.head.frozen 1⟩, fun k => S k ∨ k = w.heap.size, ⟨m, n + 1, _, by rw [hlen, hl, hl1]; exact T5, by omega, ?_, hok.ins h1' h2' hw hv, Or.inl h5, Or.inl h6, ?_, ?_⟩, ?_, ?_⟩
      · refine h3.put hv (by omega) hw (fun j hj => ?_) hB (fun j hj => by rw [hp])
        dsimp only
        rw [hp, Nat.testBit_two_pow]
        simp [bitOf]
      · intro x q hq
        by_cases cx : x = i / 64
        · subst cx; rw [setPage_same] at hq; injection hq with hq; subst hq; exact Or.inr rfl
        · rw [setPage_other cx] at hq; exact Or.inl (h7 _ _ hq)
      · intro k hk
        have s1 := hg.size
        simp only [World.size_alloc] at s1
        have : k < w'.heap.size := by rcases hk with hk | rfl; have := h8 k hk; omega; omega
        simpa using this
      · have f1 : Fr S w w' := ((Fr.refl S w).alloc _).grown hg (fun k e _ => by cases e; exact h6)
        exact ((f1.setCell (p := ⟨w.heap.size, 0, none⟩) (fun h => absurd h (Nat.lt_irrefl _)) _).setCell (p := ⟨w.heap.size, 1 + i % 64, none⟩) (fun h => absurd h (Nat.lt_irrefl _)) _).setCell (p := ⟨T, 1, none⟩) (fun _ => h5) _
      · intro k hk
        rcases hk with hk | rfl
        · exact Or.inl hk
        · exact Or.inr (Nat.le_refl _)
    have hmap := Lib.hid T1.map
    have k0 := T1.head.get 0 rfl
    have hjb : i / 64 ≤ 1023 := by omega
    have hnN : n < maxLen := by unfold maxLen; omega
    clear nw F1 T1 hlt AT HA h1 h2 h3 h4 h5 h6 h7 h8 hok hp hfew hz0 hZ hv hlen hl hl1 hw hN h1' h2'
    obtain ⟨B, hB'⟩ : ∃ B : Nat, 2 ^ (i % 64) = B := ⟨_, rfl⟩
    rw [hB'] at HAT hB ea KEY
    obtain ⟨q, hq⟩ : ∃ q, i % 64 = q := ⟨_, rfl⟩
    obtain ⟨j, hj⟩ : ∃ q, i / 64 = q := ⟨_, rfl⟩
    simp only [hq, hj] at hr e2 e3 HAT KEY hjb
    clear hB' hq hj hB
    go_enter Tryd.func13, Tryd.ntmps13
    go_wp2_with fail
    with_reducible refine HAS.out.mono ?_
    rintro e w1 ⟨rfl, k, rfl⟩
    go_wp2_with fail
    with_reducible refine (HAT.out k).mono ?_
    rintro e w1 ⟨rfl, k2, rfl⟩
    go_wp2_with (at_mapUpdate; refine wpList_store_page _ rfl (.tmp 29) (.tmp 31) (.tmp 32) rfl m n _ rfl (MapAt.same hmap.out rfl) hnN j hjb rfl w.heap.size rfl ?_; intro w2 hm2 hg2; obtain ⟨⟨z0, z1⟩, ⟨z2, z3⟩, ⟨z4, z5⟩, z6⟩ := KEY.out w2 ⟨hg2.os, hg2.tape, hg2.output, hg2.size, hg2.block⟩ hm2; have Z6 := Lib.hid z6; clear z6 hm2 hg2 KEY)
    go_ret
    exact ⟨by simp, Z6.out⟩
  · rw [hp] at AT
    simp only [Option.map_some, pgPtr] at AT
    have hp64 := (h3.few _ _ hp).2.1
    obtain ⟨nh, hnh⟩ : ∃ nh, p.has ||| 2 ^ (i % 64) = nh := ⟨_, rfl⟩
    have ea : bits .or .u64 (p.has : Int) ((2 ^ (i % 64) : Nat) : Int) = (nh : Int) := by rw [← hnh]; exact u64_or_nat _ _ hp64 hB
    have n64 : nh < 18446744073709551616 := by rw [← hnh]; exact or_lt hp64 hB
    have T1 : Tab (w.setCell ⟨p.b, 0, none⟩ (.int .u64 (nh : Int))) T m n (setPage pg (i / 64) (some ⟨p.b, nh, p.vs⟩)) L.length := h1.store hp 0 (.int .u64 (nh : Int)) ⟨p.b, nh, p.vs⟩ rfl (pageCells_put _ _ _)
    have T2 : Tab ((w.setCell ⟨p.b, 0, none⟩ (.int .u64 (nh : Int))).setCell ⟨p.b, 1 + i % 64, none⟩ (.int .u64 v)) T m n (setPage (setPage pg (i / 64) (some ⟨p.b, nh, p.vs⟩)) (i / 64) (some ⟨p.b, nh, fun j => if j = i % 64 then v else p.vs j⟩)) L.length :=
      T1.store (p := ⟨p.b, nh, p.vs⟩) setPage_same (1 + i % 64) (.int .u64 v) ⟨p.b, nh, fun j => if j = i % 64 then v else p.vs j⟩ rfl (pageCells_set _ _ hr v)
    have e2p : setPage (setPage pg (i / 64) (some ⟨p.b, nh, p.vs⟩)) (i / 64) (some ⟨p.b, nh, fun j => if j = i % 64 then v else p.vs j⟩) = setPage pg (i / 64) (some ⟨p.b, nh, fun j => if j = i % 64 then v else p.vs j⟩) := by
      funext x
      by_cases cx : x = i / 64
      · subst cx; rw [setPage_same, setPage_same]
      · rw [setPage_other cx, setPage_other cx, setPage_other cx]
    rw [e2p] at T2
    have PG : PagesOf (setPage pg (i / 64) (some ⟨p.b, nh, fun j => if j = i % 64 then v else p.vs j⟩)) (tins i v L) :=
      h3.put (p' := ⟨p.b, nh, fun j => if j = i % 64 then v else p.vs j⟩) hv (by omega) hw (fun j hj => by
        rw [← hnh]; dsimp only; rw [testBit_or_bit, hp]; simp only [bitOf]; cases p.has.testBit j <;> simp) n64 (fun j hj => by rw [hp])
    have F2 : Fr S w ((w.setCell ⟨p.b, 0, none⟩ (.int .u64 (nh : Int))).setCell ⟨p.b, 1 + i % 64, none⟩ (.int .u64 v)) := ((Fr.refl S w).setCell (p := ⟨p.b, 0, none⟩) (fun _ => h7 _ _ hp) _).setCell (p := ⟨p.b, 1 + i % 64, none⟩) (fun _ => h7 _ _ hp) _
    have own2 : ∀ x q, setPage pg (i / 64) (some ⟨p.b, nh, fun j => if j = i % 64 then v else p.vs j⟩) x = some q → S q.b := fun x q hq => by
      by_cases cx : x = i / 64
      · subst cx; rw [setPage_same] at hq; injection hq with hq; subst hq; exact h7 (i / 64) p hp
      · rw [setPage_other cx] at hq; exact h7 _ _ hq
    have c0 := (h1.pages _ _ hp).get 0 (pageCells_has p.has p.vs)
    have f0 := (h1.pages _ _ hp).frozen 0
    have B1 := T1.pages (i / 64) _ setPage_same
    have hc := B1.get (1 + i % 64) (pageCells_v nh p.vs hr)
    have hf := B1.frozen (1 + i % 64)
    have k1 := T2.head.get 1 rfl
    have fk := T2.head.frozen 1
    have HAT := Lib.hid AT
    rw [hl] at k1
    have KEY : Hid (TabAt (((w.setCell ⟨p.b, 0, none⟩ (.int .u64 (nh : Int))).setCell ⟨p.b, 1 + i % 64, none⟩ (.int .u64 v)).setCell ⟨T, 1, none⟩ (.int .i64 (l1 : Int))) T S (N + 1) (tins i v L) ∧ Fr S w (((w.setCell ⟨p.b, 0, none⟩ (.int .u64 (nh : Int))).setCell ⟨p.b, 1 + i % 64, none⟩ (.int .u64 v)).setCell ⟨T, 1, none⟩ (.int .i64 (l1 : Int)))) := by
      have T4 := T2.count l1
      refine ⟨⟨m, n, _, by rw [hlen, hl, hl1]; exact T4, by omega, PG, hok.ins h1' h2' hw hv, h5, h6, own2, ?_⟩, F2.setCell (p := ⟨T, 1, none⟩) (fun _ => h5) _⟩
      intro k hk
      have := Nat.lt_of_lt_of_le (h8 k hk) F2.size
      simpa using this
    obtain ⟨b, hb'⟩ : ∃ b, p.b = b := ⟨_, rfl⟩
    simp only [hb'] at c0 f0 hc hf k1 fk KEY HAT
    clear B1 own2 F2 PG T2 T1 e2p hp64 hB hnh n64 h1 h2 h3 h4 h5 h6 h7 h8 hv AT HA h1' h2' hok hp hb' hfew hlen hl hl1 hw hN
    obtain ⟨vs0, hvs0⟩ : ∃ x, p.vs (i % 64) = x := ⟨_, rfl⟩
    obtain ⟨has0, hhas0⟩ : ∃ x, p.has = x := ⟨_, rfl⟩
    obtain ⟨B, hB⟩ : ∃ B : Nat, 2 ^ (i % 64) = B := ⟨_, rfl⟩
    rw [hvs0] at hc
    rw [hhas0] at c0 ea
    rw [hB] at HAT ea
    obtain ⟨q, hq⟩ : ∃ q, i % 64 = q := ⟨_, rfl⟩
    obtain ⟨j, hj⟩ : ∃ q, i / 64 = q := ⟨_, rfl⟩
    simp only [hq, hj] at hc hr e2 e3 HAT hf KEY k1 fk
    clear hvs0 hhas0 hB hq hj
    go_enter Tryd.func13, Tryd.ntmps13
    go_wp2_with fail
    with_reducible refine HAS.out.mono ?_
    rintro e w1 ⟨rfl, k, rfl⟩
    go_wp2_with fail
    with_reducible refine (HAT.out k).mono ?_
    rintro e w1 ⟨rfl, k2, rfl⟩
    go_wp2
    go_ret
    exact ⟨by simp, S, KEY.out.1.drewN _, KEY.out.2.drewN _, fun k hk => Or.inl hk⟩

end Go.Proofs.YtddehgcdflfonaaDoor
