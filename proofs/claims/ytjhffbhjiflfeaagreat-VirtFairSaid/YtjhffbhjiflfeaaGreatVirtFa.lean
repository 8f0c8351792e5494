/-
  Two straight ones: what they gain is fair; the pieces of the law.
-/
import Derived.Test.YtjhffbhjiflfeaaGreatVirtY
namespace Go.Proofs.YtjhffbhjiflfeaaGreat
set_option linter.unusedVariables false
set_option linter.unusedSimpArgs false
set_option maxRecDepth 100000
open Go.RowKit Go.Shelf

/-- Turns that came in: kinds, ids, slopes, bytes. -/
structure FTurns (w : World) (A : Option Addr) (n : Nat) (K I P Q : Nat → Int) : Prop where
  addr : 0 < n → ∃ b off, A = some ⟨b, off, none⟩ ∧ b < w.heap.size
  cells : ∀ b off, A = some ⟨b, off, none⟩ → ∀ i, i < n → w.cell? ⟨b, off + i * 4, none⟩ = some (.int .u8 (K i)) ∧ w.cell? ⟨b, off + i * 4 + 1, none⟩ = some (.int .i64 (I i)) ∧ w.cell? ⟨b, off + i * 4 + 2, none⟩ = some (.int .u16 (P i)) ∧ w.cell? ⟨b, off + i * 4 + 3, none⟩ = some (.int .u16 (Q i))
theorem FTurns.below {w w' : World} {A : Option Addr} {n : Nat} {K I P Q : Nat → Int} (h : FTurns w A n K I P Q) (hb : Below w.heap.size w w') : FTurns w' A n K I P Q := by
  refine ⟨fun hn => ?_, fun b off e i hi => ?_⟩
  · obtain ⟨b, off, e, hl⟩ := h.addr hn
    exact ⟨b, off, e, Nat.lt_of_lt_of_le hl hb.size⟩
  · obtain ⟨b', off', e', hl⟩ := h.addr (by omega)
    rw [e] at e'
    cases e'
    obtain ⟨h0, h1, h2, h3⟩ := h.cells b off e i hi
    have k : ∀ o, w'.cell? ⟨b, o, none⟩ = w.cell? ⟨b, o, none⟩ := fun o => World.cell?_of_block (hb.block b hl)
    exact ⟨(k _).trans h0, (k _).trans h1, (k _).trans h2, (k _).trans h3⟩
/-- Slopes that came in. -/
structure FSlopes (w : World) (A : Option Addr) (n : Nat) (F : Nat → Int) : Prop where
  addr : 0 < n → ∃ b off, A = some ⟨b, off, none⟩ ∧ b < w.heap.size
  cells : ∀ b off, A = some ⟨b, off, none⟩ → ∀ i, i < n → w.cell? ⟨b, off + i, none⟩ = some (.int .u16 (F i))
theorem FSlopes.below {w w' : World} {A : Option Addr} {n : Nat} {F : Nat → Int} (h : FSlopes w A n F) (hb : Below w.heap.size w w') : FSlopes w' A n F := by
  refine ⟨fun hn => ?_, fun b off e i hi => ?_⟩
  · obtain ⟨b, off, e, hl⟩ := h.addr hn
    exact ⟨b, off, e, Nat.lt_of_lt_of_le hl hb.size⟩
  · obtain ⟨b', off', e', hl⟩ := h.addr (by omega)
    rw [e] at e'
    cases e'
    exact (World.cell?_of_block (hb.block b hl)).trans (h.cells b off e i hi)
theorem u16_of_wf {x : Int} (h : (Lit.int .u16 x).wf = true) : 0 ≤ x ∧ x ≤ 65535 := by
  have := bounds_u16 h
  exact ⟨by omega, by omega⟩

/-- A store into a block that is no family's. -/
theorem FamIn.store {B : Nat} {w0 w w' : World} {f mb g : Nat} {S : FS} {t : TypeId} {cs : Array Value} (h : FamIn B w0 w f mb S) (hb : Blk w g t cs) (t1 : t ≠ 43) (t2 : t ≠ 70) (t3 : t ≠ 120) (t4 : t ≠ 123) (t5 : t ≠ 98) (t6 : t ≠ 192)
    (hf : Fr (fun k => k = g) w w') (hg : B ≤ g) : FamIn B w0 w' f mb S := by
  have ne : ∀ (k : Nat) (u : TypeId) (c : Array Value), Blk w k u c → u ≠ t → ¬ k = g := fun k u c hk hu => Blk.ne_of_type hk hb hu
  refine ⟨⟨h.fam.blk.fr hf (ne _ _ _ h.fam.blk (Ne.symm t1)), h.fam.map.fr hf (h.fam.map.ne hb), fun x hx => ?_, h.fam.nm, h.fam.nq⟩, h.lf, h.lm, h.mem, h.below.trans (hf.below (Nat.le_trans h.size h.below.size) (fun k hk e => by omega)), h.size⟩
  have hx := h.fam.mem x hx
  refine ⟨hx.1.fr hf (ne _ _ _ hx.1 (Ne.symm t2)), hx.2.fr hf ?_ ?_ ?_⟩
  · obtain ⟨c, hc⟩ := hx.2.parts.1
    exact ne _ _ _ hc (Ne.symm t5)
  · rcases hx.2.parts.2 with ⟨c, hc⟩ | ⟨c, hc⟩
    · exact ne _ _ _ hc (Ne.symm t3)
    · exact ne _ _ _ hc (Ne.symm t4)
  · intro b c hc
    exact ne _ _ _ hc (Ne.symm t6)
/-- What each of eight has gained. -/
def G8 (w : World) (g : Nat) (gt : Int → Int) : Prop := ∃ cs, Blk w g 57 cs ∧ ∀ j : Nat, j < 8 → cs[j]? = some (.int .u64 (gt j))
theorem G8.next {w w' : World} {g : Nat} {gt : Int → Int} (h : G8 w g gt) (hb : Below w.heap.size w w') : G8 w' g gt := by
  obtain ⟨cs, h1, h2⟩ := h
  exact ⟨cs, h1.next hb, h2⟩
theorem G8.spare {w w' : World} {g : Nat} {gt : Int → Int} (h : G8 w g gt) (hs : Spares w w') : G8 w' g gt := by
  obtain ⟨cs, h1, h2⟩ := h
  exact ⟨cs, hs g _ cs (by decide) (by decide) (by decide) (by decide) h1, h2⟩
theorem G8.cell {w : World} {g : Nat} {gt : Int → Int} (h : G8 w g gt) {j : Nat} (hj : j < 8) : w.cell? ⟨g, j, none⟩ = some (.int .u64 (gt j)) ∧ w.frozen? ⟨g, j, none⟩ = false := by
  obtain ⟨cs, h1, h2⟩ := h
  exact ⟨h1.get j (h2 j hj), h1.frozen j⟩
theorem G8.put {w : World} {g : Nat} {gt : Int → Int} (h : G8 w g gt) {j : Nat} (v : Int) (hj : j < 8) : G8 (w.setCell ⟨g, j, none⟩ (.int .u64 v)) g (fun k => if k = (j : Int) then v else gt k) := by
  obtain ⟨cs, h1, h2⟩ := h
  refine ⟨_, h1.put j _, fun i hi => ?_⟩
  rw [Array.getElem?_setIfInBounds]
  have hsz : j < cs.size := by
    have := h2 j hj
    exact (Array.getElem?_eq_some_iff.1 this).1
  by_cases e : j = i
  · subst e
    rw [if_pos rfl, if_pos hsz]
    show _ = some (Value.int .u64 (if (j : Int) = (j : Int) then v else gt j))
    rw [if_pos rfl]
  · rw [if_neg e]
    show _ = some (Value.int .u64 (if (i : Int) = (j : Int) then v else gt i))
    rw [if_neg (by omega)]
    exact h2 i hi
theorem g8_new {w : World} {g : Nat} (h : Blk w g 57 #[.int .u64 0, .int .u64 0, .int .u64 0, .int .u64 0, .int .u64 0, .int .u64 0, .int .u64 0, .int .u64 0]) : G8 w g (fun _ => 0) :=
  ⟨_, h, fun j hj => by rcases j with _ | _ | _ | _ | _ | _ | _ | _ | j <;> first | rfl | omega⟩
theorem G8.congr {w : World} {g : Nat} {gt gt' : Int → Int} (h : G8 w g gt) (e : ∀ j : Nat, j < 8 → gt j = gt' j) : G8 w g gt' := by
  obtain ⟨cs, h1, h2⟩ := h
  exact ⟨cs, h1, fun j hj => by rw [h2 j hj, e j hj]⟩
def zero8 (w : World) (g : Nat) : World := ((((((((w.setCell ⟨g, 0, none⟩ (.int .u64 0)).setCell ⟨g, 1, none⟩ (.int .u64 0)).setCell ⟨g, 2, none⟩ (.int .u64 0)).setCell ⟨g, 3, none⟩ (.int .u64 0)).setCell ⟨g, 4, none⟩ (.int .u64 0)).setCell ⟨g, 5, none⟩ (.int .u64 0)).setCell ⟨g, 6, none⟩ (.int .u64 0)).setCell ⟨g, 7, none⟩ (.int .u64 0))
theorem G8.zero {w : World} {g : Nat} {gt : Int → Int} (h : G8 w g gt) : G8 (zero8 w g) g (fun _ => 0) :=
  ((((((((h.put (j := 0) 0 (by decide)).put (j := 1) 0 (by decide)).put (j := 2) 0 (by decide)).put (j := 3) 0 (by decide)).put (j := 4) 0 (by decide)).put (j := 5) 0 (by decide)).put (j := 6) 0 (by decide)).put (j := 7) 0 (by decide)).congr fun j hj => by
    rcases j with _ | _ | _ | _ | _ | _ | _ | _ | j <;> first | rfl | omega
theorem zero8_fr (w : World) (g : Nat) : Fr (fun k => k = g) w (zero8 w g) := by
  have st : ∀ (a b : World) (o : Nat), Fr (fun k => k = g) a b → Fr (fun k => k = g) a (b.setCell ⟨g, o, none⟩ (.int .u64 0)) := fun a b o h => Fr.setCell (S := fun k => k = g) (p := ⟨g, o, none⟩) h (fun _ => rfl) _
  exact st _ _ _ (st _ _ _ (st _ _ _ (st _ _ _ (st _ _ _ (st _ _ _ (st _ _ _ (st _ _ _ (Fr.refl _ w))))))))
theorem G8.blk {w : World} {g : Nat} {gt : Int → Int} (h : G8 w g gt) : ∃ cs, Blk w g 57 cs := by
  obtain ⟨cs, h1, -⟩ := h
  exact ⟨cs, h1⟩
/-- What is fair between a and b. -/
def FairOn (l M a b : Int) (r gt : Int → Int) (S : FS) : Prop := ∃ ma aa ba Ta va mb' ab bb Tb vb, 1 ≤ ma ∧ Got a (r a) ma aa ba Ta (gt a) S ∧ IsUp (r a) (Ta - ba) (va - aa) ∧ 1 ≤ mb' ∧ Got b (r b) mb' ab bb Tb (gt b) S ∧ IsUp (r b) (Tb - bb) (vb - ab) ∧ va - vb ≤ (M + l - 1) / l ∧ vb - va ≤ (M + l - 1) / l
section
variable {l M a b : Int} {r gt : Int → Int} {S : FS} {N i : Nat} {n : Int}
theorem FairOn.more {M' : Int} (h : FairOn l M a b r gt S) (hl : 1 ≤ l) (hM : M ≤ M') : FairOn l M' a b r gt S := by
  obtain ⟨ma, aa, ba, Ta, va, mb', ab, bb, Tb, vb, h1, h2, h3, h4, h5, h6, h7, h8⟩ := h
  have := up_mono (l := l) hl hM
  exact ⟨ma, aa, ba, Ta, va, mb', ab, bb, Tb, vb, h1, h2, h3, h4, h5, h6, by omega, by omega⟩
theorem FairOn.wake (h : FairOn l M a b r gt S) (id : Int) : FairOn l M a b r gt (S.wake id) := by
  obtain ⟨ma, aa, ba, Ta, va, mb', ab, bb, Tb, vb, h1, h2, h3, h4, h5, h6, h7, h8⟩ := h
  exact ⟨ma, aa, ba, Ta, va, mb', ab, bb, Tb, vb, h1, h2.wake id, h3, h4, h5.wake id, h6, h7, h8⟩
theorem FairOn.sleep (h : FairOn l M a b r gt S) {id : Int} (ha : id ≠ a) (hb : id ≠ b) : FairOn l M a b r gt (S.sleep id) := by
  obtain ⟨ma, aa, ba, Ta, va, mb', ab, bb, Tb, vb, h1, h2, h3, h4, h5, h6, h7, h8⟩ := h
  exact ⟨ma, aa, ba, Ta, va, mb', ab, bb, Tb, vb, h1, h2.sleep ha, h3, h4, h5.sleep hb, h6, h7, h8⟩
theorem FairOn.gain (h : FairOn l M a b r gt S) {id d : Int} (hT : ∀ x, fnd id S.L = some x → gainT x d = x.T + d) : FairOn l M a b r (fun k => if k = id then gt id + d else gt k) (S.gain id d) := by
  obtain ⟨ma, aa, ba, Ta, va, mb', ab, bb, Tb, vb, h1, h2, h3, h4, h5, h6, h7, h8⟩ := h
  have k2 := h2.gain hT
  have k5 := h5.gain hT
  have e : ∀ c : Int, (if c = id then gt c + d else gt c) = (fun k => if k = id then gt id + d else gt k) c := fun c => by
    show _ = if c = id then gt id + d else gt c
    by_cases e : c = id
    · rw [if_pos e, if_pos e, e]
    · rw [if_neg e, if_neg e]
  rw [e] at k2 k5
  exact ⟨ma, aa, ba, Ta, va, mb', ab, bb, Tb, vb, h1, k2, h3, h4, k5, h6, h7, h8⟩
def IsAwake (c : Int) (S : FS) : Prop := ∃ x, fnd c S.L = some x ∧ x.up = true
theorem isAwake_wake {id : Int} (h : ∃ x, fnd id S.L = some x) : IsAwake id (S.wake id) := by
  obtain ⟨x, hf⟩ := h
  unfold FS.wake IsAwake
  rw [hf]
  dsimp only
  split
  · rename_i hu; exact ⟨x, hf, hu⟩
  · have hid := (fnd_mem hf).2
    refine ⟨wokenM S.k S.L x, ?_, rfl⟩
    show fnd id (setM (wokenM S.k S.L x) S.L) = _
    rw [fnd_setM (y := wokenM S.k S.L x) (x := x) (by show fnd x.id S.L = some x; rw [hid]; exact hf)]
    show (if id = x.id then _ else _) = _
    rw [if_pos hid.symm]
theorem IsAwake.wake {c : Int} (h : IsAwake c S) (id : Int) : IsAwake c (S.wake id) := by
  obtain ⟨x, hf, hu⟩ := h
  by_cases e : c = id
  · subst e; exact isAwake_wake ⟨x, hf⟩
  · unfold FS.wake IsAwake
    cases hz : fnd id S.L with
    | none => exact ⟨x, hf, hu⟩
    | some z =>
      dsimp only
      split
      · exact ⟨x, hf, hu⟩
      · have hid := (fnd_mem hz).2
        refine ⟨x, ?_, hu⟩
        show fnd c (setM (wokenM S.k S.L z) S.L) = _
        rw [fnd_setM (y := wokenM S.k S.L z) (x := z) (by show fnd z.id S.L = some z; rw [hid]; exact hz)]
        show (if c = z.id then _ else _) = _
        rw [if_neg (by rw [hid]; exact e)]
        exact hf
theorem near_two (hs : Strt l M i S) (ok : S.ok N) {x y : Mem} (hx : x ∈ S.L ∧ x.up = true) (hy : y ∈ S.L ∧ y.up = true) : x.v - y.v ≤ (M + l - 1) / l := by
  have hy' := mem_ups.2 hy
  have h1 := hs.near (fun e => by rw [e] at hy'; cases hy')
  have h2 := low_le hy'
  have h3 := (ok.mem x hx.1).v1
  omega
theorem fair_begin (hs : Strt l M i S) (ok : S.ok N) (hk : Kin n r S) (ha : IsAwake a S) (hb : IsAwake b S) : FairOn l M a b r (fun _ => 0) S := by
  obtain ⟨x, hx, hxu⟩ := ha
  obtain ⟨y, hy, hyu⟩ := hb
  obtain ⟨ma, aa, ba, h1, h2, h3⟩ := got_begin hs ok hk hx hxu
  obtain ⟨mb', ab, bb, h4, h5, h6⟩ := got_begin hs ok hk hy hyu
  exact ⟨ma, aa, ba, x.T, x.v, mb', ab, bb, y.T, y.v, h1, h2, h3, h4, h5, h6, near_two hs ok ⟨(fnd_mem hx).1, hxu⟩ ⟨(fnd_mem hy).1, hyu⟩, near_two hs ok ⟨(fnd_mem hy).1, hyu⟩ ⟨(fnd_mem hx).1, hxu⟩⟩
theorem FairOn.check (h : FairOn l M a b r gt S) (hs : Strt l M i S) (ok : S.ok N) : (gt a * r b - gt b * r a) * l ≤ (2 * M + 4 * l) * r a * r b ∧ (gt b * r a - gt a * r b) * l ≤ (2 * M + 4 * l) * r a * r b := by
  obtain ⟨ma, aa, ba, Ta, va, mb', ab, bb, Tb, vb, h1, h2, h3, h4, h5, h6, h7, h8⟩ := h
  obtain ⟨x, hx, hxu, k1, k2, k3⟩ := h2.now hs h1
  obtain ⟨y, hy, hyu, k4, k5, k6⟩ := h5.now hs h4
  have n1 := near_two hs ok ⟨(fnd_mem hx).1, hxu⟩ ⟨(fnd_mem hy).1, hyu⟩
  have n2 := near_two hs ok ⟨(fnd_mem hy).1, hyu⟩ ⟨(fnd_mem hx).1, hxu⟩
  have hl := hs.l1
  have hD := isUp_up (M := M) (l := l) hl hs.m0
  refine ⟨fair_le (by omega) (by omega) hl hD h3 k3 h6 k6 h8 n1, ?_⟩
  have := fair_le (by omega) (by omega) hl hD h6 k6 h3 k3 h7 n2
  rw [show (2 * M + 4 * l) * r a * r b = (2 * M + 4 * l) * r b * r a by rw [Int.mul_assoc, Int.mul_comm (r a), ← Int.mul_assoc]]
  exact this
end

set_option maxHeartbeats 4000000 in
theorem within_any (a r b s M l : Int) (w : World) (ha : 0 ≤ a ∧ a ≤ 40000000) (hb : 0 ≤ b ∧ b ≤ 40000000) (hr : 1 ≤ r ∧ r ≤ 4096) (hs : 1 ≤ s ∧ s ≤ 4096) (hM : 0 ≤ M ∧ M ≤ 384000) (hl : 1 ≤ l ∧ l ≤ 4096)
    (h1 : (a * s - b * r) * l ≤ (2 * M + 4 * l) * r * s) (h2 : (b * r - a * s) * l ≤ (2 * M + 4 * l) * r * s) :
    Calls Tryz.prog 29 #[.int .u64 a, .int .u64 r, .int .u64 b, .int .u64 s, .int .u64 M, .int .u64 l] w fun e w' => e = .returned (.bool true) ∧ Below w.heap.size w w' := by
  have p1 : 0 ≤ a * s ∧ a * s ≤ 163840000000 := ⟨Int.mul_nonneg ha.1 (by omega), by have := Int.mul_le_mul ha.2 hs.2 (by omega) (by omega); omega⟩
  have p2 : 0 ≤ b * r ∧ b * r ≤ 163840000000 := ⟨Int.mul_nonneg hb.1 (by omega), by have := Int.mul_le_mul hb.2 hr.2 (by omega) (by omega); omega⟩
  have p3 : 0 ≤ (2 * M + 4 * l) * r ∧ (2 * M + 4 * l) * r ≤ 3212836864 := ⟨Int.mul_nonneg (by omega) (by omega), by have := Int.mul_le_mul (show 2 * M + 4 * l ≤ 784384 by omega) hr.2 (by omega) (by omega); omega⟩
  have p4 : 0 ≤ (2 * M + 4 * l) * r * s ∧ (2 * M + 4 * l) * r * s ≤ 13159779794944 := ⟨Int.mul_nonneg p3.1 (by omega), by have := Int.mul_le_mul p3.2 hs.2 (by omega) (by omega); omega⟩
  obtain ⟨q3, hq3⟩ : ∃ z, 2 * M = z := ⟨_, rfl⟩
  obtain ⟨q4, hq4⟩ : ∃ z, 4 * l = z := ⟨_, rfl⟩
  obtain ⟨q2, hq2⟩ : ∃ z, q3 + q4 = z := ⟨_, rfl⟩
  have hq2' : 2 * M + 4 * l = q2 := by omega
  rw [hq2'] at p3 p4 h1 h2
  obtain ⟨q1, hq1⟩ : ∃ z, q2 * r = z := ⟨_, rfl⟩
  rw [hq1] at p3 p4 h1 h2
  obtain ⟨q, hq⟩ : ∃ z, q1 * s = z := ⟨_, rfl⟩
  rw [hq] at p4 h1 h2
  have e1 : IntKind.u64.wrap (2 * M) = q3 := by rw [IntKind.wrap_u64]; omega
  have e2 : IntKind.u64.wrap (4 * l) = q4 := by rw [IntKind.wrap_u64]; omega
  have e3 : IntKind.u64.wrap (q3 + q4) = q2 := by rw [IntKind.wrap_u64]; omega
  have e4 : IntKind.u64.wrap (q2 * r) = q1 := by rw [hq1, IntKind.wrap_u64]; omega
  have e5 : IntKind.u64.wrap (q1 * s) = q := by rw [hq, IntKind.wrap_u64]; omega
  obtain ⟨x, hx⟩ : ∃ z, a * s = z := ⟨_, rfl⟩
  rw [hx] at h1 h2 p1
  have e6 : IntKind.u64.wrap (a * s) = x := by rw [hx, IntKind.wrap_u64]; omega
  obtain ⟨y, hy⟩ : ∃ z, b * r = z := ⟨_, rfl⟩
  rw [hy] at h1 h2 p2
  have e7 : IntKind.u64.wrap (b * r) = y := by rw [hy, IntKind.wrap_u64]; omega
  rcases Int.lt_or_le x y with hlt | hle
  · have d1 : decide (x < y) = true := decide_eq_true hlt
    have b0 : 0 ≤ (y - x) * l ∧ (y - x) * l ≤ 671088640000000 := ⟨Int.mul_nonneg (by omega) (by omega), by have := Int.mul_le_mul (show y - x ≤ 163840000000 by omega) hl.2 (by omega) (by omega); omega⟩
    obtain ⟨u, hu⟩ : ∃ z, y - x = z := ⟨_, rfl⟩
    rw [hu] at h2 b0
    obtain ⟨u2, hu2⟩ : ∃ z, u * l = z := ⟨_, rfl⟩
    rw [hu2] at h2 b0
    have g1 : IntKind.u64.wrap (y - x) = u := by rw [IntKind.wrap_u64]; omega
    have g2 : IntKind.u64.wrap (u * l) = u2 := by rw [hu2, IntKind.wrap_u64]; omega
    have g3 : decide (u2 ≤ q) = true := decide_eq_true h2
    clear ha hb hr hs hM hl h1 h2 p1 p2 p3 p4 b0 hlt hq hu hu2 hq1 hq2 hq3 hq4 hq2' hx hy
    go_enter Tryz.func29, Tryz.ntmps29
    go_wp2_with fail
    try (go_region; go_wp2_with fail)
    go_ret
    exact ⟨by simp, by go_grown⟩
  · have d1 : decide (x < y) = false := decide_eq_false (by omega)
    have b0 : 0 ≤ (x - y) * l ∧ (x - y) * l ≤ 671088640000000 := ⟨Int.mul_nonneg (by omega) (by omega), by have := Int.mul_le_mul (show x - y ≤ 163840000000 by omega) hl.2 (by omega) (by omega); omega⟩
    obtain ⟨u, hu⟩ : ∃ z, x - y = z := ⟨_, rfl⟩
    rw [hu] at h1 b0
    obtain ⟨u2, hu2⟩ : ∃ z, u * l = z := ⟨_, rfl⟩
    rw [hu2] at h1 b0
    have g1 : IntKind.u64.wrap (x - y) = u := by rw [IntKind.wrap_u64]; omega
    have g2 : IntKind.u64.wrap (u * l) = u2 := by rw [hu2, IntKind.wrap_u64]; omega
    have g3 : decide (u2 ≤ q) = true := decide_eq_true h1
    clear ha hb hr hs hM hl h1 h2 p1 p2 p3 p4 b0 hle hq hu hu2 hq1 hq2 hq3 hq4 hq2' hx hy
    go_enter Tryz.func29, Tryz.ntmps29
    go_wp2_with fail
    try (go_region; go_wp2_with fail)
    go_ret
    exact ⟨by simp, by go_grown⟩

end Go.Proofs.YtjhffbhjiflfeaaGreat
