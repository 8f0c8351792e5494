/-
  The document's row of chapter 9: in memory; where an id is; what is dropped.
-/
import Derived.Test.YtjlnbpomncglcaaProg
import Derived.Test.YtjlnbpomncglcaaLib2
import Derived.Test.YtjlnbpomncglcaaAugG
import Derived.Test.YtjlnbpomncglcaaAppendSrc
namespace Go.Proofs.Ytjlnbpomncglcaa
set_option linter.unusedVariables false
set_option linter.unusedSimpArgs false
set_option maxRecDepth 100000
open Go.RowKit

/-! ### Rows taken apart -/
/-- A row's items, cell by cell. -/
def flatJ (L : Row) : List Value := L.flatMap fun p => [.int .i64 p.1.2, .int .u64 p.1.1, .int .u64 p.2]
theorem flatJ_length (L : Row) : (flatJ L).length = L.length * 3 := by
  induction L with
  | nil => rfl
  | cons p L ih => simp only [flatJ, List.flatMap_cons, List.length_append, List.length_cons, List.length_nil] at *; omega
theorem flatJ_at : ∀ {L : Row} {i : Nat} {p : RK × Int}, L[i]? = some p → (flatJ L)[i * 3]? = some (.int .i64 p.1.2) ∧ (flatJ L)[i * 3 + 1]? = some (.int .u64 p.1.1) ∧ (flatJ L)[i * 3 + 2]? = some (.int .u64 p.2)
  | [], i, p, h => by simp at h
  | q :: L, 0, p, h => by
    simp only [List.getElem?_cons_zero, Option.some.injEq] at h
    subst h
    exact ⟨rfl, rfl, rfl⟩
  | q :: L, i + 1, p, h => by
    simp only [List.getElem?_cons_succ] at h
    obtain ⟨h1, h2, h3⟩ := flatJ_at h
    have e : flatJ (q :: L) = .int .i64 q.1.2 :: .int .u64 q.1.1 :: .int .u64 q.2 :: flatJ L := rfl
    rw [e, show (i + 1) * 3 = i * 3 + 1 + 1 + 1 by omega]
    exact ⟨h1, h2, h3⟩
theorem flatJ_append (L M : Row) : flatJ (L ++ M) = flatJ L ++ flatJ M := List.flatMap_append
theorem flatJ_take (L : Row) : ∀ a, (flatJ L).take (a * 3) = flatJ (L.take a) := by
  induction L with
  | nil => intro a; simp [flatJ]
  | cons p L ih =>
    intro a
    cases a with
    | zero => simp [flatJ]
    | succ a =>
      have e : flatJ (p :: L) = .int .i64 p.1.2 :: .int .u64 p.1.1 :: .int .u64 p.2 :: flatJ L := rfl
      rw [e, show (a + 1) * 3 = a * 3 + 1 + 1 + 1 by omega, List.take_succ_cons, List.take_succ_cons, List.take_succ_cons, ih, List.take_succ_cons]
      rfl
theorem flatJ_drop (L : Row) : ∀ a, (flatJ L).drop (a * 3) = flatJ (L.drop a) := by
  induction L with
  | nil => intro a; simp [flatJ]
  | cons p L ih =>
    intro a
    cases a with
    | zero => simp
    | succ a =>
      have e : flatJ (p :: L) = .int .i64 p.1.2 :: .int .u64 p.1.1 :: .int .u64 p.2 :: flatJ L := rfl
      rw [e, show (a + 1) * 3 = a * 3 + 1 + 1 + 1 by omega, List.drop_succ_cons, List.drop_succ_cons, List.drop_succ_cons, ih, List.drop_succ_cons]
theorem flatJ_one : ∀ (L : Row), ∀ u ∈ flatJ L, u.oneCell' = true
  | [], u, h => by cases h
  | p :: L, u, h => by
    have e : flatJ (p :: L) = .int .i64 p.1.2 :: .int .u64 p.1.1 :: .int .u64 p.2 :: flatJ L := rfl
    rw [e] at h
    rcases List.mem_cons.1 h with rfl | h
    · rfl
    · rcases List.mem_cons.1 h with rfl | h
      · rfl
      · rcases List.mem_cons.1 h with rfl | h
        · rfl
        · exact flatJ_one L u h
theorem ins_at {k : RK} {v : Int} : ∀ {L : Row} (a : Nat), a ≤ L.length → (∀ j, (hj : j < L.length) → j < a → klt k (L[j]).1 = false) → (∀ hj : a < L.length, klt k (L[a]).1 = true) → ins k v L = L.take a ++ (k, v) :: L.drop a
  | [], a, ha, _, _ => by
    obtain rfl : a = 0 := by simpa using ha
    rfl
  | p :: L, 0, _, _, h2 => by
    have := h2 (by simp)
    simp only [List.getElem_cons_zero] at this
    simp only [ins]
    rw [if_pos this]
    rfl
  | p :: L, a + 1, ha, h1, h2 => by
    have h0 := h1 0 (by simp) (by omega)
    simp only [List.getElem_cons_zero] at h0
    simp only [ins]
    rw [if_neg (by rw [h0]; decide), ins_at a (by simpa using ha) (fun j hj hja => by have := h1 (j + 1) (by simpa using hj) (by omega); simpa using this) (fun hj => by have := h2 (by simpa using hj); simpa using this)]
    rfl
theorem rsplit_at {L : Row} {i : Nat} {p : RK × Int} (h : L[i]? = some p) : L = L.take i ++ p :: L.drop (i + 1) := by
  obtain ⟨hi, rfl⟩ := List.getElem?_eq_some_iff.1 h
  rw [← List.drop_eq_getElem_cons hi, List.take_append_drop]
theorem del_at {L : Row} (h : Rises L) {i : Nat} {k : RK} {x : Int} (e : L[i]? = some (k, x)) : del k L = L.take i ++ L.drop (i + 1) := by
  have hs := rsplit_at e
  have h2 := h
  rw [hs] at h2
  conv => lhs; rw [hs]
  exact del_here h2
theorem rises_lt {L : Row} (h : Rises L) {i j : Nat} (hi : i < L.length) (hj : j < L.length) (hij : i < j) : klt (L[i]).1 (L[j]).1 = true := List.pairwise_iff_getElem.1 h i j hi hj hij
theorem get_at {L : Row} (h : Rises L) {i : Nat} {k : RK} {x : Int} (e : L[i]? = some (k, x)) : get k L = some x := get_of_mem h (List.mem_of_getElem? e)
theorem k_lookup {L : Row} {i : Nat} (h : i < L.length) : ∃ k v, L[i]? = some (k, v) ∧ (k, v) ∈ L := ⟨(L[i]).1, (L[i]).2, List.getElem?_eq_getElem h, List.getElem_mem h⟩

/-! ### The row in memory -/
theorem ownJ_less {w : World} {B B' : Nat} {e : TypeId} {size n : Nat} {v : Value} {xs : List Value} (h : w.ownsRow B e size v n xs) (hb : B' ≤ B) : w.ownsRow B' e size v n xs := by
  refine ⟨h.1, ?_⟩
  rcases h.2 with h2 | ⟨g, cap, cur, h1, h2, h3⟩
  · exact Or.inl h2
  · exact Or.inr ⟨g, cap, cur, h1, by omega, h3⟩
/-- The row lies at r, its items from B on. -/
structure JRow (w : World) (r B : Nat) (v : Value) (L : Row) : Prop where
  head : Blk w r 95 #[v]
  own : w.ownsRow B 130 3 v L.length (flatJ L)
theorem JRow.form {w : World} {r B : Nat} {v : Value} {L : Row} (h : JRow w r B v L) : ∃ A c, v = .slice A L.length c ∧ L.length ≤ c ∧ c ≤ maxLen ∧
    (0 < L.length → ∃ g, A = some ⟨g, 0, none⟩ ∧ B ≤ g ∧ g < w.heap.size ∧ ∀ i p, L[i]? = some p → w.cell? ⟨g, i * 3, none⟩ = some (.int .i64 p.1.2) ∧ w.cell? ⟨g, i * 3 + 1, none⟩ = some (.int .u64 p.1.1) ∧ w.cell? ⟨g, i * 3 + 2, none⟩ = some (.int .u64 p.2)) := by
  have hadd : ∀ (g j : Nat), (⟨g, 0, none⟩ : Addr).add j = ⟨g, j, none⟩ := by
    intro g j
    unfold Addr.add
    split
    · rename_i h0
      rw [h0]
    · simp only [Nat.zero_add]
  rcases h.own.2 with ⟨rfl, hn⟩ | ⟨g, cap, cur, rfl, hb, hg, hle, hm, r⟩
  · exact ⟨none, 0, by rw [hn], by omega, by decide, fun hp => by omega⟩
  · refine ⟨_, cap, rfl, hle, hm, fun hp => ⟨g, rfl, hb, (Array.getElem?_eq_some_iff.1 hg).1, fun i p e => ?_⟩⟩
    obtain ⟨h1, h2, h3⟩ := flatJ_at e
    have c1 := h.own.cells (g := g) rfl _ _ h1
    have c2 := h.own.cells (g := g) rfl _ _ h2
    have c3 := h.own.cells (g := g) rfl _ _ h3
    rw [hadd] at c1 c2 c3
    exact ⟨c1, c2, c3⟩
theorem JRow.next {w w' : World} {r B : Nat} {v : Value} {L : Row} (h : JRow w r B v L) (hb : Below w.heap.size w w') : JRow w' r B v L := ⟨h.head.next hb, own_next h.own hb⟩
theorem JRow.fr {w w' : World} {r B : Nat} {v : Value} {L : Row} {S : Nat → Prop} (h : JRow w r B v L) (hf : Fr S w w') (hr : ¬ S r) (hv : ∀ k, v.ownBlock = some k → ¬ S k) : JRow w' r B v L := ⟨h.head.fr hf hr, ownsRow_fr h.own hf hv⟩
theorem JRow.cells {w : World} {r B n c : Nat} {A : Option Addr} {L : Row} (h : JRow w r B (.slice A n c) L) {i : Nat} {p : RK × Int} (e : L[i]? = some p) : ∃ g, A = some ⟨g, 0, none⟩ ∧ g < w.heap.size ∧ w.cell? ⟨g, i * 3, none⟩ = some (.int .i64 p.1.2) ∧ w.cell? ⟨g, i * 3 + 1, none⟩ = some (.int .u64 p.1.1) ∧ w.cell? ⟨g, i * 3 + 2, none⟩ = some (.int .u64 p.2) := by
  obtain ⟨A', c', he, -, -, hc⟩ := h.form
  cases he
  obtain ⟨g, h1, -, h2, h3⟩ := hc (by have := (List.getElem?_eq_some_iff.1 e).1; omega)
  exact ⟨g, h1, h2, h3 i p e⟩
theorem JRow.apart {w : World} {r B g : Nat} {v : Value} {L : Row} (h : JRow w r B v L) (hg : v.ownBlock = some g) : g ≠ r := by
  rintro rfl
  rcases h.own.2 with ⟨rfl, _⟩ | ⟨g', cap, cur, rfl, hb, hgg, _⟩
  · cases hg
  · cases hg
    have := h.head
    unfold Blk at this
    rw [hgg] at this
    simp only [Option.some.injEq, Obj.cells.injEq] at this
    exact absurd this.2.1 (by decide)
theorem jrow_info : ∃ i, RowInfo Try.prog 93 130 i (.agg #[.int .i64 0, .int .u64 0, .int .u64 0]) 3 24 := by
  obtain ⟨i0, hi, hz0, hz1, hz2⟩ := info_parts (show (Try.prog.info? 130).map (fun i => (i.zero, i.size, i.bytes)) = some (some (.agg #[.int .i64 0, .int .u64 0, .int .u64 0]), 3, 24) by kernel_rfl)
  exact ⟨i0, Try.underlying93, hi, hz0, hz1, hz2, by simp [Value.cells], by decide, by decide⟩

theorem JRow.stays {w w' : World} {r B B' : Nat} {v : Value} {L : Row} (h : JRow w r B v L) (hs : Go.Proofs.Ytjlnbpomncglcaa.Stays B' w w') : JRow w' r B v L := ⟨h.head.stays hs, ownsRow_stays h.own hs⟩
set_option maxHeartbeats 4000000 in
theorem j_at (r B : Nat) (v : Value) (L : Row) (id : Int) (w : World) (h : JRow w r B v L) (ho : Once L) (hf : L.length ≤ 65535) :
    Calls Try.prog 94 #[.pointer (some ⟨r, 0, none⟩), .int .i64 id] w fun e w' => w = w' ∧ ∃ q : Int, e = .returned (.int .i64 q) ∧ ((afind id L = none ∧ q = -1) ∨ ∃ (i : Nat) (p : RK × Int), q = (i : Int) ∧ L[i]? = some p ∧ p.1.2 = id ∧ afind id L = some p) := by
  obtain ⟨A, c, rfl, hlc, hcm, hcells⟩ := h.form
  have HH := Lib.hid h
  have HC := Lib.hid hcells
  obtain ⟨l, hl⟩ : ∃ l, L.length = l := ⟨_, rfl⟩
  have HLL := Lib.hid hl
  have c0 := h.head.get 0 rfl
  rw [hl] at c0 hf hlc HC
  clear h hcells hl hcm hlc
  have HO := Lib.hid ho
  clear ho
  go_enter Try.func94, Try.ntmps94
  go_wp2
  go_loopg [5] l (fun gk ix wr => ∃ i : Nat, i + gk = l ∧ ix = .int .i64 i ∧ wr = w ∧ ∀ j p, j < i → L[j]? = some p → p.1.2 ≠ id)
  case atStart => exact ⟨0, by omega, rfl, rfl, fun j p hj => absurd hj (by omega)⟩
  case round =>
    obtain ⟨i, hi, rfl, rfl, hn⟩ := hrel
    have HNO := Lib.hid hn
    clear hn
    by_cases hlt : i < l
    · obtain ⟨gm, rfl⟩ : ∃ gm, gk = gm + 1 := ⟨gk - 1, by omega⟩
      obtain ⟨y, x, q1, q2⟩ := k_lookup (L := L) (i := i) (by rw [HLL.out]; exact hlt)
      obtain ⟨g, rfl, hg1, hg2, hg3⟩ := HC.out (by omega)
      have c1 := (hg3 i _ q1).1
      dsimp only at c1
      have HQ := Lib.hid q1
      have p0 : (0 : Int) ≤ (i : Int) := by omega
      have p1 : (i : Int) < (l : Int) := by omega
      have HI := Lib.hid (And.intro hi hlt)
      have e5 : wrap64 ((i : Int) + 1) = ((i + 1 : Nat) : Int) := by unfold wrap64; omega
      clear hg3 q1 q2 hg1 hg2 hi hlt
      by_cases hy : y.2 = id
      · have d1 : (y.2 == id) = true := beq_iff_eq.2 hy
        have HY := Lib.hid hy
        clear hy
        go_wp2
        go_ret
        exact ⟨rfl, _, rfl, Or.inr ⟨i, (y, x), rfl, HQ.out, HY.out, (afind_iff HO.out).2 ⟨List.mem_of_getElem? HQ.out, HY.out⟩⟩⟩
      · have d1 : (y.2 == id) = false := beq_eq_false_iff_ne.2 hy
        have HY := Lib.hid hy
        clear hy
        go_wp2
        go_roundg gm
        case rel => exact ⟨i + 1, by have := HI.out; omega, by go_num, rfl, fun j p hj e => by
          by_cases hji : j = i
          · subst hji
            rw [HQ.out] at e
            cases e
            exact HY.out
          · exact HNO.out j p (by omega) e⟩
        case measure => omega
    · obtain rfl : gk = 0 := by omega
      obtain rfl : i = l := by omega
      go_wp2
      go_ret
      refine ⟨rfl, _, rfl, Or.inl ⟨afind_none.2 fun p hp => ?_, rfl⟩⟩
      obtain ⟨j, hj, rfl⟩ := List.getElem_of_mem hp
      exact HNO.out j _ (by rw [← HLL.out]; exact hj) (List.getElem?_eq_getElem hj)
set_option maxHeartbeats 4000000 in
theorem j_get (r B : Nat) (v : Value) (L : Row) (id : Int) (w : World) (h : JRow w r B v L) (ho : Once L) (hf : L.length ≤ 65535) :
    Calls Try.prog 88 #[.pointer (some ⟨r, 0, none⟩), .int .i64 id] w fun e w' => e = .returned (.tuple #[.int .u64 (agK id L), .int .u64 (agV id L), .bool (agIs id L)]) ∧ Below w.heap.size w w' := by
  have H := Lib.hid h
  have HL := Lib.hid (And.intro ho hf)
  clear h ho hf
  obtain ⟨zk, hzk⟩ : ∃ z, agK id L = z := ⟨_, rfl⟩
  obtain ⟨zv, hzv⟩ : ∃ z, agV id L = z := ⟨_, rfl⟩
  obtain ⟨zb, hzb⟩ : ∃ z, agIs id L = z := ⟨_, rfl⟩
  rw [hzk, hzv, hzb]
  have HZ := Lib.hid (And.intro hzk (And.intro hzv hzb))
  clear hzk hzv hzb
  go_enter Try.func88, Try.ntmps88
  go_wp2_with fail
  with_reducible refine (j_at r B v L id w H.out HL.out.1 HL.out.2).mono ?_
  rintro e wx ⟨rfl, q, rfl, hk⟩
  rcases hk with ⟨hn, rfl⟩ | ⟨i, p, rfl, hq, hid, hx⟩
  · obtain rfl : zk = 0 := by rw [← HZ.out.1]; unfold agK; rw [hn]
    obtain rfl : zv = 0 := by rw [← HZ.out.2.1]; unfold agV; rw [hn]
    obtain rfl : zb = false := by rw [← HZ.out.2.2]; unfold agIs; rw [hn]; rfl
    clear hn
    go_wp2
    go_returns
    exact ⟨rfl, Below.refl _ _⟩
  · obtain rfl : zk = p.1.1 := by rw [← HZ.out.1]; unfold agK; rw [hx]
    obtain rfl : zv = p.2 := by rw [← HZ.out.2.1]; unfold agV; rw [hx]
    obtain rfl : zb = true := by rw [← HZ.out.2.2]; unfold agIs; rw [hx]; rfl
    obtain ⟨A, c, rfl, -, -, -⟩ := H.out.form
    have hi := (List.getElem?_eq_some_iff.1 hq).1
    obtain ⟨l, hl⟩ : ∃ l, L.length = l := ⟨_, rfl⟩
    have c0 := H.out.head.get 0 rfl
    rw [hl] at c0 hi
    obtain ⟨g, rfl, -, x0, x1, x2⟩ := H.out.cells hq
    have p0 : (0 : Int) ≤ (i : Int) := by omega
    have p1 : (i : Int) < (l : Int) := by omega
    have d1 : decide ((i : Int) < 0) = false := decide_eq_false (by omega)
    obtain ⟨⟨pk, pi⟩, pv⟩ := p
    dsimp only at x1 x2 HZ ⊢
    clear hq hid hx hl x0 hi HZ
    go_upto_region 4 with (fail)
    go_quiet (fail)
    go_wp2
    go_returns
    exact ⟨rfl, below_drewN' (Below.refl _ _) _⟩
set_option maxHeartbeats 4000000 in
theorem j_drop (r B : Nat) (v : Value) (L : Row) (id : Int) (w : World) (h : JRow w r B v L) (hB : B ≤ w.heap.size) (ho : Once L) (hf : L.length ≤ 65535) :
    Calls Try.prog 58 #[.pointer (some ⟨r, 0, none⟩), .int .i64 id] w fun e w' => ∃ v', e = .returned (.bool (agIs id L)) ∧ JRow w' r B v' (dropId id L) ∧ Fr (fun j => j = r) w w' ∧ ∀ j, v'.ownBlock = some j → v.ownBlock = some j ∨ w.heap.size ≤ j := by
  have HL := Lib.hid (And.intro ho hf)
  have HBB := Lib.hid hB
  have H := Lib.hid h
  clear h ho hf hB
  unfold agIs
  go_enter Try.func58, Try.ntmps58
  go_wp2_with fail
  with_reducible refine (j_at r B v L id w H.out HL.out.1 HL.out.2).mono ?_
  rintro e w1 ⟨rfl, q, rfl, hk⟩
  rcases hk with ⟨hn, rfl⟩ | ⟨i, p, rfl, hq, hid, hx⟩
  · have HN := Lib.hid hn
    clear hn
    go_wp2
    go_ret
    refine ⟨v, by rw [HN.out]; simp, ?_, Fr.refl _ _, fun k hk => Or.inl hk⟩
    rw [dropId_none HN.out]
    exact H.out
  · obtain ⟨A, c, rfl, hlc, -⟩ := H.out.form
    have hi := (List.getElem?_eq_some_iff.1 hq).1
    have HX := Lib.hid (And.intro hq (And.intro hx hi))
    obtain ⟨n, hn⟩ : ∃ n, L.length = n := ⟨_, rfl⟩
    have HN := Lib.hid hn
    have hfew := HL.out.2
    have H1 := H
    rw [hn] at hi hfew hlc H1
    obtain ⟨i0, hi0⟩ := jrow_info
    have hown : w.drew.ownsRow B 130 3 (.slice A n c) n (flatJ L) := by
      have := own_next H1.out.own (below_of_drew (Below.refl w.heap.size w))
      rw [hn] at this
      exact this
    obtain ⟨v1, wA, v2, wB, r1, bA, r2, bB, oB⟩ := hi0.less 93 hown (show i < n from hi) (flatJ_one L) (by omega)
    obtain ⟨A2, c2, rfl⟩ := own_slice oB
    have HR1 := Lib.hid r1
    have HR2 := Lib.hid r2
    have HO := Lib.hid (And.intro bA (And.intro bB oB))
    clear r1 r2 bA bB oB hown hi0
    have HSZ := Lib.hid (show w.drew.heap.size = w.heap.size from rfl)
    have p0 : (0 : Int) ≤ (i : Int) := by omega
    have p1 : (i : Int) < (n : Int) := by omega
    have p2 : (i : Int) ≤ (n : Int) := by omega
    have p3 : (i : Int) + 1 ≤ (n : Int) := by omega
    have p4 : (n : Int) ≤ (c : Int) := by omega
    have p5 : (i : Int) ≤ (c : Int) := by omega
    have d1 : decide ((i : Int) < 0) = false := decide_eq_false (by omega)
    have e5 : IntKind.i64.wrap ((i : Int) + 1) = ((i + 1 : Nat) : Int) := by rw [IntKind.wrap_i64]; omega
    have p6 : (0 : Int) ≤ (i : Int) + 1 := by omega
    have p7 : ((i + 1 : Nat) : Int) ≤ (n : Int) := by omega
    have KR : Hid (∀ w', Below (w.heap.size) w w' → (w'.cell? ⟨r, 0, none⟩ = some (.slice A n c)) ∧ Below (w.heap.size) w w') := fun w' hb => ⟨((H1.out.head.next hb).get 0 rfl), hb⟩
    clear hq hx hn hid
    obtain ⟨A', hA'⟩ : ∃ z, (if c = i + 1 then A else A.map (·.add ((i + 1) * 3))) = z := ⟨_, rfl⟩
    rw [hA'] at HR2
    have HA' := Lib.hid hA'
    have hbB : Below w.heap.size w wB := (below_of_drew (Below.refl w.heap.size w)).trans HO.out.2.1
    have HBB2 := Lib.hid hbB
    have bRB := H1.out.head.next hbB
    have cB := bRB.get 0 rfl
    have fB := bRB.frozen 0
    have HRB := Lib.hid bRB
    clear hbB bRB
    go_upto_region 4 with (fail)
    refine wp_region_noPanic ?_
    refine wp_region_Z [19] (fun w' => (w'.cell? ⟨r, 0, none⟩ = some (.slice A n c)) ∧ Below (w.heap.size) w w') (by kernel_rfl) (KR.out _ (below_of_drew (Below.refl w.heap.size w))) (fun hH => ?_)
    have hbR := below_of_drew (Below.refl w.heap.size w)
    first | (refine wpAnyZ_take (i := 0) (v := undef) rfl ?_ ?_ ?_ ?_ (fun _ _ _ h => h) ?_ ?_ ?_; kernel_rfl; kernel_rfl; kernel_rfl; kernel_rfl; exact Or.inr ⟨by rfl, rfl⟩; exact hH) | (refine wpAnyZ_take (i := 0) (v := ?_) rfl ?_ ?_ ?_ ?_ (fun _ _ _ h => h) ?_ ?_ ?_; rotate_left; kernel_rfl; kernel_rfl; kernel_rfl; kernel_rfl; (focus (refine Or.inl ⟨by rfl, ?_⟩; intro w' hSw; (try dsimp only at hSw); go_simp)); exact hH) | (refine wpAnyZ_take (i := 0) (v := ?_) rfl ?_ ?_ ?_ ?_ (fun _ _ _ h => h) ?_ ?_ ?_; rotate_left; kernel_rfl; kernel_rfl; kernel_rfl; kernel_rfl; (focus (refine Or.inl ⟨by rfl, ?_⟩; intro w' hSw; (try dsimp only at hSw); go_simp; with_reducible rfl)); exact hH)
    try simp only [Act.put, List.getElem_toArray, List.getElem_cons_succ, List.getElem_cons_zero, List.setIfInBounds_toArray, List.set_cons_zero, List.set_cons_succ]
    first | (refine wpAnyZ_take (i := 2) (v := undef) rfl ?_ ?_ ?_ ?_ (fun _ _ _ h => h) ?_ ?_ ?_; kernel_rfl; kernel_rfl; kernel_rfl; kernel_rfl; exact Or.inr ⟨by rfl, rfl⟩; exact hH) | (refine wpAnyZ_take (i := 2) (v := ?_) rfl ?_ ?_ ?_ ?_ (fun _ _ _ h => h) ?_ ?_ ?_; rotate_left; kernel_rfl; kernel_rfl; kernel_rfl; kernel_rfl; (focus (refine Or.inl ⟨by rfl, ?_⟩; intro w' hSw; (try dsimp only at hSw); go_simp)); exact hH) | (refine wpAnyZ_take (i := 2) (v := ?_) rfl ?_ ?_ ?_ ?_ (fun _ _ _ h => h) ?_ ?_ ?_; rotate_left; kernel_rfl; kernel_rfl; kernel_rfl; kernel_rfl; (focus (refine Or.inl ⟨by rfl, ?_⟩; intro w' hSw; (try dsimp only at hSw); go_simp; with_reducible rfl)); exact hH)
    try simp only [Act.put, List.getElem_toArray, List.getElem_cons_succ, List.getElem_cons_zero, List.setIfInBounds_toArray, List.set_cons_zero, List.set_cons_succ]
    first | (refine wpAnyZ_take (i := 3) (v := undef) rfl ?_ ?_ ?_ ?_ (fun _ _ _ h => h) ?_ ?_ ?_; kernel_rfl; kernel_rfl; kernel_rfl; kernel_rfl; exact Or.inr ⟨by rfl, rfl⟩; exact hH) | (refine wpAnyZ_take (i := 3) (v := ?_) rfl ?_ ?_ ?_ ?_ (fun _ _ _ h => h) ?_ ?_ ?_; rotate_left; kernel_rfl; kernel_rfl; kernel_rfl; kernel_rfl; (focus (refine Or.inl ⟨by rfl, ?_⟩; intro w' hSw; (try dsimp only at hSw); go_simp)); exact hH) | (refine wpAnyZ_take (i := 3) (v := ?_) rfl ?_ ?_ ?_ ?_ (fun _ _ _ h => h) ?_ ?_ ?_; rotate_left; kernel_rfl; kernel_rfl; kernel_rfl; kernel_rfl; (focus (refine Or.inl ⟨by rfl, ?_⟩; intro w' hSw; (try dsimp only at hSw); go_simp; with_reducible rfl)); exact hH)
    try simp only [Act.put, List.getElem_toArray, List.getElem_cons_succ, List.getElem_cons_zero, List.setIfInBounds_toArray, List.set_cons_zero, List.set_cons_succ]
    first | (refine wpAnyZ_take (i := 4) (v := undef) rfl ?_ ?_ ?_ ?_ (fun _ _ _ h => h) ?_ ?_ ?_; kernel_rfl; kernel_rfl; kernel_rfl; kernel_rfl; exact Or.inr ⟨by rfl, rfl⟩; exact hH) | (refine wpAnyZ_take (i := 4) (v := ?_) rfl ?_ ?_ ?_ ?_ (fun _ _ _ h => h) ?_ ?_ ?_; rotate_left; kernel_rfl; kernel_rfl; kernel_rfl; kernel_rfl; (focus (refine Or.inl ⟨by rfl, ?_⟩; intro w' hSw; (try dsimp only at hSw); go_simp)); exact hH) | (refine wpAnyZ_take (i := 4) (v := ?_) rfl ?_ ?_ ?_ ?_ (fun _ _ _ h => h) ?_ ?_ ?_; rotate_left; kernel_rfl; kernel_rfl; kernel_rfl; kernel_rfl; (focus (refine Or.inl ⟨by rfl, ?_⟩; intro w' hSw; (try dsimp only at hSw); go_simp; with_reducible rfl)); exact hH)
    try simp only [Act.put, List.getElem_toArray, List.getElem_cons_succ, List.getElem_cons_zero, List.setIfInBounds_toArray, List.set_cons_zero, List.set_cons_succ]
    first | (refine wpAnyZ_take (i := 5) (v := undef) rfl ?_ ?_ ?_ ?_ (fun _ _ _ h => h) ?_ ?_ ?_; kernel_rfl; kernel_rfl; kernel_rfl; kernel_rfl; exact Or.inr ⟨by rfl, rfl⟩; exact hH) | (refine wpAnyZ_take (i := 5) (v := ?_) rfl ?_ ?_ ?_ ?_ (fun _ _ _ h => h) ?_ ?_ ?_; rotate_left; kernel_rfl; kernel_rfl; kernel_rfl; kernel_rfl; (focus (refine Or.inl ⟨by rfl, ?_⟩; intro w' hSw; (try dsimp only at hSw); go_simp)); exact hH) | (refine wpAnyZ_take (i := 5) (v := ?_) rfl ?_ ?_ ?_ ?_ (fun _ _ _ h => h) ?_ ?_ ?_; rotate_left; kernel_rfl; kernel_rfl; kernel_rfl; kernel_rfl; (focus (refine Or.inl ⟨by rfl, ?_⟩; intro w' hSw; (try dsimp only at hSw); go_simp; with_reducible rfl)); exact hH)
    try simp only [Act.put, List.getElem_toArray, List.getElem_cons_succ, List.getElem_cons_zero, List.setIfInBounds_toArray, List.set_cons_zero, List.set_cons_succ]
    first | (refine wpAnyZ_take (i := 6) (v := undef) rfl ?_ ?_ ?_ ?_ (fun _ _ _ h => h) ?_ ?_ ?_; kernel_rfl; kernel_rfl; kernel_rfl; kernel_rfl; exact Or.inr ⟨by rfl, rfl⟩; exact hH) | (refine wpAnyZ_take (i := 6) (v := ?_) rfl ?_ ?_ ?_ ?_ (fun _ _ _ h => h) ?_ ?_ ?_; rotate_left; kernel_rfl; kernel_rfl; kernel_rfl; kernel_rfl; (focus (refine Or.inl ⟨by rfl, ?_⟩; intro w' hSw; (try dsimp only at hSw); go_simp)); exact hH) | (refine wpAnyZ_take (i := 6) (v := ?_) rfl ?_ ?_ ?_ ?_ (fun _ _ _ h => h) ?_ ?_ ?_; rotate_left; kernel_rfl; kernel_rfl; kernel_rfl; kernel_rfl; (focus (refine Or.inl ⟨by rfl, ?_⟩; intro w' hSw; (try dsimp only at hSw); go_simp; with_reducible rfl)); exact hH)
    try simp only [Act.put, List.getElem_toArray, List.getElem_cons_succ, List.getElem_cons_zero, List.setIfInBounds_toArray, List.set_cons_zero, List.set_cons_succ]
    first | (refine wpAnyZ_take (i := 7) (v := undef) rfl ?_ ?_ ?_ ?_ (fun _ _ _ h => h) ?_ ?_ ?_; kernel_rfl; kernel_rfl; kernel_rfl; kernel_rfl; exact Or.inr ⟨by rfl, rfl⟩; exact hH) | (refine wpAnyZ_take (i := 7) (v := ?_) rfl ?_ ?_ ?_ ?_ (fun _ _ _ h => h) ?_ ?_ ?_; rotate_left; kernel_rfl; kernel_rfl; kernel_rfl; kernel_rfl; (focus (refine Or.inl ⟨by rfl, ?_⟩; intro w' hSw; (try dsimp only at hSw); go_simp)); exact hH) | (refine wpAnyZ_take (i := 7) (v := ?_) rfl ?_ ?_ ?_ ?_ (fun _ _ _ h => h) ?_ ?_ ?_; rotate_left; kernel_rfl; kernel_rfl; kernel_rfl; kernel_rfl; (focus (refine Or.inl ⟨by rfl, ?_⟩; intro w' hSw; (try dsimp only at hSw); go_simp; with_reducible rfl)); exact hH)
    try simp only [Act.put, List.getElem_toArray, List.getElem_cons_succ, List.getElem_cons_zero, List.setIfInBounds_toArray, List.set_cons_zero, List.set_cons_succ]
    first | (refine wpAnyZ_take (i := 9) (v := undef) rfl ?_ ?_ ?_ ?_ (fun _ _ _ h => h) ?_ ?_ ?_; kernel_rfl; kernel_rfl; kernel_rfl; kernel_rfl; exact Or.inr ⟨by rfl, rfl⟩; exact hH) | (refine wpAnyZ_take (i := 9) (v := ?_) rfl ?_ ?_ ?_ ?_ (fun _ _ _ h => h) ?_ ?_ ?_; rotate_left; kernel_rfl; kernel_rfl; kernel_rfl; kernel_rfl; (focus (refine Or.inl ⟨by rfl, ?_⟩; intro w' hSw; (try dsimp only at hSw); go_simp)); exact hH) | (refine wpAnyZ_take (i := 9) (v := ?_) rfl ?_ ?_ ?_ ?_ (fun _ _ _ h => h) ?_ ?_ ?_; rotate_left; kernel_rfl; kernel_rfl; kernel_rfl; kernel_rfl; (focus (refine Or.inl ⟨by rfl, ?_⟩; intro w' hSw; (try dsimp only at hSw); go_simp; with_reducible rfl)); exact hH)
    try simp only [Act.put, List.getElem_toArray, List.getElem_cons_succ, List.getElem_cons_zero, List.setIfInBounds_toArray, List.set_cons_zero, List.set_cons_succ]
    first | (refine wpAnyZ_take (i := 10) (v := undef) rfl ?_ ?_ ?_ ?_ (fun _ _ _ h => h) ?_ ?_ ?_; kernel_rfl; kernel_rfl; kernel_rfl; kernel_rfl; exact Or.inr ⟨by rfl, rfl⟩; exact hH) | (refine wpAnyZ_take (i := 10) (v := ?_) rfl ?_ ?_ ?_ ?_ (fun _ _ _ h => h) ?_ ?_ ?_; rotate_left; kernel_rfl; kernel_rfl; kernel_rfl; kernel_rfl; (focus (refine Or.inl ⟨by rfl, ?_⟩; intro w' hSw; (try dsimp only at hSw); go_simp)); exact hH) | (refine wpAnyZ_take (i := 10) (v := ?_) rfl ?_ ?_ ?_ ?_ (fun _ _ _ h => h) ?_ ?_ ?_; rotate_left; kernel_rfl; kernel_rfl; kernel_rfl; kernel_rfl; (focus (refine Or.inl ⟨by rfl, ?_⟩; intro w' hSw; (try dsimp only at hSw); go_simp; with_reducible rfl)); exact hH)
    try simp only [Act.put, List.getElem_toArray, List.getElem_cons_succ, List.getElem_cons_zero, List.setIfInBounds_toArray, List.set_cons_zero, List.set_cons_succ]
    first | (refine wpAnyZ_take (i := 11) (v := undef) rfl ?_ ?_ ?_ ?_ (fun _ _ _ h => h) ?_ ?_ ?_; kernel_rfl; kernel_rfl; kernel_rfl; kernel_rfl; exact Or.inr ⟨by rfl, rfl⟩; exact hH) | (refine wpAnyZ_take (i := 11) (v := ?_) rfl ?_ ?_ ?_ ?_ (fun _ _ _ h => h) ?_ ?_ ?_; rotate_left; kernel_rfl; kernel_rfl; kernel_rfl; kernel_rfl; (focus (refine Or.inl ⟨by rfl, ?_⟩; intro w' hSw; (try dsimp only at hSw); go_simp)); exact hH) | (refine wpAnyZ_take (i := 11) (v := ?_) rfl ?_ ?_ ?_ ?_ (fun _ _ _ h => h) ?_ ?_ ?_; rotate_left; kernel_rfl; kernel_rfl; kernel_rfl; kernel_rfl; (focus (refine Or.inl ⟨by rfl, ?_⟩; intro w' hSw; (try dsimp only at hSw); go_simp; with_reducible rfl)); exact hH)
    try simp only [Act.put, List.getElem_toArray, List.getElem_cons_succ, List.getElem_cons_zero, List.setIfInBounds_toArray, List.set_cons_zero, List.set_cons_succ]
    first | (refine wpAnyZ_take (i := 12) (v := undef) rfl ?_ ?_ ?_ ?_ (fun _ _ _ h => h) ?_ ?_ ?_; kernel_rfl; kernel_rfl; kernel_rfl; kernel_rfl; exact Or.inr ⟨by rfl, rfl⟩; exact hH) | (refine wpAnyZ_take (i := 12) (v := ?_) rfl ?_ ?_ ?_ ?_ (fun _ _ _ h => h) ?_ ?_ ?_; rotate_left; kernel_rfl; kernel_rfl; kernel_rfl; kernel_rfl; (focus (refine Or.inl ⟨by rfl, ?_⟩; intro w' hSw; (try dsimp only at hSw); go_simp)); exact hH) | (refine wpAnyZ_take (i := 12) (v := ?_) rfl ?_ ?_ ?_ ?_ (fun _ _ _ h => h) ?_ ?_ ?_; rotate_left; kernel_rfl; kernel_rfl; kernel_rfl; kernel_rfl; (focus (refine Or.inl ⟨by rfl, ?_⟩; intro w' hSw; (try dsimp only at hSw); go_simp; with_reducible rfl)); exact hH)
    try simp only [Act.put, List.getElem_toArray, List.getElem_cons_succ, List.getElem_cons_zero, List.setIfInBounds_toArray, List.set_cons_zero, List.set_cons_succ]
    first | (refine wpAnyZ_take (i := 13) (v := undef) rfl ?_ ?_ ?_ ?_ (fun _ _ _ h => h) ?_ ?_ ?_; kernel_rfl; kernel_rfl; kernel_rfl; kernel_rfl; exact Or.inr ⟨by rfl, rfl⟩; exact hH) | (refine wpAnyZ_take (i := 13) (v := ?_) rfl ?_ ?_ ?_ ?_ (fun _ _ _ h => h) ?_ ?_ ?_; rotate_left; kernel_rfl; kernel_rfl; kernel_rfl; kernel_rfl; (focus (refine Or.inl ⟨by rfl, ?_⟩; intro w' hSw; (try dsimp only at hSw); go_simp)); exact hH) | (refine wpAnyZ_take (i := 13) (v := ?_) rfl ?_ ?_ ?_ ?_ (fun _ _ _ h => h) ?_ ?_ ?_; rotate_left; kernel_rfl; kernel_rfl; kernel_rfl; kernel_rfl; (focus (refine Or.inl ⟨by rfl, ?_⟩; intro w' hSw; (try dsimp only at hSw); go_simp; with_reducible rfl)); exact hH)
    try simp only [Act.put, List.getElem_toArray, List.getElem_cons_succ, List.getElem_cons_zero, List.setIfInBounds_toArray, List.set_cons_zero, List.set_cons_succ]
    first | (refine wpAnyZ_take (i := 14) (v := undef) rfl ?_ ?_ ?_ ?_ (fun _ _ _ h => h) ?_ ?_ ?_; kernel_rfl; kernel_rfl; kernel_rfl; kernel_rfl; exact Or.inr ⟨by rfl, rfl⟩; exact hH) | (refine wpAnyZ_take (i := 14) (v := ?_) rfl ?_ ?_ ?_ ?_ (fun _ _ _ h => h) ?_ ?_ ?_; rotate_left; kernel_rfl; kernel_rfl; kernel_rfl; kernel_rfl; (focus (refine Or.inl ⟨by rfl, ?_⟩; intro w' hSw; (try dsimp only at hSw); go_simp)); exact hH) | (refine wpAnyZ_take (i := 14) (v := ?_) rfl ?_ ?_ ?_ ?_ (fun _ _ _ h => h) ?_ ?_ ?_; rotate_left; kernel_rfl; kernel_rfl; kernel_rfl; kernel_rfl; (focus (refine Or.inl ⟨by rfl, ?_⟩; intro w' hSw; (try dsimp only at hSw); go_simp; with_reducible rfl)); exact hH)
    try simp only [Act.put, List.getElem_toArray, List.getElem_cons_succ, List.getElem_cons_zero, List.setIfInBounds_toArray, List.set_cons_zero, List.set_cons_succ]
    first | (refine wpAnyZ_take (i := 15) (v := undef) rfl ?_ ?_ ?_ ?_ (fun _ _ _ h => h) ?_ ?_ ?_; kernel_rfl; kernel_rfl; kernel_rfl; kernel_rfl; exact Or.inr ⟨by rfl, rfl⟩; exact hH) | (refine wpAnyZ_take (i := 15) (v := ?_) rfl ?_ ?_ ?_ ?_ (fun _ _ _ h => h) ?_ ?_ ?_; rotate_left; kernel_rfl; kernel_rfl; kernel_rfl; kernel_rfl; (focus (refine Or.inl ⟨by rfl, ?_⟩; intro w' hSw; (try dsimp only at hSw); go_simp)); exact hH) | (refine wpAnyZ_take (i := 15) (v := ?_) rfl ?_ ?_ ?_ ?_ (fun _ _ _ h => h) ?_ ?_ ?_; rotate_left; kernel_rfl; kernel_rfl; kernel_rfl; kernel_rfl; (focus (refine Or.inl ⟨by rfl, ?_⟩; intro w' hSw; (try dsimp only at hSw); go_simp; with_reducible rfl)); exact hH)
    try simp only [Act.put, List.getElem_toArray, List.getElem_cons_succ, List.getElem_cons_zero, List.setIfInBounds_toArray, List.set_cons_zero, List.set_cons_succ]
    refine wpAnyZ_ready (rs := [1]) (by kernel_rfl) (by simp) ?_
    refine (AllReadyZ.cons rfl (fun K hK => ?_) AllReadyZ.nil)
    go_simp
    have E0b1 : Blk (w.drew.alloc (.cells #[] 130)) (w.heap.size) 130 #[] := Blk.new_at (by simp)
    have QGE0 : w.heap.size ≤ w.heap.size := Nat.le_trans (Below.size (hbR)) (Nat.le_of_eq (by simp))
    have hb1 := Below.alloc (hbR) (Below.size (hbR)) (.cells #[] 130)
    have hH1 := KR.out _ hb1
    refine hK.out _ _ (fun _ => hH1) ?_
    clear hK K hH
    have hH := hH1
    clear hH1
    try simp only [Act.put, List.getElem_toArray, List.getElem_cons_succ, List.getElem_cons_zero, List.setIfInBounds_toArray, List.set_cons_zero, List.set_cons_succ]
    refine wpAnyZ_ready (rs := [8]) (by kernel_rfl) (by simp) ?_
    refine (AllReadyZ.cons rfl (fun K hK => ?_) AllReadyZ.nil)
    refine want_yes (by rfl) ?_
    refine wp_append_known _ _ 93 rfl _ _ _ (by rfl) (by rfl) HR1.out ?_
    have hH2 := KR.out _ ((below_of_drew (Below.refl w.heap.size w)).trans HO.out.1)
    refine hK.out _ _ (fun _ => hH2) ?_
    clear hK K hH
    have hH := hH2
    clear hH2
    try simp only [Act.put, List.getElem_toArray, List.getElem_cons_succ, List.getElem_cons_zero, List.setIfInBounds_toArray, List.set_cons_zero, List.set_cons_succ]
    refine wpAnyZ_ready (rs := [16]) (by kernel_rfl) (by simp) ?_
    refine (AllReadyZ.cons rfl (fun K hK => ?_) AllReadyZ.nil)
    refine want_yes (by rfl) ?_
    refine wp_append_known _ _ 93 rfl _ _ _ (by rfl) (by rfl) HR2.out ?_
    have hH3 := KR.out _ HBB2.out
    refine hK.out _ _ (fun _ => hH3) ?_
    clear hK K hH
    have hH := hH3
    clear hH3
    try simp only [Act.put, List.getElem_toArray, List.getElem_cons_succ, List.getElem_cons_zero, List.setIfInBounds_toArray, List.set_cons_zero, List.set_cons_succ]
    refine wpAnyZ_ready (rs := [17]) (by kernel_rfl) (by simp) ?_
    refine (AllReadyZ.cons rfl (fun K hK => ?_) AllReadyZ.nil)
    go_simp
    refine hK.out _ _ (fun _ => hH) ?_
    clear hK K
    try simp only [Act.put, List.getElem_toArray, List.getElem_cons_succ, List.getElem_cons_zero, List.setIfInBounds_toArray, List.set_cons_zero, List.set_cons_succ]
    first | (refine wpAnyZ_take (i := 18) (v := undef) rfl ?_ ?_ ?_ ?_ (fun _ _ _ h => h) ?_ ?_ ?_; kernel_rfl; kernel_rfl; kernel_rfl; kernel_rfl; exact Or.inr ⟨by rfl, rfl⟩; exact hH) | (refine wpAnyZ_take (i := 18) (v := ?_) rfl ?_ ?_ ?_ ?_ (fun _ _ _ h => h) ?_ ?_ ?_; rotate_left; kernel_rfl; kernel_rfl; kernel_rfl; kernel_rfl; (focus (refine Or.inl ⟨by rfl, ?_⟩; intro w' hSw; (try dsimp only at hSw); go_simp)); exact hH) | (refine wpAnyZ_take (i := 18) (v := ?_) rfl ?_ ?_ ?_ ?_ (fun _ _ _ h => h) ?_ ?_ ?_; rotate_left; kernel_rfl; kernel_rfl; kernel_rfl; kernel_rfl; (focus (refine Or.inl ⟨by rfl, ?_⟩; intro w' hSw; (try dsimp only at hSw); go_simp; with_reducible rfl)); exact hH)
    try simp only [Act.put, List.getElem_toArray, List.getElem_cons_succ, List.getElem_cons_zero, List.setIfInBounds_toArray, List.set_cons_zero, List.set_cons_succ]
    refine wpAnyZ_ready (rs := [19]) (by kernel_rfl) (by simp) ?_
    refine (AllReadyZ.cons rfl (fun K hK => ?_) AllReadyZ.nil)
    go_simp
    refine hK.out _ _ (fun h => absurd (by simp) h) ?_
    clear hK K
    try simp only [Act.put, List.getElem_toArray, List.getElem_cons_succ, List.getElem_cons_zero, List.setIfInBounds_toArray, List.set_cons_zero, List.set_cons_succ]
    refine wpAnyZ_done (by kernel_rfl) ?_ _
    refine NoPanic.normal ?_
    clear hH
    go_wp2
    go_ret
    have hr : r < w.heap.size := H1.out.head.lt
    have hde : dropId id L = L.take i ++ L.drop (i + 1) := by
      obtain ⟨k, x⟩ := p
      rw [dropId_del HL.out.1 HX.out.2.1]
      have hs := rsplit_at HX.out.1
      have h2 : ∀ q ∈ L.take i ++ L.drop (i + 1), q.1 ≠ k := by
        intro q hq e
        have hm : (L.map (·.1.2)).Nodup := HL.out.1
        rw [hs] at hm
        simp only [List.map_append, List.map_cons] at hm
        have h3 := List.nodup_append.1 hm
        rcases List.mem_append.1 hq with hq | hq
        · exact h3.2.2 q.1.2 (List.mem_map_of_mem hq) k.2 (List.mem_cons_self ..) (by rw [e])
        · exact (List.nodup_cons.1 h3.2.1).1 (List.mem_map.2 ⟨q, hq, by rw [e]⟩)
      conv => lhs; rw [hs]
      unfold del
      rw [List.filter_append, List.filter_cons_of_neg (by simp)]
      congr 1
      · exact List.filter_eq_self.2 fun q hq => by simp [h2 q (List.mem_append.2 (Or.inl hq))]
      · exact List.filter_eq_self.2 fun q hq => by simp [h2 q (List.mem_append.2 (Or.inr hq))]
    have hlen : (dropId id L).length = n - 1 := by
      rw [hde, List.length_append, List.length_take, List.length_drop, HN.out]
      have := HX.out.2.2
      omega
    have hfl : flatJ (dropId id L) = (flatJ L).take (i * 3) ++ (flatJ L).drop ((i + 1) * 3) := by rw [hde, flatJ_append, flatJ_take, flatJ_drop]
    refine ⟨.slice A2 (n - 1) c2, by rw [HX.out.2.1]; simp, ⟨HRB.out.put 0 _, ?_⟩, ?_, fun k hk => Or.inr (HO.out.2.2.lt k hk).1⟩
    · rw [hlen, hfl]
      refine ownsRow_setCell_other (ownJ_less HO.out.2.2 HBB.out) (fun e => ?_) _
      have := (HO.out.2.2.lt r e).1
      have h4 : w.drew.heap.size = w.heap.size := rfl
      omega
    · exact (Fr.of_new (S := fun k => k = r) HBB2.out).setCell (p := ⟨r, 0, none⟩) (fun _ => rfl) _

end Go.Proofs.Ytjlnbpomncglcaa
