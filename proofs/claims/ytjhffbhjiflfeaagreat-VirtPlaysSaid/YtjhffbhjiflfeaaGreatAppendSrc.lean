/-
  append onto a row of the call's own: of any slice, nil too. Nothing of the program stands here.
-/
import Derived.Deep.AppendSrc
import Derived.Maps.AppendAt
import Derived.Test.YtjhffbhjiflfeaaGreatLib2
import Derived.Test.YtjhffbhjiflfeaaGreatRegionZ
namespace Go.Proofs.YtjhffbhjiflfeaaGreat
set_option linter.unusedVariables false
set_option linter.unusedSimpArgs false
open Go.RowKit

theorem world_setCells_nil (w : World) (b o : Nat) : w.setCells b o [] = w := by
  first | rfl | simp [World.setCells]

/-- What is appended: the cells of a slice, or none of a nil one. -/
def NewsAt (w : World) (u : Value) (m size : Nat) (news : List Value) : Prop :=
  (u = .slice none 0 0 ∧ m = 0 ∧ news = []) ∨ ∃ a c, u = .slice (some a) m c ∧ news.length = m * size ∧ ∀ j x, news[j]? = some x → w.cell? (a.add j) = some x

theorem run_append_any {P : Program} (w : World) (base : Nat) (t ty e : TypeId) (i : TypeInfo) (z : Value) (size bytes : Nat) (ht : P.underlying t = some (.slice e)) (hi : P.info? e = some i) (hz : i.zero = some z)
    (hsize : i.size = size) (hby : i.bytes = bytes) (hzs : z.cells.size = size) (hsz : 0 < size)
    (v : Value) (n : Nat) (xs : List Value) (hown : w.ownsRow base e size v n xs) (u : Value) (m : Nat) (news : List Value) (hu : NewsAt w u m size news) (h1 : ∀ u ∈ news, u.oneCell' = true)
    (h63 : n + m ≤ maxLen) (hbytes : (n + m) * bytes ≤ 140737488355328) (hbase : base ≤ w.heap.size) :
    ∃ v' w', (Builtin.append_ #[t, t] ty #[v, u]).run P w = .ok v' w' ∧ w'.ownsRow base e size v' (n + m) (xs ++ news) ∧ w.grownBy w' v.ownBlock ∧ (v'.ownBlock = v.ownBlock ∨ v'.ownBlock = some w.heap.size) := by
  rcases hu with ⟨rfl, rfl, rfl⟩ | ⟨a, c, rfl, hl, hc⟩
  · have hg : ∀ r, w.grownBy w r := fun r => ⟨rfl, rfl, rfl, Nat.le_refl _, fun _ _ _ => rfl⟩
    rcases hown.2 with ⟨rfl, rfl⟩ | ⟨g, cap, cur, rfl, hbg, hgg, hnc, hcm, hcs, htake⟩
    · refine ⟨.slice none 0 0, w, ?_, ?_, hg _, Or.inl rfl⟩
      · simp [Builtin.append_, run_underlying ht, sizeOf, typeInfo, hi, Builtin.lenOf, Builtin.firstCells, loadCells, loadCellsFrom]
      · simpa using hown
    · refine ⟨.slice (some ⟨g, 0, none⟩) n cap, w, ?_, by simpa using hown, hg _, Or.inl rfl⟩
      have := run_append_room_src (P := P) w t t ty e i ht hi g 0 n cap (.slice none 0 0) 0 [] (Src.ofNil w ht 0) hnc (fun j h => by simp at h) (fun j h => by simp at h)
      rw [world_setCells_nil] at this
      exact this
  · obtain ⟨v', w', h2, h3, h4, h5, h6⟩ := run_append_own_at (P := P) w base t ty e i z size bytes ht hi hz hsize hby hzs hsz v n xs hown a m c news hl hc h1 h63 hbytes hbase
    exact ⟨v', w', h2, h3, h4, h6⟩

/-- append, its run known. -/
theorem wpList_append_known {P : Program} {w w' : World} {ops : Array Oper} {rest : List Oper} {o : Oper} {a : Act} {Q : Exit → Act → World → Prop} (hgd : o.guard = none) (s x : Operand) (t : TypeId)
    (ho : o.op = .call { callee := .builtin .append, args := #[s, x], argTypes := #[t, t] }) (v v2 v' : Value) (hs : a.eval s = v) (hx : a.eval x = v2) (hr : (Builtin.append_ #[t, t] o.type #[v, v2]).run P w = .ok v' w')
    (h : wpList P ops Q rest (a.put o.dst v') w') : wpList P ops Q (o :: rest) a w := by
  refine wpList_plain hgd fun K hK => ?_
  unfold Oper.wp execOp
  simp only [ho, resolve, invoke, builtin, Sem.run_bind, Sem.run_pure, Result.andThen_ok, List.map_toArray, List.map_cons, List.map_nil, hs, hx, hr]
  exact hK _ _ h

/-- The first of an own row's items, as a row of their own. -/
theorem own_first {w : World} {base : Nat} {e : TypeId} {size n k c : Nat} {A : Option Addr} {xs : List Value} (h : w.ownsRow base e size (.slice A n c) n xs) (hk : k ≤ n) : w.ownsRow base e size (.slice A k c) k (xs.take (k * size)) := by
  have hle : k * size ≤ n * size := Nat.mul_le_mul_right _ hk
  refine ⟨by rw [List.length_take, h.1]; omega, ?_⟩
  rcases h.2 with ⟨hv, hn⟩ | ⟨g, cap, cur, hv, hb, hg, hnc, hcm, hcs, ht⟩
  · cases hv
    exact Or.inl ⟨by rw [show k = 0 by omega], by omega⟩
  · cases hv
    refine Or.inr ⟨g, c, cur, rfl, hb, hg, by omega, hcm, hcs, ?_⟩
    rw [← ht, List.take_take, Nat.min_eq_left hle]
/-- The last ones, as what is appended; A' is where a slice from k on lies. -/
theorem own_last {w : World} {base : Nat} {e : TypeId} {size n k c : Nat} {A : Option Addr} {xs : List Value} (h : w.ownsRow base e size (.slice A n c) n xs) (hk : k ≤ n) :
    NewsAt w (.slice (if c = k then A else A.map (·.add (k * size))) (n - k) (c - k)) (n - k) size (xs.drop (k * size)) := by
  rcases h.2 with ⟨hv, hn⟩ | ⟨g, cap, cur, hv, hb, hg, hnc, hcm, hcs, ht⟩
  · cases hv
    obtain rfl : k = 0 := by omega
    refine Or.inl ⟨by simp, by simp, ?_⟩
    have : xs = [] := List.eq_nil_of_length_eq_zero (by simpa using h.1)
    simp [this]
  · cases hv
    have hlen : (xs.drop (k * size)).length = (n - k) * size := by rw [List.length_drop, h.1, Nat.sub_mul]
    by_cases hck : c = k
    · rw [if_pos hck]
      have hnk : n - k = 0 := by omega
      refine Or.inr ⟨_, _, rfl, hlen, fun j x hj => ?_⟩
      have : xs.drop (k * size) = [] := List.eq_nil_of_length_eq_zero (by rw [hlen, hnk, Nat.zero_mul])
      rw [this] at hj
      simp at hj
    · rw [if_neg hck]
      refine Or.inr ⟨_, _, rfl, hlen, fun j x hj => ?_⟩
      rw [List.getElem?_drop] at hj
      have := h.cells (g := g) rfl _ _ hj
      rw [← this]
      congr 1
      unfold Addr.add
      simp only
      split <;> split <;> (try split) <;> simp_all <;> omega

/-- append in a region that draws its order, its run known. -/
theorem wp_append_known {P : Program} {Q : Exit → Act → World → Prop} {o : Oper} {a : Act} {w w' : World} {K : Act → World → Prop} (s x : Operand) (t : TypeId) (ho : o.op = .call { callee := .builtin .append, args := #[s, x], argTypes := #[t, t] })
    (v v2 v' : Value) (hs : a.eval s = v) (hx : a.eval x = v2) (hr : (Builtin.append_ #[t, t] o.type #[v, v2]).run P w = .ok v' w') (h : K (a.put o.dst v') w') : o.wp P a w K Q := by
  unfold Oper.wp execOp
  simp only [ho, resolve, invoke, builtin, Sem.run_bind, Sem.run_pure, Result.andThen_ok, List.map_toArray, List.map_cons, List.map_nil, hs, hx, hr]
  exact h

/-- What append asks of a row's type. -/
structure RowInfo (P : Program) (t e : TypeId) (i : TypeInfo) (z : Value) (size bytes : Nat) : Prop where
  ht : P.underlying t = some (.slice e)
  hi : P.info? e = some i
  hz : i.zero = some z
  hsize : i.size = size
  hby : i.bytes = bytes
  hzs : z.cells.size = size
  hsz : 0 < size
  hbytes : bytes ≤ 1024

section
variable {P : Program} {t ty e : TypeId} {i : TypeInfo} {z : Value} {size bytes : Nat}

theorem RowInfo.append (H : RowInfo P t e i z size bytes) (ty : TypeId) (w : World) (base : Nat) (v : Value) (n : Nat) (xs : List Value) (hown : w.ownsRow base e size v n xs) (u : Value) (m : Nat) (news : List Value) (hu : NewsAt w u m size news)
    (h1 : ∀ u ∈ news, u.oneCell' = true) (hn : n + m ≤ 1000000) (hbase : base ≤ w.heap.size) :
    ∃ v' w', (Builtin.append_ #[t, t] ty #[v, u]).run P w = .ok v' w' ∧ w'.ownsRow base e size v' (n + m) (xs ++ news) ∧ w.grownBy w' v.ownBlock ∧ (v'.ownBlock = v.ownBlock ∨ v'.ownBlock = some w.heap.size) :=
  run_append_any w base t ty e i z size bytes H.ht H.hi H.hz H.hsize H.hby H.hzs H.hsz v n xs hown u m news hu h1 (by unfold maxLen; omega) (Nat.le_trans (Nat.mul_le_mul hn H.hbytes) (by decide)) hbase

theorem own_all {w : World} {base : Nat} {e : TypeId} {size n : Nat} {v : Value} {xs : List Value} (h : w.ownsRow base e size v n xs) : NewsAt w v n size xs := by
  rcases h.2 with ⟨rfl, rfl⟩ | ⟨g, cap, cur, rfl, hb, hg, r⟩
  · exact Or.inl ⟨rfl, rfl, List.eq_nil_of_length_eq_zero (by simpa using h.1)⟩
  · exact Or.inr ⟨_, _, rfl, h.1, h.cells (g := g) rfl⟩
theorem own_empty (w : World) (e : TypeId) (size : Nat) : (w.alloc (.cells #[] e)).ownsRow w.heap.size e size (.slice (some ⟨w.heap.size, 0, none⟩) 0 0) 0 [] :=
  ⟨by simp, Or.inr ⟨w.heap.size, 0, #[], rfl, Nat.le_refl _, Blk.new w e #[], Nat.le_refl _, by simp [maxLen], by simp, by simp⟩⟩
theorem below_of_grown {w w' : World} {row : Option Nat} {B : Nat} (h : w.grownBy w' row) (hB : B ≤ w.heap.size) (hr : ∀ k, row = some k → B ≤ k) : Below B w w' :=
  ⟨h.os, h.tape, h.output, h.size, fun k hk => h.block k (Nat.lt_of_lt_of_le hk hB) (fun e => by have := hr k e.symm; omega)⟩

/-- 'append([]T{}, l[k:]...)'. -/
theorem RowInfo.copy_last (H : RowInfo P t e i z size bytes) (ty : TypeId) {w : World} {B n c k : Nat} {A : Option Addr} {xs : List Value} (h : w.ownsRow B e size (.slice A n c) n xs) (hk : k ≤ n) (h1 : ∀ u ∈ xs, u.oneCell' = true) (hn : n ≤ 1000000) :
    ∃ v' w', (Builtin.append_ #[t, t] ty #[.slice (some ⟨w.heap.size, 0, none⟩) 0 0, .slice (if c = k then A else A.map (·.add (k * size))) (n - k) (c - k)]).run P (w.alloc (.cells #[] e)) = .ok v' w' ∧
      w'.ownsRow w.heap.size e size v' (n - k) (xs.drop (k * size)) ∧ Below w.heap.size w w' := by
  obtain ⟨v', w', h2, h3, h4, -⟩ := H.append ty (w.alloc (.cells #[] e)) w.heap.size _ 0 [] (own_empty w e size) _ _ _ (own_last (h.alloc _) hk) (fun u hu => h1 u (List.mem_of_mem_drop hu)) (by omega) (by simp)
  rw [Nat.zero_add, List.nil_append] at h3
  exact ⟨v', w', h2, h3, ((Below.refl _ w).alloc (Nat.le_refl _) _).trans (below_of_grown h4 (by simp) (fun k hk => by simp [Value.ownBlock] at hk; omega))⟩

/-- 'append(append([]T{}, l[:k]...), l[k+1:]...)'. -/
theorem RowInfo.less (H : RowInfo P t e i z size bytes) (ty : TypeId) {w : World} {B n c k : Nat} {A : Option Addr} {xs : List Value} (h : w.ownsRow B e size (.slice A n c) n xs) (hk : k < n) (h1 : ∀ u ∈ xs, u.oneCell' = true) (hn : n ≤ 1000000) :
    ∃ v1 w1 v2 w2, (Builtin.append_ #[t, t] ty #[.slice (some ⟨w.heap.size, 0, none⟩) 0 0, .slice A k c]).run P (w.alloc (.cells #[] e)) = .ok v1 w1 ∧ Below w.heap.size w w1 ∧
      (Builtin.append_ #[t, t] ty #[v1, .slice (if c = k + 1 then A else A.map (·.add ((k + 1) * size))) (n - (k + 1)) (c - (k + 1))]).run P w1 = .ok v2 w2 ∧ Below w.heap.size w w2 ∧
      w2.ownsRow w.heap.size e size v2 (n - 1) (xs.take (k * size) ++ xs.drop ((k + 1) * size)) := by
  obtain ⟨v1, w1, h2, h3, h4, -⟩ := H.append ty (w.alloc (.cells #[] e)) w.heap.size _ 0 [] (own_empty w e size) _ _ _ (own_all (own_first (h.alloc _) (Nat.le_of_lt hk))) (fun u hu => h1 u (List.mem_of_mem_take hu)) (by omega) (by simp)
  rw [Nat.zero_add, List.nil_append] at h3
  have hb1 : Below w.heap.size w w1 := ((Below.refl _ w).alloc (Nat.le_refl _) _).trans (below_of_grown h4 (by simp) (fun k hk => by simp [Value.ownBlock] at hk; omega))
  obtain ⟨v2, w2, k2, k3, k4, -⟩ := H.append ty w1 w.heap.size v1 k _ h3 _ _ _ (own_last (own_next h hb1) (show k + 1 ≤ n from hk)) (fun u hu => h1 u (List.mem_of_mem_drop hu)) (by omega) hb1.size
  rw [show k + (n - (k + 1)) = n - 1 by omega] at k3
  exact ⟨v1, w1, v2, w2, h2, hb1, k2, hb1.trans (below_of_grown k4 hb1.size (fun j hj => (h3.lt j hj).1)), k3⟩

/-- 'append(append(l[:k], x), rest...)'. -/
theorem RowInfo.more (H : RowInfo P t e i z size bytes) (ty : TypeId) {w : World} {B n c k m Br : Nat} {A : Option Addr} {vr : Value} {xs its ys : List Value} (h : w.ownsRow B e size (.slice A n c) n xs) (hk : k ≤ n) (hi : its.length = size) (hr : w.ownsRow Br e size vr m ys) (hne : ∀ j, vr.ownBlock = some j → (Value.slice A n c).ownBlock ≠ some j)
    (h1 : ∀ u ∈ its, u.oneCell' = true) (h2 : ∀ u ∈ ys, u.oneCell' = true) (hn : n + m + 1 ≤ 1000000) (hB : B ≤ w.heap.size) :
    ∃ v1 w1 v2 w2, (Builtin.append_ #[t, t] ty #[.slice A k c, .slice (some ⟨w.heap.size, 0, none⟩) 1 1]).run P (w.alloc (.cells its.toArray e)) = .ok v1 w1 ∧
      (Builtin.append_ #[t, t] ty #[v1, vr]).run P w1 = .ok v2 w2 ∧ w2.ownsRow B e size v2 (k + 1 + m) (xs.take (k * size) ++ its ++ ys) ∧ Fr (fun j => (Value.slice A n c).ownBlock = some j) w w2 ∧ (∀ j, v2.ownBlock = some j → (Value.slice A n c).ownBlock = some j ∨ w.heap.size ≤ j) := by
  have hob : (Value.slice A k c).ownBlock = (Value.slice A n c).ownBlock := by cases A <;> rfl
  have hnew : NewsAt (w.alloc (.cells its.toArray e)) (.slice (some ⟨w.heap.size, 0, none⟩) 1 1) 1 size its := Or.inr ⟨_, _, rfl, by omega, fun j x hj => by
    have e2 : (⟨w.heap.size, 0, none⟩ : Addr).add j = ⟨w.heap.size, j, none⟩ := by
      unfold Addr.add
      split
      · rename_i h0
        rw [h0]
      · simp only [Nat.zero_add]
    rw [e2]
    exact (Blk.new w e its.toArray).get j (by simpa using hj)⟩
  obtain ⟨v1, w1, a1, a2, a3, a4⟩ := H.append ty (w.alloc (.cells its.toArray e)) B _ k _ (own_first (h.alloc _) hk) _ _ _ hnew h1 (by omega) (by simp; omega)
  rw [hob] at a3 a4
  have hrk : w1.ownsRow Br e size vr m ys := (hr.alloc (.cells its.toArray e)).kept a3 (by
    rcases hv : vr.ownBlock with _ | j
    · exact Or.inl rfl
    · exact Or.inr (fun e => hne j hv e.symm))
  obtain ⟨v2, w2, b1, b2, b3, b4⟩ := H.append ty w1 B v1 (k + 1) _ a2 vr m ys (own_all hrk) h2 (by omega) (Nat.le_trans hB (Nat.le_trans (by simp) a3.size))
  refine ⟨v1, w1, v2, w2, a1, b1, b2, ?_, ?_⟩
  · have f1 : Fr (fun j => (Value.slice A n c).ownBlock = some j) w w1 := ((Fr.refl _ w).alloc _).grown a3 (fun j hj _ => hj)
    refine f1.grown b3 (fun j hj hlt => ?_)
    rcases a4 with e4 | e4
    · rw [← e4]; exact hj
    · rw [hj] at e4
      simp at e4
      omega
  · intro j hj
    have hz : w.heap.size ≤ w1.heap.size := Nat.le_trans (by simp) a3.size
    rcases b4 with e4 | e4
    · rw [hj] at e4
      rcases a4 with e5 | e5
      · exact Or.inl (by rw [← e5, ← e4])
      · rw [← e4] at e5
        simp at e5
        exact Or.inr (by omega)
    · rw [hj] at e4
      simp at e4
      exact Or.inr (by omega)

/-- A cell of an own row is stored into. -/
theorem own_set {w : World} {base g n c q : Nat} {e : TypeId} {size : Nat} {xs : List Value} (h : w.ownsRow base e size (.slice (some ⟨g, 0, none⟩) n c) n xs) (hq : q < n * size) (u : Value) :
    (w.setCell ⟨g, q, none⟩ u).ownsRow base e size (.slice (some ⟨g, 0, none⟩) n c) n (xs.set q u) := by
  refine ⟨by rw [List.length_set]; exact h.1, ?_⟩
  rcases h.2 with ⟨hv, _⟩ | ⟨g', cap, cur, hv, hb, hg, hnc, hcm, hcs, ht⟩
  · cases hv
  · cases hv
    have hle : n * size ≤ c * size := Nat.mul_le_mul_right _ hnc
    refine Or.inr ⟨g, c, cur.setIfInBounds q u, rfl, hb, ?_, hnc, hcm, by simpa using hcs, ?_⟩
    · simp [World.setCell, Array.getElem?_modify, hg]
    · rw [← ht]
      apply List.ext_getElem?
      intro j
      simp only [Array.toList_setIfInBounds, List.getElem?_take, List.getElem?_set, List.length_take]
      split <;> split <;> (try split) <;> (try split) <;> first | rfl | omega | (simp_all; try omega)
theorem own_slice {w : World} {base : Nat} {e : TypeId} {size n : Nat} {v : Value} {xs : List Value} (h : w.ownsRow base e size v n xs) : ∃ A c, v = .slice A n c := by
  rcases h.2 with ⟨rfl, rfl⟩ | ⟨g, cap, cur, rfl, _⟩
  · exact ⟨_, _, rfl⟩
  · exact ⟨_, _, rfl⟩
end

end Go.Proofs.YtjhffbhjiflfeaaGreat
