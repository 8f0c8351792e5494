/-
  TreeSummed holds.
-/
import Derived.Test.YtjlnbpomncglcaaProg
import Derived.Test.YtjlnbpomncglcaaRBCols
namespace Go.Proofs.Ytjlnbpomncglcaa
set_option linter.unusedVariables false
set_option linter.unusedSimpArgs false
set_option maxRecDepth 100000
open Go.RowKit Go.Shelf

attribute [local go_sem] Oper.semAt_some

/-- Is the one that is found still to come? -/
def fndB (m : Int) (L : Row) (k : Nat) : Bool := anyTo m L && !anyTo m (L.take k)
theorem take_next {L : Row} {k : Nat} {p : RK × Int} (h : L[k]? = some p) : L.take (k + 1) = L.take k ++ [p] := by
  obtain ⟨hk, rfl⟩ := List.getElem?_eq_some_iff.1 h
  rw [List.take_succ_eq_append_getElem hk]
theorem any_step {m : Int} {L : Row} {k : Nat} {p : RK × Int} (h : L[k]? = some p) : anyTo m (L.take (k + 1)) = (anyTo m (L.take k) || decide (p.2 ≤ m)) := by
  rw [take_next h]
  simp [anyTo]
theorem sum_step {L : Row} {k : Nat} {p : RK × Int} (h : L[k]? = some p) : sumFrom ofV minV none (L.take (k + 1)) = some (more minV (sumFrom ofV minV none (L.take k)) p.2) := by
  rw [take_next h, sumFrom_append]
  rfl
theorem upto_step {n : Int} {L : Row} {k : Nat} {p : RK × Int} (h : L[k]? = some p) : uptoU n (L.take (k + 1)) = if p.1.1 ≤ n then some (more minV (uptoU n (L.take k)) p.2) else uptoU n (L.take k) := by
  unfold uptoU
  rw [take_next h, upTo_append, sumFrom_append]
  by_cases hp : p.1.1 ≤ n
  · rw [if_pos hp, show upTo n [p] = [p] from upTo_all (fun a ha => by rw [List.mem_singleton.1 ha]; exact hp)]
    rfl
  · rw [if_neg hp, show upTo n [p] = [] from upTo_none (fun a ha => by rw [List.mem_singleton.1 ha]; omega)]
    rfl
theorem find_some (m : Int) (L : Row) : (findTo m L).isSome = anyTo m L := by
  unfold findTo anyTo
  rw [Option.isSome_map]
  exact Bool.eq_iff_iff.2 (List.find?_isSome.trans List.any_eq_true.symm)
/-- In the first round that is ok the key is the one that was found; in those ahead it isn't. -/
theorem find_here {m : Int} {L : Row} (hR : Rises L) {k : Nat} {p : RK × Int} (h : L[k]? = some p) (h1 : anyTo m (L.take k) = false) (h2 : p.2 ≤ m) : findTo m L = some p.1 := by
  obtain ⟨hk, rfl⟩ := List.getElem?_eq_some_iff.1 h
  have e : L = L.take k ++ L[k] :: L.drop (k + 1) := by rw [← List.drop_eq_getElem_cons hk, List.take_append_drop]
  conv => lhs; rw [e]
  rw [findTo_right h1, findTo_here h2]
theorem find_not {m : Int} {L : Row} (hR : Rises L) {k : Nat} {p : RK × Int} (h : L[k]? = some p) (h2 : ¬ p.2 ≤ m) (h3 : anyTo m L = true) : (findTo m L).getD (0, 0) ≠ p.1 := by
  intro e
  have h4 : (findTo m L).isSome = true := by rw [find_some, h3]
  obtain ⟨q, hq⟩ := Option.isSome_iff_exists.1 h4
  rw [hq] at e
  have e : q = p.1 := e
  subst e
  unfold findTo at hq
  obtain ⟨x, hx, hx2⟩ := Option.map_eq_some_iff.1 hq
  have h5 : decide (x.2 ≤ m) = true := List.find?_some (p := fun p : RK × Int => decide (p.2 ≤ m)) hx
  have h6 := List.mem_of_find?_eq_some hx
  have e1 := get_of_mem hR (show (p.1, x.2) ∈ L by rw [← hx2]; exact h6)
  have e2 := get_of_mem hR (show (p.1, p.2) ∈ L from List.mem_of_getElem? h)
  rw [e1] at e2
  rw [Option.some.inj e2] at h5
  exact h2 (of_decide_eq_true h5)
theorem opt_none {o : Option Int} (h : o.isSome = false) (v : Int) : more minV o v = v := by
  cases o with
  | none => rfl
  | some s => cases h
theorem opt_less {o : Option Int} {s v : Int} (h : o.isSome = true) (hs : o.getD 0 = s) (hv : v < s) : more minV o v = v := by
  cases o with
  | none => cases h
  | some s' => have : s' = s := hs; subst this; exact if_pos hv
theorem opt_keep {o : Option Int} {s v : Int} (h : o.isSome = true) (hs : o.getD 0 = s) (hv : ¬ v < s) : more minV o v = s := by
  cases o with
  | none => cases h
  | some s' => have : s' = s := hs; subst this; exact if_neg hv
theorem putN {w : World} {b : Nat} {ty : TypeId} {u v : Value} (h : Blk w b ty #[u]) : Blk (w.setCell ⟨b, 0, none⟩ v) b ty #[v] := h.put 0 v
theorem farN {w : World} {b i j : Nat} {ty : TypeId} {cs : Array Value} {v : Value} (h : Blk w (b + i) ty cs) (hij : i ≠ j) : Blk (w.setCell ⟨b + j, 0, none⟩ v) (b + i) ty cs := h.far (p := ⟨b + j, 0, none⟩) (show b + i ≠ b + j by omega) v
theorem holN {w w' : World} {b B j : Nat} {v : Value} (hB : B = b + 8) (hj : j ≤ 6) (h : Holds B w w') : Holds B w (w'.setCell ⟨b + j, 0, none⟩ v) := h.set (p := ⟨b + j, 0, none⟩) (show b + j ≠ B by omega) (show b + j ≠ B + 1 by omega) v
theorem frN {w w' : World} {b j : Nat} {v : Value} (h1 : 1 ≤ j) (h2 : j ≤ 6) (h : Fr (fun i => b + 1 ≤ i ∧ i ≤ b + 6) w w') : Fr (fun i => b + 1 ≤ i ∧ i ≤ b + 6) w (w'.setCell ⟨b + j, 0, none⟩ v) := h.setCell (p := ⟨b + j, 0, none⟩) (fun _ => (show b + 1 ≤ b + j ∧ b + j ≤ b + 6 by omega)) v
set_option maxHeartbeats 64000000 in
theorem treeSummed_walk (w : World) (A : Option Addr) (n c : Nat) (N : Nat → Int) (fN : ∀ i, i < n → (Lit.int .u64 (N i)).wf = true) (I : Nat → Int) (fI : ∀ i, i < n → (Lit.int .i64 (I i)).wf = true) (V : Nat → Int) (fV : ∀ i, i < n → (Lit.int .u64 (V i)).wf = true) (D : Nat → Bool) (hl : n ≤ c) (hm : c ≤ maxLen)
    (hA : 0 < n → ∃ b off, A = some ⟨b, off, none⟩ ∧ b < w.heap.size) (hN : ∀ b off, A = some ⟨b, off, none⟩ → ∀ i, i < n → w.cell? ⟨b, off + (i * 4 + 0), none⟩ = some (.int .u64 (N i))) (hI : ∀ b off, A = some ⟨b, off, none⟩ → ∀ i, i < n → w.cell? ⟨b, off + (i * 4 + 1), none⟩ = some (.int .i64 (I i)))
    (hV : ∀ b off, A = some ⟨b, off, none⟩ → ∀ i, i < n → w.cell? ⟨b, off + (i * 4 + 2), none⟩ = some (.int .u64 (V i))) (hD : ∀ b off, A = some ⟨b, off, none⟩ → ∀ i, i < n → w.cell? ⟨b, off + (i * 4 + 3), none⟩ = some (.bool (D i))) (nm : Int) (fnm : (Lit.int .u64 nm).wf = true) (vl : Int) (fvl : (Lit.int .u64 vl).wf = true) :
    Calls Try.prog 6 #[.slice A n c, .int .u64 nm, .int .u64 vl] w fun e w' => e = .returned (.bool true) ∧ Below w.heap.size w w' := by
  have HA := Lib.hid (racts_of hA hN hI hV hD)
  clear hA hN hI hV hD fN fI fV hl hm fnm fvl
  obtain ⟨w0, hw0⟩ : ∃ x, ((w.alloc (.cells #[.int .u64 nm] 23)).alloc (.cells #[.int .u64 vl] 23)).alloc (.cells #[.bool false] 4) = x := ⟨_, rfl⟩
  have bP : Blk w0 w.heap.size 23 #[.int .u64 nm] := by rw [← hw0]; exact ((Blk.new w _ _).alloc _).alloc _
  have bQ : Blk w0 (w.heap.size + 1) 23 #[.int .u64 vl] := by rw [← hw0]; exact (Blk.new_at (by simp)).alloc _
  have bR : Blk w0 (w.heap.size + 2) 4 #[.bool false] := by rw [← hw0]; exact Blk.new_at (by simp)
  have hb0 : Below w.heap.size w w0 := by rw [← hw0]; go_grown
  have hz0 : w0.heap.size = w.heap.size + 3 := by rw [← hw0]; simp
  have H0 := Lib.hid (And.intro bP (And.intro bQ (And.intro bR (And.intro hb0 hz0))))
  have HEQ := Lib.hid hw0
  clear bP bQ bR hb0 hz0 hw0
  by_cases hn : 200 < n
  · have HN := Lib.hid hn
    clear hn
    refine calls_of_wp_marks Try.func6 rfl ?_
    simp only [Try.ntmps6, List.size_toArray, List.length_cons, List.length_nil, Nat.reduceAdd, Nat.reduceSub, Array.replicate_succ, Array.replicate_zero, List.push_toArray, List.append_toArray, List.nil_append, List.cons_append]
    go_wp2_with fail
    rw [HEQ.out]
    with_reducible refine (awake_true w0).mono ?_
    rintro e w1 ⟨rfl, hb1⟩
    have HB1 := Lib.hid hb1
    clear hb1
    go_wp2_with fail
    with_reducible refine (acted_many A n c w1 HN.out).mono ?_
    rintro e w2 ⟨rfl, hb2⟩
    have bR := (H0.out.2.2.1.next HB1.out).next hb2
    have HB2 := Lib.hid (And.intro (H0.out.2.2.2.1.trans ((below_next HB1.out hb2).mono H0.out.2.2.2.1.size)) bR)
    have x4 := bR.get 0 rfl
    have f4 := bR.frozen 0
    clear hb2 bR
    go_wp2
    refine marks_ret (B := w.heap.size) [] rfl (by intro D hd; cases hd) (by simp) ?_
    intro w' hs
    have b4 := (HB2.out.2.put 0 (.bool true)).stays hs
    have n4 : w'.cell? ⟨w.heap.size + 2, 0, none⟩ = some (.bool true) := b4.get 0 rfl
    have b5 := below_stays (HB2.out.1.setCell (p := ⟨w.heap.size + 2, 0, none⟩) (Nat.le_add_right _ 2) (.bool true)) hs (Nat.le_refl _)
    exact ⟨_, by simp [results, Try.results6, go_sem, n4]; try rfl, rfl, b5⟩
  have HN := Lib.hid (show n ≤ 200 by omega)
  clear hn
  refine calls_of_wp_marks Try.func6 rfl ?_
  simp only [Try.ntmps6, List.size_toArray, List.length_cons, List.length_nil, Nat.reduceAdd, Nat.reduceSub, Array.replicate_succ, Array.replicate_zero, List.push_toArray, List.append_toArray, List.nil_append, List.cons_append]
  go_wp2_with fail
  rw [HEQ.out]
  with_reducible refine (awake_true w0).mono ?_
  rintro e wa ⟨rfl, hb1⟩
  have HB1 := Lib.hid hb1
  clear hb1
  go_wp2_with fail
  with_reducible refine (acted_any A n c N I V D wa ((HA.out.next H0.out.2.2.2.1).next HB1.out) HN.out).mono ?_
  rintro e w2 ⟨T, t, rfl, ht, hit⟩
  have HT := Lib.hid ht
  have hlen : t.items.length ≤ 200 := by rw [hit]; exact Nat.le_trans (actsRow_len N I V D n) HN.out
  have HLEN := Lib.hid hlen
  have HBX : Hid (∀ X, TrAt wa X T t → Blk X w.heap.size 23 #[.int .u64 nm] ∧ Blk X (w.heap.size + 1) 23 #[.int .u64 vl] ∧ Blk X (w.heap.size + 2) 4 #[.bool false]) := fun X h => ⟨(H0.out.1.next HB1.out).below h.below (H0.out.1.next HB1.out).lt, (H0.out.2.1.next HB1.out).below h.below (H0.out.2.1.next HB1.out).lt, (H0.out.2.2.1.next HB1.out).below h.below (H0.out.2.2.1.next HB1.out).lt⟩
  have x0 := (HBX.out w2 ht).1.get 0 rfl
  have U1 := Lib.hid (ru_upto T t nm w2 ht.is)
  obtain ⟨u1, hu1⟩ : ∃ x, uptoU nm t.items = x := ⟨_, rfl⟩
  have HU1 := Lib.hid hu1
  rw [hu1] at U1
  clear ht hit hlen HA hu1
  go_wp2_with fail
  with_reducible refine (U1.out).mono ?_
  rintro e w3 ⟨rfl, hb3⟩
  have HT3 := Lib.hid (HT.out.next hb3)
  have AL := Lib.hid (ru_all T t w3 HT3.out.is)
  clear hb3 x0 U1
  go_wp2_with fail
  with_reducible refine (AL.out).mono ?_
  rintro e w4 ⟨rfl, hb4⟩
  have HT4 := Lib.hid (HT3.out.next hb4)
  have x0 := (HBX.out w4 HT4.out).2.1.get 0 rfl
  have FD := Lib.hid (ru_find T t vl w4 HT4.out.is)
  unfold FindR at FD
  rw [find_some] at FD
  clear hb4 AL
  go_wp2_with fail
  with_reducible refine (FD.out).mono ?_
  rintro e w5 ⟨rfl, hb5⟩
  have HT5 := Lib.hid (HT4.out.next hb5)
  clear hb5 x0 FD
  go_wp2_with fail
  with_reducible refine (ru_Each _ rfl _).mono ?_
  rintro e wx ⟨rfl, rfl⟩
  go_wp2_with fail
  obtain ⟨kq, hkq⟩ : ∃ x, (findTo vl t.items).getD (0, 0) = x := ⟨_, rfl⟩
  have HKQ := Lib.hid hkq
  rw [hkq]
  clear hkq
  obtain ⟨W0, hW0⟩ : ∃ x, (((((((w5.alloc (.cells #[.int .u64 kq.1, .int .i64 kq.2] 31)).alloc (.cells #[.bool (anyTo vl t.items)] 4)).alloc (.cells #[.int .u64 0] 23)).alloc (.cells #[.bool false] 4)).alloc (.cells #[.int .u64 0] 23)).alloc (.cells #[.bool false] 4)).alloc (.cells #[.bool (!anyTo vl t.items)] 4)).alloc (.cells #[.pointer (some ⟨T, 0, none⟩)] 24) = x := ⟨_, rfl⟩
  have b0 : Blk W0 w5.heap.size 31 #[.int .u64 kq.1, .int .i64 kq.2] := by rw [← hW0]; exact (((((((Blk.new w5 _ _).alloc _).alloc _).alloc _).alloc _).alloc _).alloc _).alloc _
  have b1 : Blk W0 (w5.heap.size + 1) 4 #[.bool (anyTo vl t.items)] := by rw [← hW0]; exact ((((((Blk.new_at (by simp)).alloc _).alloc _).alloc _).alloc _).alloc _).alloc _
  have b2 : Blk W0 (w5.heap.size + 2) 23 #[.int .u64 0] := by rw [← hW0]; exact (((((Blk.new_at (by simp)).alloc _).alloc _).alloc _).alloc _).alloc _
  have b3 : Blk W0 (w5.heap.size + 3) 4 #[.bool false] := by rw [← hW0]; exact ((((Blk.new_at (by simp)).alloc _).alloc _).alloc _).alloc _
  have b4 : Blk W0 (w5.heap.size + 4) 23 #[.int .u64 0] := by rw [← hW0]; exact (((Blk.new_at (by simp)).alloc _).alloc _).alloc _
  have b5 : Blk W0 (w5.heap.size + 5) 4 #[.bool false] := by rw [← hW0]; exact ((Blk.new_at (by simp)).alloc _).alloc _
  have b6 : Blk W0 (w5.heap.size + 6) 4 #[.bool (!anyTo vl t.items)] := by rw [← hW0]; exact (Blk.new_at (by simp)).alloc _
  have b7 : Blk W0 (w5.heap.size + 7) 24 #[.pointer (some ⟨T, 0, none⟩)] := by rw [← hW0]; exact Blk.new_at (by simp)
  have hB0 : Below w5.heap.size w5 W0 := by rw [← hW0]; go_grown
  have hsz : W0.heap.size = w5.heap.size + 8 := by rw [← hW0]; simp
  rw [hW0]
  have HSZ := Lib.hid hsz
  clear hW0 hsz
  have hTA := HT5.out.next hB0
  have HW1 : Hid (w.heap.size + 3 ≤ wa.heap.size ∧ wa.heap.size ≤ w5.heap.size) := ⟨by have := H0.out.2.2.2.2; have := HB1.out.size; omega, HT5.out.below.size⟩
  have e0 : fndB vl t.items 0 = anyTo vl t.items := by simp [fndB, anyTo]
  refine wp_range (gf := 70) (lb := #[.pointer (some ⟨w5.heap.size + 7, 0, none⟩)]) rfl (enters_of Try.func70 (by kernel_rfl) rfl) (ru_yields T (w5.heap.size + 7) t) (fun _ _ => rfl)
    (fun k W => TrAt wa W T t ∧ Blk W (w5.heap.size + 7) 24 #[.pointer (some ⟨T, 0, none⟩)] ∧ Blk W w5.heap.size 31 #[.int .u64 kq.1, .int .i64 kq.2] ∧ Blk W (w5.heap.size + 1) 4 #[.bool (fndB vl t.items k)] ∧ Blk W (w5.heap.size + 2) 23 #[.int .u64 ((uptoU nm (t.items.take k)).getD 0)] ∧ Blk W (w5.heap.size + 3) 4 #[.bool (uptoU nm (t.items.take k)).isSome] ∧ Blk W (w5.heap.size + 4) 23 #[.int .u64 ((sumFrom ofV minV none (t.items.take k)).getD 0)] ∧ Blk W (w5.heap.size + 5) 4 #[.bool (sumFrom ofV minV none (t.items.take k)).isSome] ∧ Blk W (w5.heap.size + 6) 4 #[.bool (!(fndB vl t.items k))] ∧ (Blk W w.heap.size 23 #[.int .u64 nm] ∧ Blk W (w.heap.size + 1) 23 #[.int .u64 vl] ∧ Blk W (w.heap.size + 2) 4 #[.bool false]) ∧ W0.heap.size ≤ W.heap.size)
    (fun _ _ _ => False) ?hI (fun _ _ _ _ h _ => h) (fun k A h => ⟨h.1.is, h.2.1⟩) ?h0 ?hround ?hdone (fun _ _ _ _ h _ => h.elim)
  case hI =>
    rintro k A C ⟨h1, h2, h3, h4, h5, h6, h7, h8, h9, ⟨ha, hb, hc⟩, hz⟩ hs
    exact ⟨h1.stays hs (by have := HW1.out; have := HSZ.out; omega), h2.stays hs, h3.stays hs, h4.stays hs, h5.stays hs, h6.stays hs, h7.stays hs, h8.stays hs, h9.stays hs, ⟨ha.stays hs, hb.stays hs, hc.stays hs⟩, Nat.le_trans hz hs.size⟩
  case h0 => exact ⟨hTA, b7, b0, by rw [e0]; exact b1, b2, b3, b4, b5, by rw [e0]; exact b6, HBX.out W0 hTA, Nat.le_refl _⟩
  case hround =>
    rintro k W hk ⟨h1, h2, h3, h4, h5, h6, h7, h8, h9, ⟨ha, hb, hc⟩, hz⟩ hlt
    obtain ⟨kk, vv, q1⟩ : ∃ kk vv, t.items[k]? = some (kk, vv) := ⟨(t.items[k]).1, (t.items[k]).2, List.getElem?_eq_getElem hk⟩
    rw [encRB_at q1]
    have HQ := Lib.hid (And.intro q1 hk)
    obtain ⟨s0, hs0⟩ : ∃ x, (uptoU nm (t.items.take k)).getD 0 = x := ⟨_, rfl⟩
    obtain ⟨had, hhad⟩ : ∃ x, (uptoU nm (t.items.take k)).isSome = x := ⟨_, rfl⟩
    obtain ⟨a0, ha0⟩ : ∃ x, (sumFrom ofV minV none (t.items.take k)).getD 0 = x := ⟨_, rfl⟩
    obtain ⟨has, hhas⟩ : ∃ x, (sumFrom ofV minV none (t.items.take k)).isSome = x := ⟨_, rfl⟩
    obtain ⟨fb, hfb⟩ : ∃ x, (fndB vl t.items k) = x := ⟨_, rfl⟩
    rw [hs0] at h5
    rw [hhad] at h6
    rw [ha0] at h7
    rw [hhas] at h8
    rw [hfb] at h4 h9
    have HSV := Lib.hid (And.intro hs0 hhad)
    have HAV := Lib.hid (And.intro ha0 hhas)
    have HFV := Lib.hid hfb
    clear hs0 hhad ha0 hhas hfb
    have HI := Lib.hid (And.intro h1 (And.intro h2 (And.intro h3 (And.intro h4 (And.intro h5 (And.intro h6 (And.intro h7 (And.intro h8 (And.intro h9 (And.intro ha (And.intro hb (And.intro hc hz))))))))))))
    clear h1 h2 h3 h4 h5 h6 h7 h8 h9 ha hb hc hz q1 hk b0 b1 b2 b3 b4 b5 b6 b7 hB0 hTA e0
    gi_wp2
    refine ⟨(Holds.refl hlt).alloc _, fun W2 hs => ?_⟩
    obtain ⟨OB, hOB⟩ : ∃ x, x = (.cells #[.int .u64 kk.1, .int .i64 kk.2] 31 : Obj) := ⟨_, rfl⟩
    have hbA : Below W.heap.size W (W.alloc OB) := (Below.refl _ _).alloc (Nat.le_refl _) _
    rw [← hOB] at hs
    have tN : Blk W2 W.heap.size 31 #[.int .u64 kk.1, .int .i64 kk.2] := by rw [hOB] at hs; exact (Blk.new W _ _).stays hs
    have Ht1 := Lib.hid ((HI.out.1.next hbA).stays hs (by have := HW1.out; have := HSZ.out; omega))
    have HtE := Lib.hid ((HI.out.2.1.alloc OB).stays hs)
    have HtK := Lib.hid ((HI.out.2.2.1.alloc OB).stays hs)
    have HtF := Lib.hid ((HI.out.2.2.2.1.alloc OB).stays hs)
    have HtS := Lib.hid ((HI.out.2.2.2.2.1.alloc OB).stays hs)
    have HtH := Lib.hid ((HI.out.2.2.2.2.2.1.alloc OB).stays hs)
    have HtA := Lib.hid ((HI.out.2.2.2.2.2.2.1.alloc OB).stays hs)
    have HtB := Lib.hid ((HI.out.2.2.2.2.2.2.2.1.alloc OB).stays hs)
    have HtO := Lib.hid ((HI.out.2.2.2.2.2.2.2.2.1.alloc OB).stays hs)
    have Htw := Lib.hid (And.intro ((HI.out.2.2.2.2.2.2.2.2.2.1.alloc OB).stays hs) (And.intro ((HI.out.2.2.2.2.2.2.2.2.2.2.1.alloc OB).stays hs) ((HI.out.2.2.2.2.2.2.2.2.2.2.2.1.alloc OB).stays hs)))
    have H10 : Hid (W0.heap.size + 1 < W2.heap.size) := show _ < _ by have := hs.size; simp only [World.size_alloc] at this; omega
    have k0 := tN.get 0 rfl
    have k1 := tN.get 1 rfl
    have K0 := HtK.out.get 0 rfl
    have K1 := HtK.out.get 1 rfl
    have cF := HtF.out.get 0 rfl
    have fF := HtF.out.frozen 0
    have cS := HtS.out.get 0 rfl
    have fS := HtS.out.frozen 0
    have cH := HtH.out.get 0 rfl
    have fH := HtH.out.frozen 0
    have cA := HtA.out.get 0 rfl
    have fA := HtA.out.frozen 0
    have cB := HtB.out.get 0 rfl
    have fB := HtB.out.frozen 0
    have cO := HtO.out.get 0 rfl
    have fO := HtO.out.frozen 0
    have cp := Htw.out.1.get 0 rfl
    have cq := Htw.out.2.1.get 0 rfl
    have hz9 := HSZ.out
    have hz8 := HW1.out
    have na1 : ¬ W.heap.size = w5.heap.size + 1 := by omega
    have nb1 : ¬ w.heap.size = w5.heap.size + 1 := by omega
    have nc1 : ¬ w.heap.size + 1 = w5.heap.size + 1 := by omega
    have na2 : ¬ W.heap.size = w5.heap.size + 2 := by omega
    have nb2 : ¬ w.heap.size = w5.heap.size + 2 := by omega
    have nc2 : ¬ w.heap.size + 1 = w5.heap.size + 2 := by omega
    have na3 : ¬ W.heap.size = w5.heap.size + 3 := by omega
    have nb3 : ¬ w.heap.size = w5.heap.size + 3 := by omega
    have nc3 : ¬ w.heap.size + 1 = w5.heap.size + 3 := by omega
    have na4 : ¬ W.heap.size = w5.heap.size + 4 := by omega
    have nb4 : ¬ w.heap.size = w5.heap.size + 4 := by omega
    have nc4 : ¬ w.heap.size + 1 = w5.heap.size + 4 := by omega
    have na5 : ¬ W.heap.size = w5.heap.size + 5 := by omega
    have nb5 : ¬ w.heap.size = w5.heap.size + 5 := by omega
    have nc5 : ¬ w.heap.size + 1 = w5.heap.size + 5 := by omega
    have na6 : ¬ W.heap.size = w5.heap.size + 6 := by omega
    have nb6 : ¬ w.heap.size = w5.heap.size + 6 := by omega
    have nc6 : ¬ w.heap.size + 1 = w5.heap.size + 6 := by omega
    clear hz9 hz8
    clear hs hbA hOB hlt tN HI
    have END : Hid (∀ (X : World) (f' : Bool) (S' A' : Int) (H' B' : Bool), Holds W0.heap.size W2 X → Fr (fun j => w5.heap.size + 1 ≤ j ∧ j ≤ w5.heap.size + 6) W2 X → Blk X (w5.heap.size + 1) 4 #[.bool f'] → Blk X (w5.heap.size + 2) 23 #[.int .u64 S'] → Blk X (w5.heap.size + 3) 4 #[.bool H'] → Blk X (w5.heap.size + 4) 23 #[.int .u64 A'] → Blk X (w5.heap.size + 5) 4 #[.bool B'] → Blk X (w5.heap.size + 6) 4 #[.bool (!f')] →
        (uptoU nm (t.items.take (k + 1))).getD 0 = S' ∧ (uptoU nm (t.items.take (k + 1))).isSome = H' → (sumFrom ofV minV none (t.items.take (k + 1))).getD 0 = A' ∧ (sumFrom ofV minV none (t.items.take (k + 1))).isSome = B' → fndB vl t.items (k + 1) = f' → Holds W0.heap.size W2 X ∧ (fun k W => TrAt wa W T t ∧ Blk W (w5.heap.size + 7) 24 #[.pointer (some ⟨T, 0, none⟩)] ∧ Blk W w5.heap.size 31 #[.int .u64 kq.1, .int .i64 kq.2] ∧ Blk W (w5.heap.size + 1) 4 #[.bool (fndB vl t.items k)] ∧ Blk W (w5.heap.size + 2) 23 #[.int .u64 ((uptoU nm (t.items.take k)).getD 0)] ∧ Blk W (w5.heap.size + 3) 4 #[.bool (uptoU nm (t.items.take k)).isSome] ∧ Blk W (w5.heap.size + 4) 23 #[.int .u64 ((sumFrom ofV minV none (t.items.take k)).getD 0)] ∧ Blk W (w5.heap.size + 5) 4 #[.bool (sumFrom ofV minV none (t.items.take k)).isSome] ∧ Blk W (w5.heap.size + 6) 4 #[.bool (!(fndB vl t.items k))] ∧ (Blk W w.heap.size 23 #[.int .u64 nm] ∧ Blk W (w.heap.size + 1) 23 #[.int .u64 vl] ∧ Blk W (w.heap.size + 2) 4 #[.bool false]) ∧ W0.heap.size ≤ W.heap.size) (k + 1) X) := by
      intro X f' S' A' H' B' hol FX q1 q2 q3 q4 q5 q6 hup hsu hfk
      have hsz := HSZ.out
      have hT2 := HT5.out.is.blk.lt
      have hR2 := RepU.lt HT5.out.is.rep
      refine ⟨hol, ?_, ?_, ?_, ?_, ?_, ?_, ?_, ?_, ?_, ?_, ?_⟩
      · exact ⟨Ht1.out.is.fr FX (by show ¬ (_ ∧ _); omega) (fun x hx => by have := hR2 x hx; show ¬ (_ ∧ _); omega), Ht1.out.ge, Ht1.out.bl, Ht1.out.below.trans (FX.below Ht1.out.below.size (fun j hj hn => by have := HW1.out; omega))⟩
      · exact HtE.out.fr FX (by show ¬ (_ ∧ _); omega)
      · exact HtK.out.fr FX (by show ¬ (_ ∧ _); omega)
      · rw [hfk]; exact q1
      · rw [hup.1]; exact q2
      · rw [hup.2]; exact q3
      · rw [hsu.1]; exact q4
      · rw [hsu.2]; exact q5
      · rw [hfk]; exact q6
      · exact ⟨Htw.out.1.fr FX (by have := HW1.out; show ¬ (_ ∧ _); omega), Htw.out.2.1.fr FX (by have := HW1.out; show ¬ (_ ∧ _); omega), Htw.out.2.2.fr FX (by have := HW1.out; show ¬ (_ ∧ _); omega)⟩
      · exact Nat.le_trans (by have := H10.out; omega) FX.size
    by_cases hc1 : kk.1 ≤ nm
    · have HC1 := Lib.hid hc1
      have d1 : decide (kk.1 ≤ nm) = true := decide_eq_true hc1
      clear hc1
      cases had with
      | false =>
        cases has with
        | false =>
          cases fb with
          | true =>
            by_cases hc4 : vv ≤ vl
            · have HC4 := Lib.hid hc4
              have d4 : decide (vv ≤ vl) = true := decide_eq_true hc4
              have hkk : kq = kk := by
                have h := HFV.out
                unfold fndB at h
                simp only [Bool.and_eq_true, Bool.not_eq_true'] at h
                rw [← HKQ.out, find_here HT5.out.is.rises HQ.out.1 h.2 hc4]
                rfl
              have g1 : kq.1 = kk.1 := by rw [hkk]
              have g2 : kq.2 = kk.2 := by rw [hkk]
              rw [g1] at K0
              rw [g2] at K1
              clear hc4 hkk g1 g2
              gi_wp2
              have hup : (uptoU nm (t.items.take (k + 1))).getD 0 = vv ∧ (uptoU nm (t.items.take (k + 1))).isSome = true := by rw [upto_step HQ.out.1, if_pos (show kk.1 ≤ nm by have := HC1.out; omega), show more minV _ _ = _ from opt_none HSV.out.2 vv]; exact ⟨rfl, rfl⟩
              have hsu : (sumFrom ofV minV none (t.items.take (k + 1))).getD 0 = vv ∧ (sumFrom ofV minV none (t.items.take (k + 1))).isSome = true := by rw [sum_step HQ.out.1, show more minV _ _ = _ from opt_none HAV.out.2 vv]; exact ⟨rfl, rfl⟩
              have hfk : fndB vl t.items (k + 1) = false := by unfold fndB; rw [any_step HQ.out.1, show decide ((kk, vv).2 ≤ vl) = true from decide_eq_true (show vv ≤ vl by have := HC4.out; omega)]; simp
              have ho := HtO.out
              try simp only [Bool.not_true, Bool.not_false] at ho
              refine END.out ((((((W2.setCell ⟨w5.heap.size + 2, 0, none⟩ (.int .u64 vv)).setCell ⟨w5.heap.size + 3, 0, none⟩ (.bool true)).setCell ⟨w5.heap.size + 4, 0, none⟩ (.int .u64 vv)).setCell ⟨w5.heap.size + 5, 0, none⟩ (.bool true)).setCell ⟨w5.heap.size + 6, 0, none⟩ (.bool true)).setCell ⟨w5.heap.size + 1, 0, none⟩ (.bool false)) false (vv) (vv) true true (holN HSZ.out (j := 1) (by decide) (holN HSZ.out (j := 6) (by decide) (holN HSZ.out (j := 5) (by decide) (holN HSZ.out (j := 4) (by decide) (holN HSZ.out (j := 3) (by decide) (holN HSZ.out (j := 2) (by decide) (Holds.refl H10.out))))))) ((frN (j := 1) (by decide) (by decide) ((frN (j := 6) (by decide) (by decide) ((frN (j := 5) (by decide) (by decide) ((frN (j := 4) (by decide) (by decide) ((frN (j := 3) (by decide) (by decide) ((frN (j := 2) (by decide) (by decide) (Fr.refl (fun j => w5.heap.size + 1 ≤ j ∧ j ≤ w5.heap.size + 6) W2))))))))))))) ?_ ?_ ?_ ?_ ?_ ?_ hup hsu hfk
              all_goals try simp only [Bool.not_true, Bool.not_false]
              all_goals repeat' (with_reducible first | exact HtF.out | exact HtS.out | exact HtH.out | exact HtA.out | exact HtB.out | exact ho | apply putN | (refine farN ?_ (by decide)))
            · have HC4 := Lib.hid hc4
              have hkk : kq ≠ kk := by
                have h := HFV.out
                unfold fndB at h
                simp only [Bool.and_eq_true, Bool.not_eq_true'] at h
                rw [← HKQ.out]
                exact find_not HT5.out.is.rises HQ.out.1 hc4 h.1
              have d4 : decide (vv ≤ vl) = false := decide_eq_false hc4
              clear hc4
              by_cases g1 : kk.1 = kq.1
              · have g2 : (kk.2 == kq.2) = false := beq_eq_false_iff_ne.2 (fun e => hkk (Prod.ext g1.symm e.symm))
                rw [← g1] at K0
                clear g1 hkk
                gi_wp2
                have hup : (uptoU nm (t.items.take (k + 1))).getD 0 = vv ∧ (uptoU nm (t.items.take (k + 1))).isSome = true := by rw [upto_step HQ.out.1, if_pos (show kk.1 ≤ nm by have := HC1.out; omega), show more minV _ _ = _ from opt_none HSV.out.2 vv]; exact ⟨rfl, rfl⟩
                have hsu : (sumFrom ofV minV none (t.items.take (k + 1))).getD 0 = vv ∧ (sumFrom ofV minV none (t.items.take (k + 1))).isSome = true := by rw [sum_step HQ.out.1, show more minV _ _ = _ from opt_none HAV.out.2 vv]; exact ⟨rfl, rfl⟩
                have hfk : fndB vl t.items (k + 1) = true := by unfold fndB; rw [any_step HQ.out.1, show decide ((kk, vv).2 ≤ vl) = false from decide_eq_false (show ¬ vv ≤ vl by have := HC4.out; omega), Bool.or_false]; exact (show (anyTo vl t.items && !anyTo vl (t.items.take k)) = true from HFV.out)
                have ho := HtO.out
                try simp only [Bool.not_true, Bool.not_false] at ho
                refine END.out ((((W2.setCell ⟨w5.heap.size + 2, 0, none⟩ (.int .u64 vv)).setCell ⟨w5.heap.size + 3, 0, none⟩ (.bool true)).setCell ⟨w5.heap.size + 4, 0, none⟩ (.int .u64 vv)).setCell ⟨w5.heap.size + 5, 0, none⟩ (.bool true)) true (vv) (vv) true true (holN HSZ.out (j := 5) (by decide) (holN HSZ.out (j := 4) (by decide) (holN HSZ.out (j := 3) (by decide) (holN HSZ.out (j := 2) (by decide) (Holds.refl H10.out))))) ((frN (j := 5) (by decide) (by decide) ((frN (j := 4) (by decide) (by decide) ((frN (j := 3) (by decide) (by decide) ((frN (j := 2) (by decide) (by decide) (Fr.refl (fun j => w5.heap.size + 1 ≤ j ∧ j ≤ w5.heap.size + 6) W2))))))))) ?_ ?_ ?_ ?_ ?_ ?_ hup hsu hfk
                all_goals try simp only [Bool.not_true, Bool.not_false]
                all_goals repeat' (with_reducible first | exact HtF.out | exact HtS.out | exact HtH.out | exact HtA.out | exact HtB.out | exact ho | apply putN | (refine farN ?_ (by decide)))
              · have g2 : (kk.1 == kq.1) = false := beq_eq_false_iff_ne.2 g1
                clear g1 hkk
                gi_wp2
                have hup : (uptoU nm (t.items.take (k + 1))).getD 0 = vv ∧ (uptoU nm (t.items.take (k + 1))).isSome = true := by rw [upto_step HQ.out.1, if_pos (show kk.1 ≤ nm by have := HC1.out; omega), show more minV _ _ = _ from opt_none HSV.out.2 vv]; exact ⟨rfl, rfl⟩
                have hsu : (sumFrom ofV minV none (t.items.take (k + 1))).getD 0 = vv ∧ (sumFrom ofV minV none (t.items.take (k + 1))).isSome = true := by rw [sum_step HQ.out.1, show more minV _ _ = _ from opt_none HAV.out.2 vv]; exact ⟨rfl, rfl⟩
                have hfk : fndB vl t.items (k + 1) = true := by unfold fndB; rw [any_step HQ.out.1, show decide ((kk, vv).2 ≤ vl) = false from decide_eq_false (show ¬ vv ≤ vl by have := HC4.out; omega), Bool.or_false]; exact (show (anyTo vl t.items && !anyTo vl (t.items.take k)) = true from HFV.out)
                have ho := HtO.out
                try simp only [Bool.not_true, Bool.not_false] at ho
                refine END.out ((((W2.setCell ⟨w5.heap.size + 2, 0, none⟩ (.int .u64 vv)).setCell ⟨w5.heap.size + 3, 0, none⟩ (.bool true)).setCell ⟨w5.heap.size + 4, 0, none⟩ (.int .u64 vv)).setCell ⟨w5.heap.size + 5, 0, none⟩ (.bool true)) true (vv) (vv) true true (holN HSZ.out (j := 5) (by decide) (holN HSZ.out (j := 4) (by decide) (holN HSZ.out (j := 3) (by decide) (holN HSZ.out (j := 2) (by decide) (Holds.refl H10.out))))) ((frN (j := 5) (by decide) (by decide) ((frN (j := 4) (by decide) (by decide) ((frN (j := 3) (by decide) (by decide) ((frN (j := 2) (by decide) (by decide) (Fr.refl (fun j => w5.heap.size + 1 ≤ j ∧ j ≤ w5.heap.size + 6) W2))))))))) ?_ ?_ ?_ ?_ ?_ ?_ hup hsu hfk
                all_goals try simp only [Bool.not_true, Bool.not_false]
                all_goals repeat' (with_reducible first | exact HtF.out | exact HtS.out | exact HtH.out | exact HtA.out | exact HtB.out | exact ho | apply putN | (refine farN ?_ (by decide)))
          | false =>
            by_cases g1 : kq.1 = 0
            · rw [g1] at K0
              by_cases g2 : kq.2 = 0
              · rw [g2] at K1
                clear g1 g2
                by_cases hc4 : vv ≤ vl
                · have d4 : decide (vv ≤ vl) = true := decide_eq_true hc4
                  clear hc4
                  gi_wp2
                  have hup : (uptoU nm (t.items.take (k + 1))).getD 0 = vv ∧ (uptoU nm (t.items.take (k + 1))).isSome = true := by rw [upto_step HQ.out.1, if_pos (show kk.1 ≤ nm by have := HC1.out; omega), show more minV _ _ = _ from opt_none HSV.out.2 vv]; exact ⟨rfl, rfl⟩
                  have hsu : (sumFrom ofV minV none (t.items.take (k + 1))).getD 0 = vv ∧ (sumFrom ofV minV none (t.items.take (k + 1))).isSome = true := by rw [sum_step HQ.out.1, show more minV _ _ = _ from opt_none HAV.out.2 vv]; exact ⟨rfl, rfl⟩
                  have hfk : fndB vl t.items (k + 1) = false := by unfold fndB; rw [any_step HQ.out.1]; have h := HFV.out; unfold fndB at h; revert h; cases anyTo vl t.items <;> cases anyTo vl (t.items.take k) <;> simp
                  have ho := HtO.out
                  try simp only [Bool.not_true, Bool.not_false] at ho
                  refine END.out ((((W2.setCell ⟨w5.heap.size + 2, 0, none⟩ (.int .u64 vv)).setCell ⟨w5.heap.size + 3, 0, none⟩ (.bool true)).setCell ⟨w5.heap.size + 4, 0, none⟩ (.int .u64 vv)).setCell ⟨w5.heap.size + 5, 0, none⟩ (.bool true)) false (vv) (vv) true true (holN HSZ.out (j := 5) (by decide) (holN HSZ.out (j := 4) (by decide) (holN HSZ.out (j := 3) (by decide) (holN HSZ.out (j := 2) (by decide) (Holds.refl H10.out))))) ((frN (j := 5) (by decide) (by decide) ((frN (j := 4) (by decide) (by decide) ((frN (j := 3) (by decide) (by decide) ((frN (j := 2) (by decide) (by decide) (Fr.refl (fun j => w5.heap.size + 1 ≤ j ∧ j ≤ w5.heap.size + 6) W2))))))))) ?_ ?_ ?_ ?_ ?_ ?_ hup hsu hfk
                  all_goals try simp only [Bool.not_true, Bool.not_false]
                  all_goals repeat' (with_reducible first | exact HtF.out | exact HtS.out | exact HtH.out | exact HtA.out | exact HtB.out | exact ho | apply putN | (refine farN ?_ (by decide)))
                · have d4 : decide (vv ≤ vl) = false := decide_eq_false hc4
                  clear hc4
                  gi_wp2
                  have hup : (uptoU nm (t.items.take (k + 1))).getD 0 = vv ∧ (uptoU nm (t.items.take (k + 1))).isSome = true := by rw [upto_step HQ.out.1, if_pos (show kk.1 ≤ nm by have := HC1.out; omega), show more minV _ _ = _ from opt_none HSV.out.2 vv]; exact ⟨rfl, rfl⟩
                  have hsu : (sumFrom ofV minV none (t.items.take (k + 1))).getD 0 = vv ∧ (sumFrom ofV minV none (t.items.take (k + 1))).isSome = true := by rw [sum_step HQ.out.1, show more minV _ _ = _ from opt_none HAV.out.2 vv]; exact ⟨rfl, rfl⟩
                  have hfk : fndB vl t.items (k + 1) = false := by unfold fndB; rw [any_step HQ.out.1]; have h := HFV.out; unfold fndB at h; revert h; cases anyTo vl t.items <;> cases anyTo vl (t.items.take k) <;> simp
                  have ho := HtO.out
                  try simp only [Bool.not_true, Bool.not_false] at ho
                  refine END.out ((((W2.setCell ⟨w5.heap.size + 2, 0, none⟩ (.int .u64 vv)).setCell ⟨w5.heap.size + 3, 0, none⟩ (.bool true)).setCell ⟨w5.heap.size + 4, 0, none⟩ (.int .u64 vv)).setCell ⟨w5.heap.size + 5, 0, none⟩ (.bool true)) false (vv) (vv) true true (holN HSZ.out (j := 5) (by decide) (holN HSZ.out (j := 4) (by decide) (holN HSZ.out (j := 3) (by decide) (holN HSZ.out (j := 2) (by decide) (Holds.refl H10.out))))) ((frN (j := 5) (by decide) (by decide) ((frN (j := 4) (by decide) (by decide) ((frN (j := 3) (by decide) (by decide) ((frN (j := 2) (by decide) (by decide) (Fr.refl (fun j => w5.heap.size + 1 ≤ j ∧ j ≤ w5.heap.size + 6) W2))))))))) ?_ ?_ ?_ ?_ ?_ ?_ hup hsu hfk
                  all_goals try simp only [Bool.not_true, Bool.not_false]
                  all_goals repeat' (with_reducible first | exact HtF.out | exact HtS.out | exact HtH.out | exact HtA.out | exact HtB.out | exact ho | apply putN | (refine farN ?_ (by decide)))
              · have g3 : (kq.2 == 0) = false := beq_eq_false_iff_ne.2 g2
                clear g1 g2
                gi_wp2
                have hup : (uptoU nm (t.items.take (k + 1))).getD 0 = vv ∧ (uptoU nm (t.items.take (k + 1))).isSome = true := by rw [upto_step HQ.out.1, if_pos (show kk.1 ≤ nm by have := HC1.out; omega), show more minV _ _ = _ from opt_none HSV.out.2 vv]; exact ⟨rfl, rfl⟩
                have hsu : (sumFrom ofV minV none (t.items.take (k + 1))).getD 0 = vv ∧ (sumFrom ofV minV none (t.items.take (k + 1))).isSome = true := by rw [sum_step HQ.out.1, show more minV _ _ = _ from opt_none HAV.out.2 vv]; exact ⟨rfl, rfl⟩
                have hfk : fndB vl t.items (k + 1) = false := by unfold fndB; rw [any_step HQ.out.1]; have h := HFV.out; unfold fndB at h; revert h; cases anyTo vl t.items <;> cases anyTo vl (t.items.take k) <;> simp
                have ho := HtO.out
                try simp only [Bool.not_true, Bool.not_false] at ho
                refine END.out ((((W2.setCell ⟨w5.heap.size + 2, 0, none⟩ (.int .u64 vv)).setCell ⟨w5.heap.size + 3, 0, none⟩ (.bool true)).setCell ⟨w5.heap.size + 4, 0, none⟩ (.int .u64 vv)).setCell ⟨w5.heap.size + 5, 0, none⟩ (.bool true)) false (vv) (vv) true true (holN HSZ.out (j := 5) (by decide) (holN HSZ.out (j := 4) (by decide) (holN HSZ.out (j := 3) (by decide) (holN HSZ.out (j := 2) (by decide) (Holds.refl H10.out))))) ((frN (j := 5) (by decide) (by decide) ((frN (j := 4) (by decide) (by decide) ((frN (j := 3) (by decide) (by decide) ((frN (j := 2) (by decide) (by decide) (Fr.refl (fun j => w5.heap.size + 1 ≤ j ∧ j ≤ w5.heap.size + 6) W2))))))))) ?_ ?_ ?_ ?_ ?_ ?_ hup hsu hfk
                all_goals try simp only [Bool.not_true, Bool.not_false]
                all_goals repeat' (with_reducible first | exact HtF.out | exact HtS.out | exact HtH.out | exact HtA.out | exact HtB.out | exact ho | apply putN | (refine farN ?_ (by decide)))
            · have g3 : (kq.1 == 0) = false := beq_eq_false_iff_ne.2 g1
              clear g1
              gi_wp2
              have hup : (uptoU nm (t.items.take (k + 1))).getD 0 = vv ∧ (uptoU nm (t.items.take (k + 1))).isSome = true := by rw [upto_step HQ.out.1, if_pos (show kk.1 ≤ nm by have := HC1.out; omega), show more minV _ _ = _ from opt_none HSV.out.2 vv]; exact ⟨rfl, rfl⟩
              have hsu : (sumFrom ofV minV none (t.items.take (k + 1))).getD 0 = vv ∧ (sumFrom ofV minV none (t.items.take (k + 1))).isSome = true := by rw [sum_step HQ.out.1, show more minV _ _ = _ from opt_none HAV.out.2 vv]; exact ⟨rfl, rfl⟩
              have hfk : fndB vl t.items (k + 1) = false := by unfold fndB; rw [any_step HQ.out.1]; have h := HFV.out; unfold fndB at h; revert h; cases anyTo vl t.items <;> cases anyTo vl (t.items.take k) <;> simp
              have ho := HtO.out
              try simp only [Bool.not_true, Bool.not_false] at ho
              refine END.out ((((W2.setCell ⟨w5.heap.size + 2, 0, none⟩ (.int .u64 vv)).setCell ⟨w5.heap.size + 3, 0, none⟩ (.bool true)).setCell ⟨w5.heap.size + 4, 0, none⟩ (.int .u64 vv)).setCell ⟨w5.heap.size + 5, 0, none⟩ (.bool true)) false (vv) (vv) true true (holN HSZ.out (j := 5) (by decide) (holN HSZ.out (j := 4) (by decide) (holN HSZ.out (j := 3) (by decide) (holN HSZ.out (j := 2) (by decide) (Holds.refl H10.out))))) ((frN (j := 5) (by decide) (by decide) ((frN (j := 4) (by decide) (by decide) ((frN (j := 3) (by decide) (by decide) ((frN (j := 2) (by decide) (by decide) (Fr.refl (fun j => w5.heap.size + 1 ≤ j ∧ j ≤ w5.heap.size + 6) W2))))))))) ?_ ?_ ?_ ?_ ?_ ?_ hup hsu hfk
              all_goals try simp only [Bool.not_true, Bool.not_false]
              all_goals repeat' (with_reducible first | exact HtF.out | exact HtS.out | exact HtH.out | exact HtA.out | exact HtB.out | exact ho | apply putN | (refine farN ?_ (by decide)))
        | true =>
          by_cases hc3 : vv < a0
          · have HC3 := Lib.hid hc3
            have d3 : decide (vv < a0) = true := decide_eq_true hc3
            clear hc3
            cases fb with
            | true =>
              by_cases hc4 : vv ≤ vl
              · have HC4 := Lib.hid hc4
                have d4 : decide (vv ≤ vl) = true := decide_eq_true hc4
                have hkk : kq = kk := by
                  have h := HFV.out
                  unfold fndB at h
                  simp only [Bool.and_eq_true, Bool.not_eq_true'] at h
                  rw [← HKQ.out, find_here HT5.out.is.rises HQ.out.1 h.2 hc4]
                  rfl
                have g1 : kq.1 = kk.1 := by rw [hkk]
                have g2 : kq.2 = kk.2 := by rw [hkk]
                rw [g1] at K0
                rw [g2] at K1
                clear hc4 hkk g1 g2
                gi_wp2
                have hup : (uptoU nm (t.items.take (k + 1))).getD 0 = vv ∧ (uptoU nm (t.items.take (k + 1))).isSome = true := by rw [upto_step HQ.out.1, if_pos (show kk.1 ≤ nm by have := HC1.out; omega), show more minV _ _ = _ from opt_none HSV.out.2 vv]; exact ⟨rfl, rfl⟩
                have hsu : (sumFrom ofV minV none (t.items.take (k + 1))).getD 0 = vv ∧ (sumFrom ofV minV none (t.items.take (k + 1))).isSome = true := by rw [sum_step HQ.out.1, show more minV _ _ = _ from opt_less HAV.out.2 HAV.out.1 (by have := HC3.out; omega)]; exact ⟨rfl, rfl⟩
                have hfk : fndB vl t.items (k + 1) = false := by unfold fndB; rw [any_step HQ.out.1, show decide ((kk, vv).2 ≤ vl) = true from decide_eq_true (show vv ≤ vl by have := HC4.out; omega)]; simp
                have ho := HtO.out
                try simp only [Bool.not_true, Bool.not_false] at ho
                refine END.out ((((((W2.setCell ⟨w5.heap.size + 2, 0, none⟩ (.int .u64 vv)).setCell ⟨w5.heap.size + 3, 0, none⟩ (.bool true)).setCell ⟨w5.heap.size + 4, 0, none⟩ (.int .u64 vv)).setCell ⟨w5.heap.size + 5, 0, none⟩ (.bool true)).setCell ⟨w5.heap.size + 6, 0, none⟩ (.bool true)).setCell ⟨w5.heap.size + 1, 0, none⟩ (.bool false)) false (vv) (vv) true true (holN HSZ.out (j := 1) (by decide) (holN HSZ.out (j := 6) (by decide) (holN HSZ.out (j := 5) (by decide) (holN HSZ.out (j := 4) (by decide) (holN HSZ.out (j := 3) (by decide) (holN HSZ.out (j := 2) (by decide) (Holds.refl H10.out))))))) ((frN (j := 1) (by decide) (by decide) ((frN (j := 6) (by decide) (by decide) ((frN (j := 5) (by decide) (by decide) ((frN (j := 4) (by decide) (by decide) ((frN (j := 3) (by decide) (by decide) ((frN (j := 2) (by decide) (by decide) (Fr.refl (fun j => w5.heap.size + 1 ≤ j ∧ j ≤ w5.heap.size + 6) W2))))))))))))) ?_ ?_ ?_ ?_ ?_ ?_ hup hsu hfk
                all_goals try simp only [Bool.not_true, Bool.not_false]
                all_goals repeat' (with_reducible first | exact HtF.out | exact HtS.out | exact HtH.out | exact HtA.out | exact HtB.out | exact ho | apply putN | (refine farN ?_ (by decide)))
              · have HC4 := Lib.hid hc4
                have hkk : kq ≠ kk := by
                  have h := HFV.out
                  unfold fndB at h
                  simp only [Bool.and_eq_true, Bool.not_eq_true'] at h
                  rw [← HKQ.out]
                  exact find_not HT5.out.is.rises HQ.out.1 hc4 h.1
                have d4 : decide (vv ≤ vl) = false := decide_eq_false hc4
                clear hc4
                by_cases g1 : kk.1 = kq.1
                · have g2 : (kk.2 == kq.2) = false := beq_eq_false_iff_ne.2 (fun e => hkk (Prod.ext g1.symm e.symm))
                  rw [← g1] at K0
                  clear g1 hkk
                  gi_wp2
                  have hup : (uptoU nm (t.items.take (k + 1))).getD 0 = vv ∧ (uptoU nm (t.items.take (k + 1))).isSome = true := by rw [upto_step HQ.out.1, if_pos (show kk.1 ≤ nm by have := HC1.out; omega), show more minV _ _ = _ from opt_none HSV.out.2 vv]; exact ⟨rfl, rfl⟩
                  have hsu : (sumFrom ofV minV none (t.items.take (k + 1))).getD 0 = vv ∧ (sumFrom ofV minV none (t.items.take (k + 1))).isSome = true := by rw [sum_step HQ.out.1, show more minV _ _ = _ from opt_less HAV.out.2 HAV.out.1 (by have := HC3.out; omega)]; exact ⟨rfl, rfl⟩
                  have hfk : fndB vl t.items (k + 1) = true := by unfold fndB; rw [any_step HQ.out.1, show decide ((kk, vv).2 ≤ vl) = false from decide_eq_false (show ¬ vv ≤ vl by have := HC4.out; omega), Bool.or_false]; exact (show (anyTo vl t.items && !anyTo vl (t.items.take k)) = true from HFV.out)
                  have ho := HtO.out
                  try simp only [Bool.not_true, Bool.not_false] at ho
                  refine END.out ((((W2.setCell ⟨w5.heap.size + 2, 0, none⟩ (.int .u64 vv)).setCell ⟨w5.heap.size + 3, 0, none⟩ (.bool true)).setCell ⟨w5.heap.size + 4, 0, none⟩ (.int .u64 vv)).setCell ⟨w5.heap.size + 5, 0, none⟩ (.bool true)) true (vv) (vv) true true (holN HSZ.out (j := 5) (by decide) (holN HSZ.out (j := 4) (by decide) (holN HSZ.out (j := 3) (by decide) (holN HSZ.out (j := 2) (by decide) (Holds.refl H10.out))))) ((frN (j := 5) (by decide) (by decide) ((frN (j := 4) (by decide) (by decide) ((frN (j := 3) (by decide) (by decide) ((frN (j := 2) (by decide) (by decide) (Fr.refl (fun j => w5.heap.size + 1 ≤ j ∧ j ≤ w5.heap.size + 6) W2))))))))) ?_ ?_ ?_ ?_ ?_ ?_ hup hsu hfk
                  all_goals try simp only [Bool.not_true, Bool.not_false]
                  all_goals repeat' (with_reducible first | exact HtF.out | exact HtS.out | exact HtH.out | exact HtA.out | exact HtB.out | exact ho | apply putN | (refine farN ?_ (by decide)))
                · have g2 : (kk.1 == kq.1) = false := beq_eq_false_iff_ne.2 g1
                  clear g1 hkk
                  gi_wp2
                  have hup : (uptoU nm (t.items.take (k + 1))).getD 0 = vv ∧ (uptoU nm (t.items.take (k + 1))).isSome = true := by rw [upto_step HQ.out.1, if_pos (show kk.1 ≤ nm by have := HC1.out; omega), show more minV _ _ = _ from opt_none HSV.out.2 vv]; exact ⟨rfl, rfl⟩
                  have hsu : (sumFrom ofV minV none (t.items.take (k + 1))).getD 0 = vv ∧ (sumFrom ofV minV none (t.items.take (k + 1))).isSome = true := by rw [sum_step HQ.out.1, show more minV _ _ = _ from opt_less HAV.out.2 HAV.out.1 (by have := HC3.out; omega)]; exact ⟨rfl, rfl⟩
                  have hfk : fndB vl t.items (k + 1) = true := by unfold fndB; rw [any_step HQ.out.1, show decide ((kk, vv).2 ≤ vl) = false from decide_eq_false (show ¬ vv ≤ vl by have := HC4.out; omega), Bool.or_false]; exact (show (anyTo vl t.items && !anyTo vl (t.items.take k)) = true from HFV.out)
                  have ho := HtO.out
                  try simp only [Bool.not_true, Bool.not_false] at ho
                  refine END.out ((((W2.setCell ⟨w5.heap.size + 2, 0, none⟩ (.int .u64 vv)).setCell ⟨w5.heap.size + 3, 0, none⟩ (.bool true)).setCell ⟨w5.heap.size + 4, 0, none⟩ (.int .u64 vv)).setCell ⟨w5.heap.size + 5, 0, none⟩ (.bool true)) true (vv) (vv) true true (holN HSZ.out (j := 5) (by decide) (holN HSZ.out (j := 4) (by decide) (holN HSZ.out (j := 3) (by decide) (holN HSZ.out (j := 2) (by decide) (Holds.refl H10.out))))) ((frN (j := 5) (by decide) (by decide) ((frN (j := 4) (by decide) (by decide) ((frN (j := 3) (by decide) (by decide) ((frN (j := 2) (by decide) (by decide) (Fr.refl (fun j => w5.heap.size + 1 ≤ j ∧ j ≤ w5.heap.size + 6) W2))))))))) ?_ ?_ ?_ ?_ ?_ ?_ hup hsu hfk
                  all_goals try simp only [Bool.not_true, Bool.not_false]
                  all_goals repeat' (with_reducible first | exact HtF.out | exact HtS.out | exact HtH.out | exact HtA.out | exact HtB.out | exact ho | apply putN | (refine farN ?_ (by decide)))
            | false =>
              by_cases g1 : kq.1 = 0
              · rw [g1] at K0
                by_cases g2 : kq.2 = 0
                · rw [g2] at K1
                  clear g1 g2
                  by_cases hc4 : vv ≤ vl
                  · have d4 : decide (vv ≤ vl) = true := decide_eq_true hc4
                    clear hc4
                    gi_wp2
                    have hup : (uptoU nm (t.items.take (k + 1))).getD 0 = vv ∧ (uptoU nm (t.items.take (k + 1))).isSome = true := by rw [upto_step HQ.out.1, if_pos (show kk.1 ≤ nm by have := HC1.out; omega), show more minV _ _ = _ from opt_none HSV.out.2 vv]; exact ⟨rfl, rfl⟩
                    have hsu : (sumFrom ofV minV none (t.items.take (k + 1))).getD 0 = vv ∧ (sumFrom ofV minV none (t.items.take (k + 1))).isSome = true := by rw [sum_step HQ.out.1, show more minV _ _ = _ from opt_less HAV.out.2 HAV.out.1 (by have := HC3.out; omega)]; exact ⟨rfl, rfl⟩
                    have hfk : fndB vl t.items (k + 1) = false := by unfold fndB; rw [any_step HQ.out.1]; have h := HFV.out; unfold fndB at h; revert h; cases anyTo vl t.items <;> cases anyTo vl (t.items.take k) <;> simp
                    have ho := HtO.out
                    try simp only [Bool.not_true, Bool.not_false] at ho
                    refine END.out ((((W2.setCell ⟨w5.heap.size + 2, 0, none⟩ (.int .u64 vv)).setCell ⟨w5.heap.size + 3, 0, none⟩ (.bool true)).setCell ⟨w5.heap.size + 4, 0, none⟩ (.int .u64 vv)).setCell ⟨w5.heap.size + 5, 0, none⟩ (.bool true)) false (vv) (vv) true true (holN HSZ.out (j := 5) (by decide) (holN HSZ.out (j := 4) (by decide) (holN HSZ.out (j := 3) (by decide) (holN HSZ.out (j := 2) (by decide) (Holds.refl H10.out))))) ((frN (j := 5) (by decide) (by decide) ((frN (j := 4) (by decide) (by decide) ((frN (j := 3) (by decide) (by decide) ((frN (j := 2) (by decide) (by decide) (Fr.refl (fun j => w5.heap.size + 1 ≤ j ∧ j ≤ w5.heap.size + 6) W2))))))))) ?_ ?_ ?_ ?_ ?_ ?_ hup hsu hfk
                    all_goals try simp only [Bool.not_true, Bool.not_false]
                    all_goals repeat' (with_reducible first | exact HtF.out | exact HtS.out | exact HtH.out | exact HtA.out | exact HtB.out | exact ho | apply putN | (refine farN ?_ (by decide)))
                  · have d4 : decide (vv ≤ vl) = false := decide_eq_false hc4
                    clear hc4
                    gi_wp2
                    have hup : (uptoU nm (t.items.take (k + 1))).getD 0 = vv ∧ (uptoU nm (t.items.take (k + 1))).isSome = true := by rw [upto_step HQ.out.1, if_pos (show kk.1 ≤ nm by have := HC1.out; omega), show more minV _ _ = _ from opt_none HSV.out.2 vv]; exact ⟨rfl, rfl⟩
                    have hsu : (sumFrom ofV minV none (t.items.take (k + 1))).getD 0 = vv ∧ (sumFrom ofV minV none (t.items.take (k + 1))).isSome = true := by rw [sum_step HQ.out.1, show more minV _ _ = _ from opt_less HAV.out.2 HAV.out.1 (by have := HC3.out; omega)]; exact ⟨rfl, rfl⟩
                    have hfk : fndB vl t.items (k + 1) = false := by unfold fndB; rw [any_step HQ.out.1]; have h := HFV.out; unfold fndB at h; revert h; cases anyTo vl t.items <;> cases anyTo vl (t.items.take k) <;> simp
                    have ho := HtO.out
                    try simp only [Bool.not_true, Bool.not_false] at ho
                    refine END.out ((((W2.setCell ⟨w5.heap.size + 2, 0, none⟩ (.int .u64 vv)).setCell ⟨w5.heap.size + 3, 0, none⟩ (.bool true)).setCell ⟨w5.heap.size + 4, 0, none⟩ (.int .u64 vv)).setCell ⟨w5.heap.size + 5, 0, none⟩ (.bool true)) false (vv) (vv) true true (holN HSZ.out (j := 5) (by decide) (holN HSZ.out (j := 4) (by decide) (holN HSZ.out (j := 3) (by decide) (holN HSZ.out (j := 2) (by decide) (Holds.refl H10.out))))) ((frN (j := 5) (by decide) (by decide) ((frN (j := 4) (by decide) (by decide) ((frN (j := 3) (by decide) (by decide) ((frN (j := 2) (by decide) (by decide) (Fr.refl (fun j => w5.heap.size + 1 ≤ j ∧ j ≤ w5.heap.size + 6) W2))))))))) ?_ ?_ ?_ ?_ ?_ ?_ hup hsu hfk
                    all_goals try simp only [Bool.not_true, Bool.not_false]
                    all_goals repeat' (with_reducible first | exact HtF.out | exact HtS.out | exact HtH.out | exact HtA.out | exact HtB.out | exact ho | apply putN | (refine farN ?_ (by decide)))
                · have g3 : (kq.2 == 0) = false := beq_eq_false_iff_ne.2 g2
                  clear g1 g2
                  gi_wp2
                  have hup : (uptoU nm (t.items.take (k + 1))).getD 0 = vv ∧ (uptoU nm (t.items.take (k + 1))).isSome = true := by rw [upto_step HQ.out.1, if_pos (show kk.1 ≤ nm by have := HC1.out; omega), show more minV _ _ = _ from opt_none HSV.out.2 vv]; exact ⟨rfl, rfl⟩
                  have hsu : (sumFrom ofV minV none (t.items.take (k + 1))).getD 0 = vv ∧ (sumFrom ofV minV none (t.items.take (k + 1))).isSome = true := by rw [sum_step HQ.out.1, show more minV _ _ = _ from opt_less HAV.out.2 HAV.out.1 (by have := HC3.out; omega)]; exact ⟨rfl, rfl⟩
                  have hfk : fndB vl t.items (k + 1) = false := by unfold fndB; rw [any_step HQ.out.1]; have h := HFV.out; unfold fndB at h; revert h; cases anyTo vl t.items <;> cases anyTo vl (t.items.take k) <;> simp
                  have ho := HtO.out
                  try simp only [Bool.not_true, Bool.not_false] at ho
                  refine END.out ((((W2.setCell ⟨w5.heap.size + 2, 0, none⟩ (.int .u64 vv)).setCell ⟨w5.heap.size + 3, 0, none⟩ (.bool true)).setCell ⟨w5.heap.size + 4, 0, none⟩ (.int .u64 vv)).setCell ⟨w5.heap.size + 5, 0, none⟩ (.bool true)) false (vv) (vv) true true (holN HSZ.out (j := 5) (by decide) (holN HSZ.out (j := 4) (by decide) (holN HSZ.out (j := 3) (by decide) (holN HSZ.out (j := 2) (by decide) (Holds.refl H10.out))))) ((frN (j := 5) (by decide) (by decide) ((frN (j := 4) (by decide) (by decide) ((frN (j := 3) (by decide) (by decide) ((frN (j := 2) (by decide) (by decide) (Fr.refl (fun j => w5.heap.size + 1 ≤ j ∧ j ≤ w5.heap.size + 6) W2))))))))) ?_ ?_ ?_ ?_ ?_ ?_ hup hsu hfk
                  all_goals try simp only [Bool.not_true, Bool.not_false]
                  all_goals repeat' (with_reducible first | exact HtF.out | exact HtS.out | exact HtH.out | exact HtA.out | exact HtB.out | exact ho | apply putN | (refine farN ?_ (by decide)))
              · have g3 : (kq.1 == 0) = false := beq_eq_false_iff_ne.2 g1
                clear g1
                gi_wp2
                have hup : (uptoU nm (t.items.take (k + 1))).getD 0 = vv ∧ (uptoU nm (t.items.take (k + 1))).isSome = true := by rw [upto_step HQ.out.1, if_pos (show kk.1 ≤ nm by have := HC1.out; omega), show more minV _ _ = _ from opt_none HSV.out.2 vv]; exact ⟨rfl, rfl⟩
                have hsu : (sumFrom ofV minV none (t.items.take (k + 1))).getD 0 = vv ∧ (sumFrom ofV minV none (t.items.take (k + 1))).isSome = true := by rw [sum_step HQ.out.1, show more minV _ _ = _ from opt_less HAV.out.2 HAV.out.1 (by have := HC3.out; omega)]; exact ⟨rfl, rfl⟩
                have hfk : fndB vl t.items (k + 1) = false := by unfold fndB; rw [any_step HQ.out.1]; have h := HFV.out; unfold fndB at h; revert h; cases anyTo vl t.items <;> cases anyTo vl (t.items.take k) <;> simp
                have ho := HtO.out
                try simp only [Bool.not_true, Bool.not_false] at ho
                refine END.out ((((W2.setCell ⟨w5.heap.size + 2, 0, none⟩ (.int .u64 vv)).setCell ⟨w5.heap.size + 3, 0, none⟩ (.bool true)).setCell ⟨w5.heap.size + 4, 0, none⟩ (.int .u64 vv)).setCell ⟨w5.heap.size + 5, 0, none⟩ (.bool true)) false (vv) (vv) true true (holN HSZ.out (j := 5) (by decide) (holN HSZ.out (j := 4) (by decide) (holN HSZ.out (j := 3) (by decide) (holN HSZ.out (j := 2) (by decide) (Holds.refl H10.out))))) ((frN (j := 5) (by decide) (by decide) ((frN (j := 4) (by decide) (by decide) ((frN (j := 3) (by decide) (by decide) ((frN (j := 2) (by decide) (by decide) (Fr.refl (fun j => w5.heap.size + 1 ≤ j ∧ j ≤ w5.heap.size + 6) W2))))))))) ?_ ?_ ?_ ?_ ?_ ?_ hup hsu hfk
                all_goals try simp only [Bool.not_true, Bool.not_false]
                all_goals repeat' (with_reducible first | exact HtF.out | exact HtS.out | exact HtH.out | exact HtA.out | exact HtB.out | exact ho | apply putN | (refine farN ?_ (by decide)))
          · have HC3 := Lib.hid hc3
            have d3 : decide (vv < a0) = false := decide_eq_false hc3
            clear hc3
            cases fb with
            | true =>
              by_cases hc4 : vv ≤ vl
              · have HC4 := Lib.hid hc4
                have d4 : decide (vv ≤ vl) = true := decide_eq_true hc4
                have hkk : kq = kk := by
                  have h := HFV.out
                  unfold fndB at h
                  simp only [Bool.and_eq_true, Bool.not_eq_true'] at h
                  rw [← HKQ.out, find_here HT5.out.is.rises HQ.out.1 h.2 hc4]
                  rfl
                have g1 : kq.1 = kk.1 := by rw [hkk]
                have g2 : kq.2 = kk.2 := by rw [hkk]
                rw [g1] at K0
                rw [g2] at K1
                clear hc4 hkk g1 g2
                gi_wp2
                have hup : (uptoU nm (t.items.take (k + 1))).getD 0 = vv ∧ (uptoU nm (t.items.take (k + 1))).isSome = true := by rw [upto_step HQ.out.1, if_pos (show kk.1 ≤ nm by have := HC1.out; omega), show more minV _ _ = _ from opt_none HSV.out.2 vv]; exact ⟨rfl, rfl⟩
                have hsu : (sumFrom ofV minV none (t.items.take (k + 1))).getD 0 = a0 ∧ (sumFrom ofV minV none (t.items.take (k + 1))).isSome = true := by rw [sum_step HQ.out.1, show more minV _ _ = _ from opt_keep HAV.out.2 HAV.out.1 (by have := HC3.out; omega)]; exact ⟨rfl, rfl⟩
                have hfk : fndB vl t.items (k + 1) = false := by unfold fndB; rw [any_step HQ.out.1, show decide ((kk, vv).2 ≤ vl) = true from decide_eq_true (show vv ≤ vl by have := HC4.out; omega)]; simp
                have ho := HtO.out
                try simp only [Bool.not_true, Bool.not_false] at ho
                refine END.out ((((W2.setCell ⟨w5.heap.size + 2, 0, none⟩ (.int .u64 vv)).setCell ⟨w5.heap.size + 3, 0, none⟩ (.bool true)).setCell ⟨w5.heap.size + 6, 0, none⟩ (.bool true)).setCell ⟨w5.heap.size + 1, 0, none⟩ (.bool false)) false (vv) (a0) true true (holN HSZ.out (j := 1) (by decide) (holN HSZ.out (j := 6) (by decide) (holN HSZ.out (j := 3) (by decide) (holN HSZ.out (j := 2) (by decide) (Holds.refl H10.out))))) ((frN (j := 1) (by decide) (by decide) ((frN (j := 6) (by decide) (by decide) ((frN (j := 3) (by decide) (by decide) ((frN (j := 2) (by decide) (by decide) (Fr.refl (fun j => w5.heap.size + 1 ≤ j ∧ j ≤ w5.heap.size + 6) W2))))))))) ?_ ?_ ?_ ?_ ?_ ?_ hup hsu hfk
                all_goals try simp only [Bool.not_true, Bool.not_false]
                all_goals repeat' (with_reducible first | exact HtF.out | exact HtS.out | exact HtH.out | exact HtA.out | exact HtB.out | exact ho | apply putN | (refine farN ?_ (by decide)))
              · have HC4 := Lib.hid hc4
                have hkk : kq ≠ kk := by
                  have h := HFV.out
                  unfold fndB at h
                  simp only [Bool.and_eq_true, Bool.not_eq_true'] at h
                  rw [← HKQ.out]
                  exact find_not HT5.out.is.rises HQ.out.1 hc4 h.1
                have d4 : decide (vv ≤ vl) = false := decide_eq_false hc4
                clear hc4
                by_cases g1 : kk.1 = kq.1
                · have g2 : (kk.2 == kq.2) = false := beq_eq_false_iff_ne.2 (fun e => hkk (Prod.ext g1.symm e.symm))
                  rw [← g1] at K0
                  clear g1 hkk
                  gi_wp2
                  have hup : (uptoU nm (t.items.take (k + 1))).getD 0 = vv ∧ (uptoU nm (t.items.take (k + 1))).isSome = true := by rw [upto_step HQ.out.1, if_pos (show kk.1 ≤ nm by have := HC1.out; omega), show more minV _ _ = _ from opt_none HSV.out.2 vv]; exact ⟨rfl, rfl⟩
                  have hsu : (sumFrom ofV minV none (t.items.take (k + 1))).getD 0 = a0 ∧ (sumFrom ofV minV none (t.items.take (k + 1))).isSome = true := by rw [sum_step HQ.out.1, show more minV _ _ = _ from opt_keep HAV.out.2 HAV.out.1 (by have := HC3.out; omega)]; exact ⟨rfl, rfl⟩
                  have hfk : fndB vl t.items (k + 1) = true := by unfold fndB; rw [any_step HQ.out.1, show decide ((kk, vv).2 ≤ vl) = false from decide_eq_false (show ¬ vv ≤ vl by have := HC4.out; omega), Bool.or_false]; exact (show (anyTo vl t.items && !anyTo vl (t.items.take k)) = true from HFV.out)
                  have ho := HtO.out
                  try simp only [Bool.not_true, Bool.not_false] at ho
                  refine END.out ((W2.setCell ⟨w5.heap.size + 2, 0, none⟩ (.int .u64 vv)).setCell ⟨w5.heap.size + 3, 0, none⟩ (.bool true)) true (vv) (a0) true true (holN HSZ.out (j := 3) (by decide) (holN HSZ.out (j := 2) (by decide) (Holds.refl H10.out))) ((frN (j := 3) (by decide) (by decide) ((frN (j := 2) (by decide) (by decide) (Fr.refl (fun j => w5.heap.size + 1 ≤ j ∧ j ≤ w5.heap.size + 6) W2))))) ?_ ?_ ?_ ?_ ?_ ?_ hup hsu hfk
                  all_goals try simp only [Bool.not_true, Bool.not_false]
                  all_goals repeat' (with_reducible first | exact HtF.out | exact HtS.out | exact HtH.out | exact HtA.out | exact HtB.out | exact ho | apply putN | (refine farN ?_ (by decide)))
                · have g2 : (kk.1 == kq.1) = false := beq_eq_false_iff_ne.2 g1
                  clear g1 hkk
                  gi_wp2
                  have hup : (uptoU nm (t.items.take (k + 1))).getD 0 = vv ∧ (uptoU nm (t.items.take (k + 1))).isSome = true := by rw [upto_step HQ.out.1, if_pos (show kk.1 ≤ nm by have := HC1.out; omega), show more minV _ _ = _ from opt_none HSV.out.2 vv]; exact ⟨rfl, rfl⟩
                  have hsu : (sumFrom ofV minV none (t.items.take (k + 1))).getD 0 = a0 ∧ (sumFrom ofV minV none (t.items.take (k + 1))).isSome = true := by rw [sum_step HQ.out.1, show more minV _ _ = _ from opt_keep HAV.out.2 HAV.out.1 (by have := HC3.out; omega)]; exact ⟨rfl, rfl⟩
                  have hfk : fndB vl t.items (k + 1) = true := by unfold fndB; rw [any_step HQ.out.1, show decide ((kk, vv).2 ≤ vl) = false from decide_eq_false (show ¬ vv ≤ vl by have := HC4.out; omega), Bool.or_false]; exact (show (anyTo vl t.items && !anyTo vl (t.items.take k)) = true from HFV.out)
                  have ho := HtO.out
                  try simp only [Bool.not_true, Bool.not_false] at ho
                  refine END.out ((W2.setCell ⟨w5.heap.size + 2, 0, none⟩ (.int .u64 vv)).setCell ⟨w5.heap.size + 3, 0, none⟩ (.bool true)) true (vv) (a0) true true (holN HSZ.out (j := 3) (by decide) (holN HSZ.out (j := 2) (by decide) (Holds.refl H10.out))) ((frN (j := 3) (by decide) (by decide) ((frN (j := 2) (by decide) (by decide) (Fr.refl (fun j => w5.heap.size + 1 ≤ j ∧ j ≤ w5.heap.size + 6) W2))))) ?_ ?_ ?_ ?_ ?_ ?_ hup hsu hfk
                  all_goals try simp only [Bool.not_true, Bool.not_false]
                  all_goals repeat' (with_reducible first | exact HtF.out | exact HtS.out | exact HtH.out | exact HtA.out | exact HtB.out | exact ho | apply putN | (refine farN ?_ (by decide)))
            | false =>
              by_cases g1 : kq.1 = 0
              · rw [g1] at K0
                by_cases g2 : kq.2 = 0
                · rw [g2] at K1
                  clear g1 g2
                  by_cases hc4 : vv ≤ vl
                  · have d4 : decide (vv ≤ vl) = true := decide_eq_true hc4
                    clear hc4
                    gi_wp2
                    have hup : (uptoU nm (t.items.take (k + 1))).getD 0 = vv ∧ (uptoU nm (t.items.take (k + 1))).isSome = true := by rw [upto_step HQ.out.1, if_pos (show kk.1 ≤ nm by have := HC1.out; omega), show more minV _ _ = _ from opt_none HSV.out.2 vv]; exact ⟨rfl, rfl⟩
                    have hsu : (sumFrom ofV minV none (t.items.take (k + 1))).getD 0 = a0 ∧ (sumFrom ofV minV none (t.items.take (k + 1))).isSome = true := by rw [sum_step HQ.out.1, show more minV _ _ = _ from opt_keep HAV.out.2 HAV.out.1 (by have := HC3.out; omega)]; exact ⟨rfl, rfl⟩
                    have hfk : fndB vl t.items (k + 1) = false := by unfold fndB; rw [any_step HQ.out.1]; have h := HFV.out; unfold fndB at h; revert h; cases anyTo vl t.items <;> cases anyTo vl (t.items.take k) <;> simp
                    have ho := HtO.out
                    try simp only [Bool.not_true, Bool.not_false] at ho
                    refine END.out ((W2.setCell ⟨w5.heap.size + 2, 0, none⟩ (.int .u64 vv)).setCell ⟨w5.heap.size + 3, 0, none⟩ (.bool true)) false (vv) (a0) true true (holN HSZ.out (j := 3) (by decide) (holN HSZ.out (j := 2) (by decide) (Holds.refl H10.out))) ((frN (j := 3) (by decide) (by decide) ((frN (j := 2) (by decide) (by decide) (Fr.refl (fun j => w5.heap.size + 1 ≤ j ∧ j ≤ w5.heap.size + 6) W2))))) ?_ ?_ ?_ ?_ ?_ ?_ hup hsu hfk
                    all_goals try simp only [Bool.not_true, Bool.not_false]
                    all_goals repeat' (with_reducible first | exact HtF.out | exact HtS.out | exact HtH.out | exact HtA.out | exact HtB.out | exact ho | apply putN | (refine farN ?_ (by decide)))
                  · have d4 : decide (vv ≤ vl) = false := decide_eq_false hc4
                    clear hc4
                    gi_wp2
                    have hup : (uptoU nm (t.items.take (k + 1))).getD 0 = vv ∧ (uptoU nm (t.items.take (k + 1))).isSome = true := by rw [upto_step HQ.out.1, if_pos (show kk.1 ≤ nm by have := HC1.out; omega), show more minV _ _ = _ from opt_none HSV.out.2 vv]; exact ⟨rfl, rfl⟩
                    have hsu : (sumFrom ofV minV none (t.items.take (k + 1))).getD 0 = a0 ∧ (sumFrom ofV minV none (t.items.take (k + 1))).isSome = true := by rw [sum_step HQ.out.1, show more minV _ _ = _ from opt_keep HAV.out.2 HAV.out.1 (by have := HC3.out; omega)]; exact ⟨rfl, rfl⟩
                    have hfk : fndB vl t.items (k + 1) = false := by unfold fndB; rw [any_step HQ.out.1]; have h := HFV.out; unfold fndB at h; revert h; cases anyTo vl t.items <;> cases anyTo vl (t.items.take k) <;> simp
                    have ho := HtO.out
                    try simp only [Bool.not_true, Bool.not_false] at ho
                    refine END.out ((W2.setCell ⟨w5.heap.size + 2, 0, none⟩ (.int .u64 vv)).setCell ⟨w5.heap.size + 3, 0, none⟩ (.bool true)) false (vv) (a0) true true (holN HSZ.out (j := 3) (by decide) (holN HSZ.out (j := 2) (by decide) (Holds.refl H10.out))) ((frN (j := 3) (by decide) (by decide) ((frN (j := 2) (by decide) (by decide) (Fr.refl (fun j => w5.heap.size + 1 ≤ j ∧ j ≤ w5.heap.size + 6) W2))))) ?_ ?_ ?_ ?_ ?_ ?_ hup hsu hfk
                    all_goals try simp only [Bool.not_true, Bool.not_false]
                    all_goals repeat' (with_reducible first | exact HtF.out | exact HtS.out | exact HtH.out | exact HtA.out | exact HtB.out | exact ho | apply putN | (refine farN ?_ (by decide)))
                · have g3 : (kq.2 == 0) = false := beq_eq_false_iff_ne.2 g2
                  clear g1 g2
                  gi_wp2
                  have hup : (uptoU nm (t.items.take (k + 1))).getD 0 = vv ∧ (uptoU nm (t.items.take (k + 1))).isSome = true := by rw [upto_step HQ.out.1, if_pos (show kk.1 ≤ nm by have := HC1.out; omega), show more minV _ _ = _ from opt_none HSV.out.2 vv]; exact ⟨rfl, rfl⟩
                  have hsu : (sumFrom ofV minV none (t.items.take (k + 1))).getD 0 = a0 ∧ (sumFrom ofV minV none (t.items.take (k + 1))).isSome = true := by rw [sum_step HQ.out.1, show more minV _ _ = _ from opt_keep HAV.out.2 HAV.out.1 (by have := HC3.out; omega)]; exact ⟨rfl, rfl⟩
                  have hfk : fndB vl t.items (k + 1) = false := by unfold fndB; rw [any_step HQ.out.1]; have h := HFV.out; unfold fndB at h; revert h; cases anyTo vl t.items <;> cases anyTo vl (t.items.take k) <;> simp
                  have ho := HtO.out
                  try simp only [Bool.not_true, Bool.not_false] at ho
                  refine END.out ((W2.setCell ⟨w5.heap.size + 2, 0, none⟩ (.int .u64 vv)).setCell ⟨w5.heap.size + 3, 0, none⟩ (.bool true)) false (vv) (a0) true true (holN HSZ.out (j := 3) (by decide) (holN HSZ.out (j := 2) (by decide) (Holds.refl H10.out))) ((frN (j := 3) (by decide) (by decide) ((frN (j := 2) (by decide) (by decide) (Fr.refl (fun j => w5.heap.size + 1 ≤ j ∧ j ≤ w5.heap.size + 6) W2))))) ?_ ?_ ?_ ?_ ?_ ?_ hup hsu hfk
                  all_goals try simp only [Bool.not_true, Bool.not_false]
                  all_goals repeat' (with_reducible first | exact HtF.out | exact HtS.out | exact HtH.out | exact HtA.out | exact HtB.out | exact ho | apply putN | (refine farN ?_ (by decide)))
              · have g3 : (kq.1 == 0) = false := beq_eq_false_iff_ne.2 g1
                clear g1
                gi_wp2
                have hup : (uptoU nm (t.items.take (k + 1))).getD 0 = vv ∧ (uptoU nm (t.items.take (k + 1))).isSome = true := by rw [upto_step HQ.out.1, if_pos (show kk.1 ≤ nm by have := HC1.out; omega), show more minV _ _ = _ from opt_none HSV.out.2 vv]; exact ⟨rfl, rfl⟩
                have hsu : (sumFrom ofV minV none (t.items.take (k + 1))).getD 0 = a0 ∧ (sumFrom ofV minV none (t.items.take (k + 1))).isSome = true := by rw [sum_step HQ.out.1, show more minV _ _ = _ from opt_keep HAV.out.2 HAV.out.1 (by have := HC3.out; omega)]; exact ⟨rfl, rfl⟩
                have hfk : fndB vl t.items (k + 1) = false := by unfold fndB; rw [any_step HQ.out.1]; have h := HFV.out; unfold fndB at h; revert h; cases anyTo vl t.items <;> cases anyTo vl (t.items.take k) <;> simp
                have ho := HtO.out
                try simp only [Bool.not_true, Bool.not_false] at ho
                refine END.out ((W2.setCell ⟨w5.heap.size + 2, 0, none⟩ (.int .u64 vv)).setCell ⟨w5.heap.size + 3, 0, none⟩ (.bool true)) false (vv) (a0) true true (holN HSZ.out (j := 3) (by decide) (holN HSZ.out (j := 2) (by decide) (Holds.refl H10.out))) ((frN (j := 3) (by decide) (by decide) ((frN (j := 2) (by decide) (by decide) (Fr.refl (fun j => w5.heap.size + 1 ≤ j ∧ j ≤ w5.heap.size + 6) W2))))) ?_ ?_ ?_ ?_ ?_ ?_ hup hsu hfk
                all_goals try simp only [Bool.not_true, Bool.not_false]
                all_goals repeat' (with_reducible first | exact HtF.out | exact HtS.out | exact HtH.out | exact HtA.out | exact HtB.out | exact ho | apply putN | (refine farN ?_ (by decide)))
      | true =>
        by_cases hc2 : vv < s0
        · have HC2 := Lib.hid hc2
          have d2 : decide (vv < s0) = true := decide_eq_true hc2
          clear hc2
          cases has with
          | false =>
            cases fb with
            | true =>
              by_cases hc4 : vv ≤ vl
              · have HC4 := Lib.hid hc4
                have d4 : decide (vv ≤ vl) = true := decide_eq_true hc4
                have hkk : kq = kk := by
                  have h := HFV.out
                  unfold fndB at h
                  simp only [Bool.and_eq_true, Bool.not_eq_true'] at h
                  rw [← HKQ.out, find_here HT5.out.is.rises HQ.out.1 h.2 hc4]
                  rfl
                have g1 : kq.1 = kk.1 := by rw [hkk]
                have g2 : kq.2 = kk.2 := by rw [hkk]
                rw [g1] at K0
                rw [g2] at K1
                clear hc4 hkk g1 g2
                gi_wp2
                have hup : (uptoU nm (t.items.take (k + 1))).getD 0 = vv ∧ (uptoU nm (t.items.take (k + 1))).isSome = true := by rw [upto_step HQ.out.1, if_pos (show kk.1 ≤ nm by have := HC1.out; omega), show more minV _ _ = _ from opt_less HSV.out.2 HSV.out.1 (by have := HC2.out; omega)]; exact ⟨rfl, rfl⟩
                have hsu : (sumFrom ofV minV none (t.items.take (k + 1))).getD 0 = vv ∧ (sumFrom ofV minV none (t.items.take (k + 1))).isSome = true := by rw [sum_step HQ.out.1, show more minV _ _ = _ from opt_none HAV.out.2 vv]; exact ⟨rfl, rfl⟩
                have hfk : fndB vl t.items (k + 1) = false := by unfold fndB; rw [any_step HQ.out.1, show decide ((kk, vv).2 ≤ vl) = true from decide_eq_true (show vv ≤ vl by have := HC4.out; omega)]; simp
                have ho := HtO.out
                try simp only [Bool.not_true, Bool.not_false] at ho
                refine END.out ((((((W2.setCell ⟨w5.heap.size + 2, 0, none⟩ (.int .u64 vv)).setCell ⟨w5.heap.size + 3, 0, none⟩ (.bool true)).setCell ⟨w5.heap.size + 4, 0, none⟩ (.int .u64 vv)).setCell ⟨w5.heap.size + 5, 0, none⟩ (.bool true)).setCell ⟨w5.heap.size + 6, 0, none⟩ (.bool true)).setCell ⟨w5.heap.size + 1, 0, none⟩ (.bool false)) false (vv) (vv) true true (holN HSZ.out (j := 1) (by decide) (holN HSZ.out (j := 6) (by decide) (holN HSZ.out (j := 5) (by decide) (holN HSZ.out (j := 4) (by decide) (holN HSZ.out (j := 3) (by decide) (holN HSZ.out (j := 2) (by decide) (Holds.refl H10.out))))))) ((frN (j := 1) (by decide) (by decide) ((frN (j := 6) (by decide) (by decide) ((frN (j := 5) (by decide) (by decide) ((frN (j := 4) (by decide) (by decide) ((frN (j := 3) (by decide) (by decide) ((frN (j := 2) (by decide) (by decide) (Fr.refl (fun j => w5.heap.size + 1 ≤ j ∧ j ≤ w5.heap.size + 6) W2))))))))))))) ?_ ?_ ?_ ?_ ?_ ?_ hup hsu hfk
                all_goals try simp only [Bool.not_true, Bool.not_false]
                all_goals repeat' (with_reducible first | exact HtF.out | exact HtS.out | exact HtH.out | exact HtA.out | exact HtB.out | exact ho | apply putN | (refine farN ?_ (by decide)))
              · have HC4 := Lib.hid hc4
                have hkk : kq ≠ kk := by
                  have h := HFV.out
                  unfold fndB at h
                  simp only [Bool.and_eq_true, Bool.not_eq_true'] at h
                  rw [← HKQ.out]
                  exact find_not HT5.out.is.rises HQ.out.1 hc4 h.1
                have d4 : decide (vv ≤ vl) = false := decide_eq_false hc4
                clear hc4
                by_cases g1 : kk.1 = kq.1
                · have g2 : (kk.2 == kq.2) = false := beq_eq_false_iff_ne.2 (fun e => hkk (Prod.ext g1.symm e.symm))
                  rw [← g1] at K0
                  clear g1 hkk
                  gi_wp2
                  have hup : (uptoU nm (t.items.take (k + 1))).getD 0 = vv ∧ (uptoU nm (t.items.take (k + 1))).isSome = true := by rw [upto_step HQ.out.1, if_pos (show kk.1 ≤ nm by have := HC1.out; omega), show more minV _ _ = _ from opt_less HSV.out.2 HSV.out.1 (by have := HC2.out; omega)]; exact ⟨rfl, rfl⟩
                  have hsu : (sumFrom ofV minV none (t.items.take (k + 1))).getD 0 = vv ∧ (sumFrom ofV minV none (t.items.take (k + 1))).isSome = true := by rw [sum_step HQ.out.1, show more minV _ _ = _ from opt_none HAV.out.2 vv]; exact ⟨rfl, rfl⟩
                  have hfk : fndB vl t.items (k + 1) = true := by unfold fndB; rw [any_step HQ.out.1, show decide ((kk, vv).2 ≤ vl) = false from decide_eq_false (show ¬ vv ≤ vl by have := HC4.out; omega), Bool.or_false]; exact (show (anyTo vl t.items && !anyTo vl (t.items.take k)) = true from HFV.out)
                  have ho := HtO.out
                  try simp only [Bool.not_true, Bool.not_false] at ho
                  refine END.out ((((W2.setCell ⟨w5.heap.size + 2, 0, none⟩ (.int .u64 vv)).setCell ⟨w5.heap.size + 3, 0, none⟩ (.bool true)).setCell ⟨w5.heap.size + 4, 0, none⟩ (.int .u64 vv)).setCell ⟨w5.heap.size + 5, 0, none⟩ (.bool true)) true (vv) (vv) true true (holN HSZ.out (j := 5) (by decide) (holN HSZ.out (j := 4) (by decide) (holN HSZ.out (j := 3) (by decide) (holN HSZ.out (j := 2) (by decide) (Holds.refl H10.out))))) ((frN (j := 5) (by decide) (by decide) ((frN (j := 4) (by decide) (by decide) ((frN (j := 3) (by decide) (by decide) ((frN (j := 2) (by decide) (by decide) (Fr.refl (fun j => w5.heap.size + 1 ≤ j ∧ j ≤ w5.heap.size + 6) W2))))))))) ?_ ?_ ?_ ?_ ?_ ?_ hup hsu hfk
                  all_goals try simp only [Bool.not_true, Bool.not_false]
                  all_goals repeat' (with_reducible first | exact HtF.out | exact HtS.out | exact HtH.out | exact HtA.out | exact HtB.out | exact ho | apply putN | (refine farN ?_ (by decide)))
                · have g2 : (kk.1 == kq.1) = false := beq_eq_false_iff_ne.2 g1
                  clear g1 hkk
                  gi_wp2
                  have hup : (uptoU nm (t.items.take (k + 1))).getD 0 = vv ∧ (uptoU nm (t.items.take (k + 1))).isSome = true := by rw [upto_step HQ.out.1, if_pos (show kk.1 ≤ nm by have := HC1.out; omega), show more minV _ _ = _ from opt_less HSV.out.2 HSV.out.1 (by have := HC2.out; omega)]; exact ⟨rfl, rfl⟩
                  have hsu : (sumFrom ofV minV none (t.items.take (k + 1))).getD 0 = vv ∧ (sumFrom ofV minV none (t.items.take (k + 1))).isSome = true := by rw [sum_step HQ.out.1, show more minV _ _ = _ from opt_none HAV.out.2 vv]; exact ⟨rfl, rfl⟩
                  have hfk : fndB vl t.items (k + 1) = true := by unfold fndB; rw [any_step HQ.out.1, show decide ((kk, vv).2 ≤ vl) = false from decide_eq_false (show ¬ vv ≤ vl by have := HC4.out; omega), Bool.or_false]; exact (show (anyTo vl t.items && !anyTo vl (t.items.take k)) = true from HFV.out)
                  have ho := HtO.out
                  try simp only [Bool.not_true, Bool.not_false] at ho
                  refine END.out ((((W2.setCell ⟨w5.heap.size + 2, 0, none⟩ (.int .u64 vv)).setCell ⟨w5.heap.size + 3, 0, none⟩ (.bool true)).setCell ⟨w5.heap.size + 4, 0, none⟩ (.int .u64 vv)).setCell ⟨w5.heap.size + 5, 0, none⟩ (.bool true)) true (vv) (vv) true true (holN HSZ.out (j := 5) (by decide) (holN HSZ.out (j := 4) (by decide) (holN HSZ.out (j := 3) (by decide) (holN HSZ.out (j := 2) (by decide) (Holds.refl H10.out))))) ((frN (j := 5) (by decide) (by decide) ((frN (j := 4) (by decide) (by decide) ((frN (j := 3) (by decide) (by decide) ((frN (j := 2) (by decide) (by decide) (Fr.refl (fun j => w5.heap.size + 1 ≤ j ∧ j ≤ w5.heap.size + 6) W2))))))))) ?_ ?_ ?_ ?_ ?_ ?_ hup hsu hfk
                  all_goals try simp only [Bool.not_true, Bool.not_false]
                  all_goals repeat' (with_reducible first | exact HtF.out | exact HtS.out | exact HtH.out | exact HtA.out | exact HtB.out | exact ho | apply putN | (refine farN ?_ (by decide)))
            | false =>
              by_cases g1 : kq.1 = 0
              · rw [g1] at K0
                by_cases g2 : kq.2 = 0
                · rw [g2] at K1
                  clear g1 g2
                  by_cases hc4 : vv ≤ vl
                  · have d4 : decide (vv ≤ vl) = true := decide_eq_true hc4
                    clear hc4
                    gi_wp2
                    have hup : (uptoU nm (t.items.take (k + 1))).getD 0 = vv ∧ (uptoU nm (t.items.take (k + 1))).isSome = true := by rw [upto_step HQ.out.1, if_pos (show kk.1 ≤ nm by have := HC1.out; omega), show more minV _ _ = _ from opt_less HSV.out.2 HSV.out.1 (by have := HC2.out; omega)]; exact ⟨rfl, rfl⟩
                    have hsu : (sumFrom ofV minV none (t.items.take (k + 1))).getD 0 = vv ∧ (sumFrom ofV minV none (t.items.take (k + 1))).isSome = true := by rw [sum_step HQ.out.1, show more minV _ _ = _ from opt_none HAV.out.2 vv]; exact ⟨rfl, rfl⟩
                    have hfk : fndB vl t.items (k + 1) = false := by unfold fndB; rw [any_step HQ.out.1]; have h := HFV.out; unfold fndB at h; revert h; cases anyTo vl t.items <;> cases anyTo vl (t.items.take k) <;> simp
                    have ho := HtO.out
                    try simp only [Bool.not_true, Bool.not_false] at ho
                    refine END.out ((((W2.setCell ⟨w5.heap.size + 2, 0, none⟩ (.int .u64 vv)).setCell ⟨w5.heap.size + 3, 0, none⟩ (.bool true)).setCell ⟨w5.heap.size + 4, 0, none⟩ (.int .u64 vv)).setCell ⟨w5.heap.size + 5, 0, none⟩ (.bool true)) false (vv) (vv) true true (holN HSZ.out (j := 5) (by decide) (holN HSZ.out (j := 4) (by decide) (holN HSZ.out (j := 3) (by decide) (holN HSZ.out (j := 2) (by decide) (Holds.refl H10.out))))) ((frN (j := 5) (by decide) (by decide) ((frN (j := 4) (by decide) (by decide) ((frN (j := 3) (by decide) (by decide) ((frN (j := 2) (by decide) (by decide) (Fr.refl (fun j => w5.heap.size + 1 ≤ j ∧ j ≤ w5.heap.size + 6) W2))))))))) ?_ ?_ ?_ ?_ ?_ ?_ hup hsu hfk
                    all_goals try simp only [Bool.not_true, Bool.not_false]
                    all_goals repeat' (with_reducible first | exact HtF.out | exact HtS.out | exact HtH.out | exact HtA.out | exact HtB.out | exact ho | apply putN | (refine farN ?_ (by decide)))
                  · have d4 : decide (vv ≤ vl) = false := decide_eq_false hc4
                    clear hc4
                    gi_wp2
                    have hup : (uptoU nm (t.items.take (k + 1))).getD 0 = vv ∧ (uptoU nm (t.items.take (k + 1))).isSome = true := by rw [upto_step HQ.out.1, if_pos (show kk.1 ≤ nm by have := HC1.out; omega), show more minV _ _ = _ from opt_less HSV.out.2 HSV.out.1 (by have := HC2.out; omega)]; exact ⟨rfl, rfl⟩
                    have hsu : (sumFrom ofV minV none (t.items.take (k + 1))).getD 0 = vv ∧ (sumFrom ofV minV none (t.items.take (k + 1))).isSome = true := by rw [sum_step HQ.out.1, show more minV _ _ = _ from opt_none HAV.out.2 vv]; exact ⟨rfl, rfl⟩
                    have hfk : fndB vl t.items (k + 1) = false := by unfold fndB; rw [any_step HQ.out.1]; have h := HFV.out; unfold fndB at h; revert h; cases anyTo vl t.items <;> cases anyTo vl (t.items.take k) <;> simp
                    have ho := HtO.out
                    try simp only [Bool.not_true, Bool.not_false] at ho
                    refine END.out ((((W2.setCell ⟨w5.heap.size + 2, 0, none⟩ (.int .u64 vv)).setCell ⟨w5.heap.size + 3, 0, none⟩ (.bool true)).setCell ⟨w5.heap.size + 4, 0, none⟩ (.int .u64 vv)).setCell ⟨w5.heap.size + 5, 0, none⟩ (.bool true)) false (vv) (vv) true true (holN HSZ.out (j := 5) (by decide) (holN HSZ.out (j := 4) (by decide) (holN HSZ.out (j := 3) (by decide) (holN HSZ.out (j := 2) (by decide) (Holds.refl H10.out))))) ((frN (j := 5) (by decide) (by decide) ((frN (j := 4) (by decide) (by decide) ((frN (j := 3) (by decide) (by decide) ((frN (j := 2) (by decide) (by decide) (Fr.refl (fun j => w5.heap.size + 1 ≤ j ∧ j ≤ w5.heap.size + 6) W2))))))))) ?_ ?_ ?_ ?_ ?_ ?_ hup hsu hfk
                    all_goals try simp only [Bool.not_true, Bool.not_false]
                    all_goals repeat' (with_reducible first | exact HtF.out | exact HtS.out | exact HtH.out | exact HtA.out | exact HtB.out | exact ho | apply putN | (refine farN ?_ (by decide)))
                · have g3 : (kq.2 == 0) = false := beq_eq_false_iff_ne.2 g2
                  clear g1 g2
                  gi_wp2
                  have hup : (uptoU nm (t.items.take (k + 1))).getD 0 = vv ∧ (uptoU nm (t.items.take (k + 1))).isSome = true := by rw [upto_step HQ.out.1, if_pos (show kk.1 ≤ nm by have := HC1.out; omega), show more minV _ _ = _ from opt_less HSV.out.2 HSV.out.1 (by have := HC2.out; omega)]; exact ⟨rfl, rfl⟩
                  have hsu : (sumFrom ofV minV none (t.items.take (k + 1))).getD 0 = vv ∧ (sumFrom ofV minV none (t.items.take (k + 1))).isSome = true := by rw [sum_step HQ.out.1, show more minV _ _ = _ from opt_none HAV.out.2 vv]; exact ⟨rfl, rfl⟩
                  have hfk : fndB vl t.items (k + 1) = false := by unfold fndB; rw [any_step HQ.out.1]; have h := HFV.out; unfold fndB at h; revert h; cases anyTo vl t.items <;> cases anyTo vl (t.items.take k) <;> simp
                  have ho := HtO.out
                  try simp only [Bool.not_true, Bool.not_false] at ho
                  refine END.out ((((W2.setCell ⟨w5.heap.size + 2, 0, none⟩ (.int .u64 vv)).setCell ⟨w5.heap.size + 3, 0, none⟩ (.bool true)).setCell ⟨w5.heap.size + 4, 0, none⟩ (.int .u64 vv)).setCell ⟨w5.heap.size + 5, 0, none⟩ (.bool true)) false (vv) (vv) true true (holN HSZ.out (j := 5) (by decide) (holN HSZ.out (j := 4) (by decide) (holN HSZ.out (j := 3) (by decide) (holN HSZ.out (j := 2) (by decide) (Holds.refl H10.out))))) ((frN (j := 5) (by decide) (by decide) ((frN (j := 4) (by decide) (by decide) ((frN (j := 3) (by decide) (by decide) ((frN (j := 2) (by decide) (by decide) (Fr.refl (fun j => w5.heap.size + 1 ≤ j ∧ j ≤ w5.heap.size + 6) W2))))))))) ?_ ?_ ?_ ?_ ?_ ?_ hup hsu hfk
                  all_goals try simp only [Bool.not_true, Bool.not_false]
                  all_goals repeat' (with_reducible first | exact HtF.out | exact HtS.out | exact HtH.out | exact HtA.out | exact HtB.out | exact ho | apply putN | (refine farN ?_ (by decide)))
              · have g3 : (kq.1 == 0) = false := beq_eq_false_iff_ne.2 g1
                clear g1
                gi_wp2
                have hup : (uptoU nm (t.items.take (k + 1))).getD 0 = vv ∧ (uptoU nm (t.items.take (k + 1))).isSome = true := by rw [upto_step HQ.out.1, if_pos (show kk.1 ≤ nm by have := HC1.out; omega), show more minV _ _ = _ from opt_less HSV.out.2 HSV.out.1 (by have := HC2.out; omega)]; exact ⟨rfl, rfl⟩
                have hsu : (sumFrom ofV minV none (t.items.take (k + 1))).getD 0 = vv ∧ (sumFrom ofV minV none (t.items.take (k + 1))).isSome = true := by rw [sum_step HQ.out.1, show more minV _ _ = _ from opt_none HAV.out.2 vv]; exact ⟨rfl, rfl⟩
                have hfk : fndB vl t.items (k + 1) = false := by unfold fndB; rw [any_step HQ.out.1]; have h := HFV.out; unfold fndB at h; revert h; cases anyTo vl t.items <;> cases anyTo vl (t.items.take k) <;> simp
                have ho := HtO.out
                try simp only [Bool.not_true, Bool.not_false] at ho
                refine END.out ((((W2.setCell ⟨w5.heap.size + 2, 0, none⟩ (.int .u64 vv)).setCell ⟨w5.heap.size + 3, 0, none⟩ (.bool true)).setCell ⟨w5.heap.size + 4, 0, none⟩ (.int .u64 vv)).setCell ⟨w5.heap.size + 5, 0, none⟩ (.bool true)) false (vv) (vv) true true (holN HSZ.out (j := 5) (by decide) (holN HSZ.out (j := 4) (by decide) (holN HSZ.out (j := 3) (by decide) (holN HSZ.out (j := 2) (by decide) (Holds.refl H10.out))))) ((frN (j := 5) (by decide) (by decide) ((frN (j := 4) (by decide) (by decide) ((frN (j := 3) (by decide) (by decide) ((frN (j := 2) (by decide) (by decide) (Fr.refl (fun j => w5.heap.size + 1 ≤ j ∧ j ≤ w5.heap.size + 6) W2))))))))) ?_ ?_ ?_ ?_ ?_ ?_ hup hsu hfk
                all_goals try simp only [Bool.not_true, Bool.not_false]
                all_goals repeat' (with_reducible first | exact HtF.out | exact HtS.out | exact HtH.out | exact HtA.out | exact HtB.out | exact ho | apply putN | (refine farN ?_ (by decide)))
          | true =>
            by_cases hc3 : vv < a0
            · have HC3 := Lib.hid hc3
              have d3 : decide (vv < a0) = true := decide_eq_true hc3
              clear hc3
              cases fb with
              | true =>
                by_cases hc4 : vv ≤ vl
                · have HC4 := Lib.hid hc4
                  have d4 : decide (vv ≤ vl) = true := decide_eq_true hc4
                  have hkk : kq = kk := by
                    have h := HFV.out
                    unfold fndB at h
                    simp only [Bool.and_eq_true, Bool.not_eq_true'] at h
                    rw [← HKQ.out, find_here HT5.out.is.rises HQ.out.1 h.2 hc4]
                    rfl
                  have g1 : kq.1 = kk.1 := by rw [hkk]
                  have g2 : kq.2 = kk.2 := by rw [hkk]
                  rw [g1] at K0
                  rw [g2] at K1
                  clear hc4 hkk g1 g2
                  gi_wp2
                  have hup : (uptoU nm (t.items.take (k + 1))).getD 0 = vv ∧ (uptoU nm (t.items.take (k + 1))).isSome = true := by rw [upto_step HQ.out.1, if_pos (show kk.1 ≤ nm by have := HC1.out; omega), show more minV _ _ = _ from opt_less HSV.out.2 HSV.out.1 (by have := HC2.out; omega)]; exact ⟨rfl, rfl⟩
                  have hsu : (sumFrom ofV minV none (t.items.take (k + 1))).getD 0 = vv ∧ (sumFrom ofV minV none (t.items.take (k + 1))).isSome = true := by rw [sum_step HQ.out.1, show more minV _ _ = _ from opt_less HAV.out.2 HAV.out.1 (by have := HC3.out; omega)]; exact ⟨rfl, rfl⟩
                  have hfk : fndB vl t.items (k + 1) = false := by unfold fndB; rw [any_step HQ.out.1, show decide ((kk, vv).2 ≤ vl) = true from decide_eq_true (show vv ≤ vl by have := HC4.out; omega)]; simp
                  have ho := HtO.out
                  try simp only [Bool.not_true, Bool.not_false] at ho
                  refine END.out ((((((W2.setCell ⟨w5.heap.size + 2, 0, none⟩ (.int .u64 vv)).setCell ⟨w5.heap.size + 3, 0, none⟩ (.bool true)).setCell ⟨w5.heap.size + 4, 0, none⟩ (.int .u64 vv)).setCell ⟨w5.heap.size + 5, 0, none⟩ (.bool true)).setCell ⟨w5.heap.size + 6, 0, none⟩ (.bool true)).setCell ⟨w5.heap.size + 1, 0, none⟩ (.bool false)) false (vv) (vv) true true (holN HSZ.out (j := 1) (by decide) (holN HSZ.out (j := 6) (by decide) (holN HSZ.out (j := 5) (by decide) (holN HSZ.out (j := 4) (by decide) (holN HSZ.out (j := 3) (by decide) (holN HSZ.out (j := 2) (by decide) (Holds.refl H10.out))))))) ((frN (j := 1) (by decide) (by decide) ((frN (j := 6) (by decide) (by decide) ((frN (j := 5) (by decide) (by decide) ((frN (j := 4) (by decide) (by decide) ((frN (j := 3) (by decide) (by decide) ((frN (j := 2) (by decide) (by decide) (Fr.refl (fun j => w5.heap.size + 1 ≤ j ∧ j ≤ w5.heap.size + 6) W2))))))))))))) ?_ ?_ ?_ ?_ ?_ ?_ hup hsu hfk
                  all_goals try simp only [Bool.not_true, Bool.not_false]
                  all_goals repeat' (with_reducible first | exact HtF.out | exact HtS.out | exact HtH.out | exact HtA.out | exact HtB.out | exact ho | apply putN | (refine farN ?_ (by decide)))
                · have HC4 := Lib.hid hc4
                  have hkk : kq ≠ kk := by
                    have h := HFV.out
                    unfold fndB at h
                    simp only [Bool.and_eq_true, Bool.not_eq_true'] at h
                    rw [← HKQ.out]
                    exact find_not HT5.out.is.rises HQ.out.1 hc4 h.1
                  have d4 : decide (vv ≤ vl) = false := decide_eq_false hc4
                  clear hc4
                  by_cases g1 : kk.1 = kq.1
                  · have g2 : (kk.2 == kq.2) = false := beq_eq_false_iff_ne.2 (fun e => hkk (Prod.ext g1.symm e.symm))
                    rw [← g1] at K0
                    clear g1 hkk
                    gi_wp2
                    have hup : (uptoU nm (t.items.take (k + 1))).getD 0 = vv ∧ (uptoU nm (t.items.take (k + 1))).isSome = true := by rw [upto_step HQ.out.1, if_pos (show kk.1 ≤ nm by have := HC1.out; omega), show more minV _ _ = _ from opt_less HSV.out.2 HSV.out.1 (by have := HC2.out; omega)]; exact ⟨rfl, rfl⟩
                    have hsu : (sumFrom ofV minV none (t.items.take (k + 1))).getD 0 = vv ∧ (sumFrom ofV minV none (t.items.take (k + 1))).isSome = true := by rw [sum_step HQ.out.1, show more minV _ _ = _ from opt_less HAV.out.2 HAV.out.1 (by have := HC3.out; omega)]; exact ⟨rfl, rfl⟩
                    have hfk : fndB vl t.items (k + 1) = true := by unfold fndB; rw [any_step HQ.out.1, show decide ((kk, vv).2 ≤ vl) = false from decide_eq_false (show ¬ vv ≤ vl by have := HC4.out; omega), Bool.or_false]; exact (show (anyTo vl t.items && !anyTo vl (t.items.take k)) = true from HFV.out)
                    have ho := HtO.out
                    try simp only [Bool.not_true, Bool.not_false] at ho
                    refine END.out ((((W2.setCell ⟨w5.heap.size + 2, 0, none⟩ (.int .u64 vv)).setCell ⟨w5.heap.size + 3, 0, none⟩ (.bool true)).setCell ⟨w5.heap.size + 4, 0, none⟩ (.int .u64 vv)).setCell ⟨w5.heap.size + 5, 0, none⟩ (.bool true)) true (vv) (vv) true true (holN HSZ.out (j := 5) (by decide) (holN HSZ.out (j := 4) (by decide) (holN HSZ.out (j := 3) (by decide) (holN HSZ.out (j := 2) (by decide) (Holds.refl H10.out))))) ((frN (j := 5) (by decide) (by decide) ((frN (j := 4) (by decide) (by decide) ((frN (j := 3) (by decide) (by decide) ((frN (j := 2) (by decide) (by decide) (Fr.refl (fun j => w5.heap.size + 1 ≤ j ∧ j ≤ w5.heap.size + 6) W2))))))))) ?_ ?_ ?_ ?_ ?_ ?_ hup hsu hfk
                    all_goals try simp only [Bool.not_true, Bool.not_false]
                    all_goals repeat' (with_reducible first | exact HtF.out | exact HtS.out | exact HtH.out | exact HtA.out | exact HtB.out | exact ho | apply putN | (refine farN ?_ (by decide)))
                  · have g2 : (kk.1 == kq.1) = false := beq_eq_false_iff_ne.2 g1
                    clear g1 hkk
                    gi_wp2
                    have hup : (uptoU nm (t.items.take (k + 1))).getD 0 = vv ∧ (uptoU nm (t.items.take (k + 1))).isSome = true := by rw [upto_step HQ.out.1, if_pos (show kk.1 ≤ nm by have := HC1.out; omega), show more minV _ _ = _ from opt_less HSV.out.2 HSV.out.1 (by have := HC2.out; omega)]; exact ⟨rfl, rfl⟩
                    have hsu : (sumFrom ofV minV none (t.items.take (k + 1))).getD 0 = vv ∧ (sumFrom ofV minV none (t.items.take (k + 1))).isSome = true := by rw [sum_step HQ.out.1, show more minV _ _ = _ from opt_less HAV.out.2 HAV.out.1 (by have := HC3.out; omega)]; exact ⟨rfl, rfl⟩
                    have hfk : fndB vl t.items (k + 1) = true := by unfold fndB; rw [any_step HQ.out.1, show decide ((kk, vv).2 ≤ vl) = false from decide_eq_false (show ¬ vv ≤ vl by have := HC4.out; omega), Bool.or_false]; exact (show (anyTo vl t.items && !anyTo vl (t.items.take k)) = true from HFV.out)
                    have ho := HtO.out
                    try simp only [Bool.not_true, Bool.not_false] at ho
                    refine END.out ((((W2.setCell ⟨w5.heap.size + 2, 0, none⟩ (.int .u64 vv)).setCell ⟨w5.heap.size + 3, 0, none⟩ (.bool true)).setCell ⟨w5.heap.size + 4, 0, none⟩ (.int .u64 vv)).setCell ⟨w5.heap.size + 5, 0, none⟩ (.bool true)) true (vv) (vv) true true (holN HSZ.out (j := 5) (by decide) (holN HSZ.out (j := 4) (by decide) (holN HSZ.out (j := 3) (by decide) (holN HSZ.out (j := 2) (by decide) (Holds.refl H10.out))))) ((frN (j := 5) (by decide) (by decide) ((frN (j := 4) (by decide) (by decide) ((frN (j := 3) (by decide) (by decide) ((frN (j := 2) (by decide) (by decide) (Fr.refl (fun j => w5.heap.size + 1 ≤ j ∧ j ≤ w5.heap.size + 6) W2))))))))) ?_ ?_ ?_ ?_ ?_ ?_ hup hsu hfk
                    all_goals try simp only [Bool.not_true, Bool.not_false]
                    all_goals repeat' (with_reducible first | exact HtF.out | exact HtS.out | exact HtH.out | exact HtA.out | exact HtB.out | exact ho | apply putN | (refine farN ?_ (by decide)))
              | false =>
                by_cases g1 : kq.1 = 0
                · rw [g1] at K0
                  by_cases g2 : kq.2 = 0
                  · rw [g2] at K1
                    clear g1 g2
                    by_cases hc4 : vv ≤ vl
                    · have d4 : decide (vv ≤ vl) = true := decide_eq_true hc4
                      clear hc4
                      gi_wp2
                      have hup : (uptoU nm (t.items.take (k + 1))).getD 0 = vv ∧ (uptoU nm (t.items.take (k + 1))).isSome = true := by rw [upto_step HQ.out.1, if_pos (show kk.1 ≤ nm by have := HC1.out; omega), show more minV _ _ = _ from opt_less HSV.out.2 HSV.out.1 (by have := HC2.out; omega)]; exact ⟨rfl, rfl⟩
                      have hsu : (sumFrom ofV minV none (t.items.take (k + 1))).getD 0 = vv ∧ (sumFrom ofV minV none (t.items.take (k + 1))).isSome = true := by rw [sum_step HQ.out.1, show more minV _ _ = _ from opt_less HAV.out.2 HAV.out.1 (by have := HC3.out; omega)]; exact ⟨rfl, rfl⟩
                      have hfk : fndB vl t.items (k + 1) = false := by unfold fndB; rw [any_step HQ.out.1]; have h := HFV.out; unfold fndB at h; revert h; cases anyTo vl t.items <;> cases anyTo vl (t.items.take k) <;> simp
                      have ho := HtO.out
                      try simp only [Bool.not_true, Bool.not_false] at ho
                      refine END.out ((((W2.setCell ⟨w5.heap.size + 2, 0, none⟩ (.int .u64 vv)).setCell ⟨w5.heap.size + 3, 0, none⟩ (.bool true)).setCell ⟨w5.heap.size + 4, 0, none⟩ (.int .u64 vv)).setCell ⟨w5.heap.size + 5, 0, none⟩ (.bool true)) false (vv) (vv) true true (holN HSZ.out (j := 5) (by decide) (holN HSZ.out (j := 4) (by decide) (holN HSZ.out (j := 3) (by decide) (holN HSZ.out (j := 2) (by decide) (Holds.refl H10.out))))) ((frN (j := 5) (by decide) (by decide) ((frN (j := 4) (by decide) (by decide) ((frN (j := 3) (by decide) (by decide) ((frN (j := 2) (by decide) (by decide) (Fr.refl (fun j => w5.heap.size + 1 ≤ j ∧ j ≤ w5.heap.size + 6) W2))))))))) ?_ ?_ ?_ ?_ ?_ ?_ hup hsu hfk
                      all_goals try simp only [Bool.not_true, Bool.not_false]
                      all_goals repeat' (with_reducible first | exact HtF.out | exact HtS.out | exact HtH.out | exact HtA.out | exact HtB.out | exact ho | apply putN | (refine farN ?_ (by decide)))
                    · have d4 : decide (vv ≤ vl) = false := decide_eq_false hc4
                      clear hc4
                      gi_wp2
                      have hup : (uptoU nm (t.items.take (k + 1))).getD 0 = vv ∧ (uptoU nm (t.items.take (k + 1))).isSome = true := by rw [upto_step HQ.out.1, if_pos (show kk.1 ≤ nm by have := HC1.out; omega), show more minV _ _ = _ from opt_less HSV.out.2 HSV.out.1 (by have := HC2.out; omega)]; exact ⟨rfl, rfl⟩
                      have hsu : (sumFrom ofV minV none (t.items.take (k + 1))).getD 0 = vv ∧ (sumFrom ofV minV none (t.items.take (k + 1))).isSome = true := by rw [sum_step HQ.out.1, show more minV _ _ = _ from opt_less HAV.out.2 HAV.out.1 (by have := HC3.out; omega)]; exact ⟨rfl, rfl⟩
                      have hfk : fndB vl t.items (k + 1) = false := by unfold fndB; rw [any_step HQ.out.1]; have h := HFV.out; unfold fndB at h; revert h; cases anyTo vl t.items <;> cases anyTo vl (t.items.take k) <;> simp
                      have ho := HtO.out
                      try simp only [Bool.not_true, Bool.not_false] at ho
                      refine END.out ((((W2.setCell ⟨w5.heap.size + 2, 0, none⟩ (.int .u64 vv)).setCell ⟨w5.heap.size + 3, 0, none⟩ (.bool true)).setCell ⟨w5.heap.size + 4, 0, none⟩ (.int .u64 vv)).setCell ⟨w5.heap.size + 5, 0, none⟩ (.bool true)) false (vv) (vv) true true (holN HSZ.out (j := 5) (by decide) (holN HSZ.out (j := 4) (by decide) (holN HSZ.out (j := 3) (by decide) (holN HSZ.out (j := 2) (by decide) (Holds.refl H10.out))))) ((frN (j := 5) (by decide) (by decide) ((frN (j := 4) (by decide) (by decide) ((frN (j := 3) (by decide) (by decide) ((frN (j := 2) (by decide) (by decide) (Fr.refl (fun j => w5.heap.size + 1 ≤ j ∧ j ≤ w5.heap.size + 6) W2))))))))) ?_ ?_ ?_ ?_ ?_ ?_ hup hsu hfk
                      all_goals try simp only [Bool.not_true, Bool.not_false]
                      all_goals repeat' (with_reducible first | exact HtF.out | exact HtS.out | exact HtH.out | exact HtA.out | exact HtB.out | exact ho | apply putN | (refine farN ?_ (by decide)))
                  · have g3 : (kq.2 == 0) = false := beq_eq_false_iff_ne.2 g2
                    clear g1 g2
                    gi_wp2
                    have hup : (uptoU nm (t.items.take (k + 1))).getD 0 = vv ∧ (uptoU nm (t.items.take (k + 1))).isSome = true := by rw [upto_step HQ.out.1, if_pos (show kk.1 ≤ nm by have := HC1.out; omega), show more minV _ _ = _ from opt_less HSV.out.2 HSV.out.1 (by have := HC2.out; omega)]; exact ⟨rfl, rfl⟩
                    have hsu : (sumFrom ofV minV none (t.items.take (k + 1))).getD 0 = vv ∧ (sumFrom ofV minV none (t.items.take (k + 1))).isSome = true := by rw [sum_step HQ.out.1, show more minV _ _ = _ from opt_less HAV.out.2 HAV.out.1 (by have := HC3.out; omega)]; exact ⟨rfl, rfl⟩
                    have hfk : fndB vl t.items (k + 1) = false := by unfold fndB; rw [any_step HQ.out.1]; have h := HFV.out; unfold fndB at h; revert h; cases anyTo vl t.items <;> cases anyTo vl (t.items.take k) <;> simp
                    have ho := HtO.out
                    try simp only [Bool.not_true, Bool.not_false] at ho
                    refine END.out ((((W2.setCell ⟨w5.heap.size + 2, 0, none⟩ (.int .u64 vv)).setCell ⟨w5.heap.size + 3, 0, none⟩ (.bool true)).setCell ⟨w5.heap.size + 4, 0, none⟩ (.int .u64 vv)).setCell ⟨w5.heap.size + 5, 0, none⟩ (.bool true)) false (vv) (vv) true true (holN HSZ.out (j := 5) (by decide) (holN HSZ.out (j := 4) (by decide) (holN HSZ.out (j := 3) (by decide) (holN HSZ.out (j := 2) (by decide) (Holds.refl H10.out))))) ((frN (j := 5) (by decide) (by decide) ((frN (j := 4) (by decide) (by decide) ((frN (j := 3) (by decide) (by decide) ((frN (j := 2) (by decide) (by decide) (Fr.refl (fun j => w5.heap.size + 1 ≤ j ∧ j ≤ w5.heap.size + 6) W2))))))))) ?_ ?_ ?_ ?_ ?_ ?_ hup hsu hfk
                    all_goals try simp only [Bool.not_true, Bool.not_false]
                    all_goals repeat' (with_reducible first | exact HtF.out | exact HtS.out | exact HtH.out | exact HtA.out | exact HtB.out | exact ho | apply putN | (refine farN ?_ (by decide)))
                · have g3 : (kq.1 == 0) = false := beq_eq_false_iff_ne.2 g1
                  clear g1
                  gi_wp2
                  have hup : (uptoU nm (t.items.take (k + 1))).getD 0 = vv ∧ (uptoU nm (t.items.take (k + 1))).isSome = true := by rw [upto_step HQ.out.1, if_pos (show kk.1 ≤ nm by have := HC1.out; omega), show more minV _ _ = _ from opt_less HSV.out.2 HSV.out.1 (by have := HC2.out; omega)]; exact ⟨rfl, rfl⟩
                  have hsu : (sumFrom ofV minV none (t.items.take (k + 1))).getD 0 = vv ∧ (sumFrom ofV minV none (t.items.take (k + 1))).isSome = true := by rw [sum_step HQ.out.1, show more minV _ _ = _ from opt_less HAV.out.2 HAV.out.1 (by have := HC3.out; omega)]; exact ⟨rfl, rfl⟩
                  have hfk : fndB vl t.items (k + 1) = false := by unfold fndB; rw [any_step HQ.out.1]; have h := HFV.out; unfold fndB at h; revert h; cases anyTo vl t.items <;> cases anyTo vl (t.items.take k) <;> simp
                  have ho := HtO.out
                  try simp only [Bool.not_true, Bool.not_false] at ho
                  refine END.out ((((W2.setCell ⟨w5.heap.size + 2, 0, none⟩ (.int .u64 vv)).setCell ⟨w5.heap.size + 3, 0, none⟩ (.bool true)).setCell ⟨w5.heap.size + 4, 0, none⟩ (.int .u64 vv)).setCell ⟨w5.heap.size + 5, 0, none⟩ (.bool true)) false (vv) (vv) true true (holN HSZ.out (j := 5) (by decide) (holN HSZ.out (j := 4) (by decide) (holN HSZ.out (j := 3) (by decide) (holN HSZ.out (j := 2) (by decide) (Holds.refl H10.out))))) ((frN (j := 5) (by decide) (by decide) ((frN (j := 4) (by decide) (by decide) ((frN (j := 3) (by decide) (by decide) ((frN (j := 2) (by decide) (by decide) (Fr.refl (fun j => w5.heap.size + 1 ≤ j ∧ j ≤ w5.heap.size + 6) W2))))))))) ?_ ?_ ?_ ?_ ?_ ?_ hup hsu hfk
                  all_goals try simp only [Bool.not_true, Bool.not_false]
                  all_goals repeat' (with_reducible first | exact HtF.out | exact HtS.out | exact HtH.out | exact HtA.out | exact HtB.out | exact ho | apply putN | (refine farN ?_ (by decide)))
            · have HC3 := Lib.hid hc3
              have d3 : decide (vv < a0) = false := decide_eq_false hc3
              clear hc3
              cases fb with
              | true =>
                by_cases hc4 : vv ≤ vl
                · have HC4 := Lib.hid hc4
                  have d4 : decide (vv ≤ vl) = true := decide_eq_true hc4
                  have hkk : kq = kk := by
                    have h := HFV.out
                    unfold fndB at h
                    simp only [Bool.and_eq_true, Bool.not_eq_true'] at h
                    rw [← HKQ.out, find_here HT5.out.is.rises HQ.out.1 h.2 hc4]
                    rfl
                  have g1 : kq.1 = kk.1 := by rw [hkk]
                  have g2 : kq.2 = kk.2 := by rw [hkk]
                  rw [g1] at K0
                  rw [g2] at K1
                  clear hc4 hkk g1 g2
                  gi_wp2
                  have hup : (uptoU nm (t.items.take (k + 1))).getD 0 = vv ∧ (uptoU nm (t.items.take (k + 1))).isSome = true := by rw [upto_step HQ.out.1, if_pos (show kk.1 ≤ nm by have := HC1.out; omega), show more minV _ _ = _ from opt_less HSV.out.2 HSV.out.1 (by have := HC2.out; omega)]; exact ⟨rfl, rfl⟩
                  have hsu : (sumFrom ofV minV none (t.items.take (k + 1))).getD 0 = a0 ∧ (sumFrom ofV minV none (t.items.take (k + 1))).isSome = true := by rw [sum_step HQ.out.1, show more minV _ _ = _ from opt_keep HAV.out.2 HAV.out.1 (by have := HC3.out; omega)]; exact ⟨rfl, rfl⟩
                  have hfk : fndB vl t.items (k + 1) = false := by unfold fndB; rw [any_step HQ.out.1, show decide ((kk, vv).2 ≤ vl) = true from decide_eq_true (show vv ≤ vl by have := HC4.out; omega)]; simp
                  have ho := HtO.out
                  try simp only [Bool.not_true, Bool.not_false] at ho
                  refine END.out ((((W2.setCell ⟨w5.heap.size + 2, 0, none⟩ (.int .u64 vv)).setCell ⟨w5.heap.size + 3, 0, none⟩ (.bool true)).setCell ⟨w5.heap.size + 6, 0, none⟩ (.bool true)).setCell ⟨w5.heap.size + 1, 0, none⟩ (.bool false)) false (vv) (a0) true true (holN HSZ.out (j := 1) (by decide) (holN HSZ.out (j := 6) (by decide) (holN HSZ.out (j := 3) (by decide) (holN HSZ.out (j := 2) (by decide) (Holds.refl H10.out))))) ((frN (j := 1) (by decide) (by decide) ((frN (j := 6) (by decide) (by decide) ((frN (j := 3) (by decide) (by decide) ((frN (j := 2) (by decide) (by decide) (Fr.refl (fun j => w5.heap.size + 1 ≤ j ∧ j ≤ w5.heap.size + 6) W2))))))))) ?_ ?_ ?_ ?_ ?_ ?_ hup hsu hfk
                  all_goals try simp only [Bool.not_true, Bool.not_false]
                  all_goals repeat' (with_reducible first | exact HtF.out | exact HtS.out | exact HtH.out | exact HtA.out | exact HtB.out | exact ho | apply putN | (refine farN ?_ (by decide)))
                · have HC4 := Lib.hid hc4
                  have hkk : kq ≠ kk := by
                    have h := HFV.out
                    unfold fndB at h
                    simp only [Bool.and_eq_true, Bool.not_eq_true'] at h
                    rw [← HKQ.out]
                    exact find_not HT5.out.is.rises HQ.out.1 hc4 h.1
                  have d4 : decide (vv ≤ vl) = false := decide_eq_false hc4
                  clear hc4
                  by_cases g1 : kk.1 = kq.1
                  · have g2 : (kk.2 == kq.2) = false := beq_eq_false_iff_ne.2 (fun e => hkk (Prod.ext g1.symm e.symm))
                    rw [← g1] at K0
                    clear g1 hkk
                    gi_wp2
                    have hup : (uptoU nm (t.items.take (k + 1))).getD 0 = vv ∧ (uptoU nm (t.items.take (k + 1))).isSome = true := by rw [upto_step HQ.out.1, if_pos (show kk.1 ≤ nm by have := HC1.out; omega), show more minV _ _ = _ from opt_less HSV.out.2 HSV.out.1 (by have := HC2.out; omega)]; exact ⟨rfl, rfl⟩
                    have hsu : (sumFrom ofV minV none (t.items.take (k + 1))).getD 0 = a0 ∧ (sumFrom ofV minV none (t.items.take (k + 1))).isSome = true := by rw [sum_step HQ.out.1, show more minV _ _ = _ from opt_keep HAV.out.2 HAV.out.1 (by have := HC3.out; omega)]; exact ⟨rfl, rfl⟩
                    have hfk : fndB vl t.items (k + 1) = true := by unfold fndB; rw [any_step HQ.out.1, show decide ((kk, vv).2 ≤ vl) = false from decide_eq_false (show ¬ vv ≤ vl by have := HC4.out; omega), Bool.or_false]; exact (show (anyTo vl t.items && !anyTo vl (t.items.take k)) = true from HFV.out)
                    have ho := HtO.out
                    try simp only [Bool.not_true, Bool.not_false] at ho
                    refine END.out ((W2.setCell ⟨w5.heap.size + 2, 0, none⟩ (.int .u64 vv)).setCell ⟨w5.heap.size + 3, 0, none⟩ (.bool true)) true (vv) (a0) true true (holN HSZ.out (j := 3) (by decide) (holN HSZ.out (j := 2) (by decide) (Holds.refl H10.out))) ((frN (j := 3) (by decide) (by decide) ((frN (j := 2) (by decide) (by decide) (Fr.refl (fun j => w5.heap.size + 1 ≤ j ∧ j ≤ w5.heap.size + 6) W2))))) ?_ ?_ ?_ ?_ ?_ ?_ hup hsu hfk
                    all_goals try simp only [Bool.not_true, Bool.not_false]
                    all_goals repeat' (with_reducible first | exact HtF.out | exact HtS.out | exact HtH.out | exact HtA.out | exact HtB.out | exact ho | apply putN | (refine farN ?_ (by decide)))
                  · have g2 : (kk.1 == kq.1) = false := beq_eq_false_iff_ne.2 g1
                    clear g1 hkk
                    gi_wp2
                    have hup : (uptoU nm (t.items.take (k + 1))).getD 0 = vv ∧ (uptoU nm (t.items.take (k + 1))).isSome = true := by rw [upto_step HQ.out.1, if_pos (show kk.1 ≤ nm by have := HC1.out; omega), show more minV _ _ = _ from opt_less HSV.out.2 HSV.out.1 (by have := HC2.out; omega)]; exact ⟨rfl, rfl⟩
                    have hsu : (sumFrom ofV minV none (t.items.take (k + 1))).getD 0 = a0 ∧ (sumFrom ofV minV none (t.items.take (k + 1))).isSome = true := by rw [sum_step HQ.out.1, show more minV _ _ = _ from opt_keep HAV.out.2 HAV.out.1 (by have := HC3.out; omega)]; exact ⟨rfl, rfl⟩
                    have hfk : fndB vl t.items (k + 1) = true := by unfold fndB; rw [any_step HQ.out.1, show decide ((kk, vv).2 ≤ vl) = false from decide_eq_false (show ¬ vv ≤ vl by have := HC4.out; omega), Bool.or_false]; exact (show (anyTo vl t.items && !anyTo vl (t.items.take k)) = true from HFV.out)
                    have ho := HtO.out
                    try simp only [Bool.not_true, Bool.not_false] at ho
                    refine END.out ((W2.setCell ⟨w5.heap.size + 2, 0, none⟩ (.int .u64 vv)).setCell ⟨w5.heap.size + 3, 0, none⟩ (.bool true)) true (vv) (a0) true true (holN HSZ.out (j := 3) (by decide) (holN HSZ.out (j := 2) (by decide) (Holds.refl H10.out))) ((frN (j := 3) (by decide) (by decide) ((frN (j := 2) (by decide) (by decide) (Fr.refl (fun j => w5.heap.size + 1 ≤ j ∧ j ≤ w5.heap.size + 6) W2))))) ?_ ?_ ?_ ?_ ?_ ?_ hup hsu hfk
                    all_goals try simp only [Bool.not_true, Bool.not_false]
                    all_goals repeat' (with_reducible first | exact HtF.out | exact HtS.out | exact HtH.out | exact HtA.out | exact HtB.out | exact ho | apply putN | (refine farN ?_ (by decide)))
              | false =>
                by_cases g1 : kq.1 = 0
                · rw [g1] at K0
                  by_cases g2 : kq.2 = 0
                  · rw [g2] at K1
                    clear g1 g2
                    by_cases hc4 : vv ≤ vl
                    · have d4 : decide (vv ≤ vl) = true := decide_eq_true hc4
                      clear hc4
                      gi_wp2
                      have hup : (uptoU nm (t.items.take (k + 1))).getD 0 = vv ∧ (uptoU nm (t.items.take (k + 1))).isSome = true := by rw [upto_step HQ.out.1, if_pos (show kk.1 ≤ nm by have := HC1.out; omega), show more minV _ _ = _ from opt_less HSV.out.2 HSV.out.1 (by have := HC2.out; omega)]; exact ⟨rfl, rfl⟩
                      have hsu : (sumFrom ofV minV none (t.items.take (k + 1))).getD 0 = a0 ∧ (sumFrom ofV minV none (t.items.take (k + 1))).isSome = true := by rw [sum_step HQ.out.1, show more minV _ _ = _ from opt_keep HAV.out.2 HAV.out.1 (by have := HC3.out; omega)]; exact ⟨rfl, rfl⟩
                      have hfk : fndB vl t.items (k + 1) = false := by unfold fndB; rw [any_step HQ.out.1]; have h := HFV.out; unfold fndB at h; revert h; cases anyTo vl t.items <;> cases anyTo vl (t.items.take k) <;> simp
                      have ho := HtO.out
                      try simp only [Bool.not_true, Bool.not_false] at ho
                      refine END.out ((W2.setCell ⟨w5.heap.size + 2, 0, none⟩ (.int .u64 vv)).setCell ⟨w5.heap.size + 3, 0, none⟩ (.bool true)) false (vv) (a0) true true (holN HSZ.out (j := 3) (by decide) (holN HSZ.out (j := 2) (by decide) (Holds.refl H10.out))) ((frN (j := 3) (by decide) (by decide) ((frN (j := 2) (by decide) (by decide) (Fr.refl (fun j => w5.heap.size + 1 ≤ j ∧ j ≤ w5.heap.size + 6) W2))))) ?_ ?_ ?_ ?_ ?_ ?_ hup hsu hfk
                      all_goals try simp only [Bool.not_true, Bool.not_false]
                      all_goals repeat' (with_reducible first | exact HtF.out | exact HtS.out | exact HtH.out | exact HtA.out | exact HtB.out | exact ho | apply putN | (refine farN ?_ (by decide)))
                    · have d4 : decide (vv ≤ vl) = false := decide_eq_false hc4
                      clear hc4
                      gi_wp2
                      have hup : (uptoU nm (t.items.take (k + 1))).getD 0 = vv ∧ (uptoU nm (t.items.take (k + 1))).isSome = true := by rw [upto_step HQ.out.1, if_pos (show kk.1 ≤ nm by have := HC1.out; omega), show more minV _ _ = _ from opt_less HSV.out.2 HSV.out.1 (by have := HC2.out; omega)]; exact ⟨rfl, rfl⟩
                      have hsu : (sumFrom ofV minV none (t.items.take (k + 1))).getD 0 = a0 ∧ (sumFrom ofV minV none (t.items.take (k + 1))).isSome = true := by rw [sum_step HQ.out.1, show more minV _ _ = _ from opt_keep HAV.out.2 HAV.out.1 (by have := HC3.out; omega)]; exact ⟨rfl, rfl⟩
                      have hfk : fndB vl t.items (k + 1) = false := by unfold fndB; rw [any_step HQ.out.1]; have h := HFV.out; unfold fndB at h; revert h; cases anyTo vl t.items <;> cases anyTo vl (t.items.take k) <;> simp
                      have ho := HtO.out
                      try simp only [Bool.not_true, Bool.not_false] at ho
                      refine END.out ((W2.setCell ⟨w5.heap.size + 2, 0, none⟩ (.int .u64 vv)).setCell ⟨w5.heap.size + 3, 0, none⟩ (.bool true)) false (vv) (a0) true true (holN HSZ.out (j := 3) (by decide) (holN HSZ.out (j := 2) (by decide) (Holds.refl H10.out))) ((frN (j := 3) (by decide) (by decide) ((frN (j := 2) (by decide) (by decide) (Fr.refl (fun j => w5.heap.size + 1 ≤ j ∧ j ≤ w5.heap.size + 6) W2))))) ?_ ?_ ?_ ?_ ?_ ?_ hup hsu hfk
                      all_goals try simp only [Bool.not_true, Bool.not_false]
                      all_goals repeat' (with_reducible first | exact HtF.out | exact HtS.out | exact HtH.out | exact HtA.out | exact HtB.out | exact ho | apply putN | (refine farN ?_ (by decide)))
                  · have g3 : (kq.2 == 0) = false := beq_eq_false_iff_ne.2 g2
                    clear g1 g2
                    gi_wp2
                    have hup : (uptoU nm (t.items.take (k + 1))).getD 0 = vv ∧ (uptoU nm (t.items.take (k + 1))).isSome = true := by rw [upto_step HQ.out.1, if_pos (show kk.1 ≤ nm by have := HC1.out; omega), show more minV _ _ = _ from opt_less HSV.out.2 HSV.out.1 (by have := HC2.out; omega)]; exact ⟨rfl, rfl⟩
                    have hsu : (sumFrom ofV minV none (t.items.take (k + 1))).getD 0 = a0 ∧ (sumFrom ofV minV none (t.items.take (k + 1))).isSome = true := by rw [sum_step HQ.out.1, show more minV _ _ = _ from opt_keep HAV.out.2 HAV.out.1 (by have := HC3.out; omega)]; exact ⟨rfl, rfl⟩
                    have hfk : fndB vl t.items (k + 1) = false := by unfold fndB; rw [any_step HQ.out.1]; have h := HFV.out; unfold fndB at h; revert h; cases anyTo vl t.items <;> cases anyTo vl (t.items.take k) <;> simp
                    have ho := HtO.out
                    try simp only [Bool.not_true, Bool.not_false] at ho
                    refine END.out ((W2.setCell ⟨w5.heap.size + 2, 0, none⟩ (.int .u64 vv)).setCell ⟨w5.heap.size + 3, 0, none⟩ (.bool true)) false (vv) (a0) true true (holN HSZ.out (j := 3) (by decide) (holN HSZ.out (j := 2) (by decide) (Holds.refl H10.out))) ((frN (j := 3) (by decide) (by decide) ((frN (j := 2) (by decide) (by decide) (Fr.refl (fun j => w5.heap.size + 1 ≤ j ∧ j ≤ w5.heap.size + 6) W2))))) ?_ ?_ ?_ ?_ ?_ ?_ hup hsu hfk
                    all_goals try simp only [Bool.not_true, Bool.not_false]
                    all_goals repeat' (with_reducible first | exact HtF.out | exact HtS.out | exact HtH.out | exact HtA.out | exact HtB.out | exact ho | apply putN | (refine farN ?_ (by decide)))
                · have g3 : (kq.1 == 0) = false := beq_eq_false_iff_ne.2 g1
                  clear g1
                  gi_wp2
                  have hup : (uptoU nm (t.items.take (k + 1))).getD 0 = vv ∧ (uptoU nm (t.items.take (k + 1))).isSome = true := by rw [upto_step HQ.out.1, if_pos (show kk.1 ≤ nm by have := HC1.out; omega), show more minV _ _ = _ from opt_less HSV.out.2 HSV.out.1 (by have := HC2.out; omega)]; exact ⟨rfl, rfl⟩
                  have hsu : (sumFrom ofV minV none (t.items.take (k + 1))).getD 0 = a0 ∧ (sumFrom ofV minV none (t.items.take (k + 1))).isSome = true := by rw [sum_step HQ.out.1, show more minV _ _ = _ from opt_keep HAV.out.2 HAV.out.1 (by have := HC3.out; omega)]; exact ⟨rfl, rfl⟩
                  have hfk : fndB vl t.items (k + 1) = false := by unfold fndB; rw [any_step HQ.out.1]; have h := HFV.out; unfold fndB at h; revert h; cases anyTo vl t.items <;> cases anyTo vl (t.items.take k) <;> simp
                  have ho := HtO.out
                  try simp only [Bool.not_true, Bool.not_false] at ho
                  refine END.out ((W2.setCell ⟨w5.heap.size + 2, 0, none⟩ (.int .u64 vv)).setCell ⟨w5.heap.size + 3, 0, none⟩ (.bool true)) false (vv) (a0) true true (holN HSZ.out (j := 3) (by decide) (holN HSZ.out (j := 2) (by decide) (Holds.refl H10.out))) ((frN (j := 3) (by decide) (by decide) ((frN (j := 2) (by decide) (by decide) (Fr.refl (fun j => w5.heap.size + 1 ≤ j ∧ j ≤ w5.heap.size + 6) W2))))) ?_ ?_ ?_ ?_ ?_ ?_ hup hsu hfk
                  all_goals try simp only [Bool.not_true, Bool.not_false]
                  all_goals repeat' (with_reducible first | exact HtF.out | exact HtS.out | exact HtH.out | exact HtA.out | exact HtB.out | exact ho | apply putN | (refine farN ?_ (by decide)))
        · have HC2 := Lib.hid hc2
          have d2 : decide (vv < s0) = false := decide_eq_false hc2
          clear hc2
          cases has with
          | false =>
            cases fb with
            | true =>
              by_cases hc4 : vv ≤ vl
              · have HC4 := Lib.hid hc4
                have d4 : decide (vv ≤ vl) = true := decide_eq_true hc4
                have hkk : kq = kk := by
                  have h := HFV.out
                  unfold fndB at h
                  simp only [Bool.and_eq_true, Bool.not_eq_true'] at h
                  rw [← HKQ.out, find_here HT5.out.is.rises HQ.out.1 h.2 hc4]
                  rfl
                have g1 : kq.1 = kk.1 := by rw [hkk]
                have g2 : kq.2 = kk.2 := by rw [hkk]
                rw [g1] at K0
                rw [g2] at K1
                clear hc4 hkk g1 g2
                gi_wp2
                have hup : (uptoU nm (t.items.take (k + 1))).getD 0 = s0 ∧ (uptoU nm (t.items.take (k + 1))).isSome = true := by rw [upto_step HQ.out.1, if_pos (show kk.1 ≤ nm by have := HC1.out; omega), show more minV _ _ = _ from opt_keep HSV.out.2 HSV.out.1 (by have := HC2.out; omega)]; exact ⟨rfl, rfl⟩
                have hsu : (sumFrom ofV minV none (t.items.take (k + 1))).getD 0 = vv ∧ (sumFrom ofV minV none (t.items.take (k + 1))).isSome = true := by rw [sum_step HQ.out.1, show more minV _ _ = _ from opt_none HAV.out.2 vv]; exact ⟨rfl, rfl⟩
                have hfk : fndB vl t.items (k + 1) = false := by unfold fndB; rw [any_step HQ.out.1, show decide ((kk, vv).2 ≤ vl) = true from decide_eq_true (show vv ≤ vl by have := HC4.out; omega)]; simp
                have ho := HtO.out
                try simp only [Bool.not_true, Bool.not_false] at ho
                refine END.out ((((W2.setCell ⟨w5.heap.size + 4, 0, none⟩ (.int .u64 vv)).setCell ⟨w5.heap.size + 5, 0, none⟩ (.bool true)).setCell ⟨w5.heap.size + 6, 0, none⟩ (.bool true)).setCell ⟨w5.heap.size + 1, 0, none⟩ (.bool false)) false (s0) (vv) true true (holN HSZ.out (j := 1) (by decide) (holN HSZ.out (j := 6) (by decide) (holN HSZ.out (j := 5) (by decide) (holN HSZ.out (j := 4) (by decide) (Holds.refl H10.out))))) ((frN (j := 1) (by decide) (by decide) ((frN (j := 6) (by decide) (by decide) ((frN (j := 5) (by decide) (by decide) ((frN (j := 4) (by decide) (by decide) (Fr.refl (fun j => w5.heap.size + 1 ≤ j ∧ j ≤ w5.heap.size + 6) W2))))))))) ?_ ?_ ?_ ?_ ?_ ?_ hup hsu hfk
                all_goals try simp only [Bool.not_true, Bool.not_false]
                all_goals repeat' (with_reducible first | exact HtF.out | exact HtS.out | exact HtH.out | exact HtA.out | exact HtB.out | exact ho | apply putN | (refine farN ?_ (by decide)))
              · have HC4 := Lib.hid hc4
                have hkk : kq ≠ kk := by
                  have h := HFV.out
                  unfold fndB at h
                  simp only [Bool.and_eq_true, Bool.not_eq_true'] at h
                  rw [← HKQ.out]
                  exact find_not HT5.out.is.rises HQ.out.1 hc4 h.1
                have d4 : decide (vv ≤ vl) = false := decide_eq_false hc4
                clear hc4
                by_cases g1 : kk.1 = kq.1
                · have g2 : (kk.2 == kq.2) = false := beq_eq_false_iff_ne.2 (fun e => hkk (Prod.ext g1.symm e.symm))
                  rw [← g1] at K0
                  clear g1 hkk
                  gi_wp2
                  have hup : (uptoU nm (t.items.take (k + 1))).getD 0 = s0 ∧ (uptoU nm (t.items.take (k + 1))).isSome = true := by rw [upto_step HQ.out.1, if_pos (show kk.1 ≤ nm by have := HC1.out; omega), show more minV _ _ = _ from opt_keep HSV.out.2 HSV.out.1 (by have := HC2.out; omega)]; exact ⟨rfl, rfl⟩
                  have hsu : (sumFrom ofV minV none (t.items.take (k + 1))).getD 0 = vv ∧ (sumFrom ofV minV none (t.items.take (k + 1))).isSome = true := by rw [sum_step HQ.out.1, show more minV _ _ = _ from opt_none HAV.out.2 vv]; exact ⟨rfl, rfl⟩
                  have hfk : fndB vl t.items (k + 1) = true := by unfold fndB; rw [any_step HQ.out.1, show decide ((kk, vv).2 ≤ vl) = false from decide_eq_false (show ¬ vv ≤ vl by have := HC4.out; omega), Bool.or_false]; exact (show (anyTo vl t.items && !anyTo vl (t.items.take k)) = true from HFV.out)
                  have ho := HtO.out
                  try simp only [Bool.not_true, Bool.not_false] at ho
                  refine END.out ((W2.setCell ⟨w5.heap.size + 4, 0, none⟩ (.int .u64 vv)).setCell ⟨w5.heap.size + 5, 0, none⟩ (.bool true)) true (s0) (vv) true true (holN HSZ.out (j := 5) (by decide) (holN HSZ.out (j := 4) (by decide) (Holds.refl H10.out))) ((frN (j := 5) (by decide) (by decide) ((frN (j := 4) (by decide) (by decide) (Fr.refl (fun j => w5.heap.size + 1 ≤ j ∧ j ≤ w5.heap.size + 6) W2))))) ?_ ?_ ?_ ?_ ?_ ?_ hup hsu hfk
                  all_goals try simp only [Bool.not_true, Bool.not_false]
                  all_goals repeat' (with_reducible first | exact HtF.out | exact HtS.out | exact HtH.out | exact HtA.out | exact HtB.out | exact ho | apply putN | (refine farN ?_ (by decide)))
                · have g2 : (kk.1 == kq.1) = false := beq_eq_false_iff_ne.2 g1
                  clear g1 hkk
                  gi_wp2
                  have hup : (uptoU nm (t.items.take (k + 1))).getD 0 = s0 ∧ (uptoU nm (t.items.take (k + 1))).isSome = true := by rw [upto_step HQ.out.1, if_pos (show kk.1 ≤ nm by have := HC1.out; omega), show more minV _ _ = _ from opt_keep HSV.out.2 HSV.out.1 (by have := HC2.out; omega)]; exact ⟨rfl, rfl⟩
                  have hsu : (sumFrom ofV minV none (t.items.take (k + 1))).getD 0 = vv ∧ (sumFrom ofV minV none (t.items.take (k + 1))).isSome = true := by rw [sum_step HQ.out.1, show more minV _ _ = _ from opt_none HAV.out.2 vv]; exact ⟨rfl, rfl⟩
                  have hfk : fndB vl t.items (k + 1) = true := by unfold fndB; rw [any_step HQ.out.1, show decide ((kk, vv).2 ≤ vl) = false from decide_eq_false (show ¬ vv ≤ vl by have := HC4.out; omega), Bool.or_false]; exact (show (anyTo vl t.items && !anyTo vl (t.items.take k)) = true from HFV.out)
                  have ho := HtO.out
                  try simp only [Bool.not_true, Bool.not_false] at ho
                  refine END.out ((W2.setCell ⟨w5.heap.size + 4, 0, none⟩ (.int .u64 vv)).setCell ⟨w5.heap.size + 5, 0, none⟩ (.bool true)) true (s0) (vv) true true (holN HSZ.out (j := 5) (by decide) (holN HSZ.out (j := 4) (by decide) (Holds.refl H10.out))) ((frN (j := 5) (by decide) (by decide) ((frN (j := 4) (by decide) (by decide) (Fr.refl (fun j => w5.heap.size + 1 ≤ j ∧ j ≤ w5.heap.size + 6) W2))))) ?_ ?_ ?_ ?_ ?_ ?_ hup hsu hfk
                  all_goals try simp only [Bool.not_true, Bool.not_false]
                  all_goals repeat' (with_reducible first | exact HtF.out | exact HtS.out | exact HtH.out | exact HtA.out | exact HtB.out | exact ho | apply putN | (refine farN ?_ (by decide)))
            | false =>
              by_cases g1 : kq.1 = 0
              · rw [g1] at K0
                by_cases g2 : kq.2 = 0
                · rw [g2] at K1
                  clear g1 g2
                  by_cases hc4 : vv ≤ vl
                  · have d4 : decide (vv ≤ vl) = true := decide_eq_true hc4
                    clear hc4
                    gi_wp2
                    have hup : (uptoU nm (t.items.take (k + 1))).getD 0 = s0 ∧ (uptoU nm (t.items.take (k + 1))).isSome = true := by rw [upto_step HQ.out.1, if_pos (show kk.1 ≤ nm by have := HC1.out; omega), show more minV _ _ = _ from opt_keep HSV.out.2 HSV.out.1 (by have := HC2.out; omega)]; exact ⟨rfl, rfl⟩
                    have hsu : (sumFrom ofV minV none (t.items.take (k + 1))).getD 0 = vv ∧ (sumFrom ofV minV none (t.items.take (k + 1))).isSome = true := by rw [sum_step HQ.out.1, show more minV _ _ = _ from opt_none HAV.out.2 vv]; exact ⟨rfl, rfl⟩
                    have hfk : fndB vl t.items (k + 1) = false := by unfold fndB; rw [any_step HQ.out.1]; have h := HFV.out; unfold fndB at h; revert h; cases anyTo vl t.items <;> cases anyTo vl (t.items.take k) <;> simp
                    have ho := HtO.out
                    try simp only [Bool.not_true, Bool.not_false] at ho
                    refine END.out ((W2.setCell ⟨w5.heap.size + 4, 0, none⟩ (.int .u64 vv)).setCell ⟨w5.heap.size + 5, 0, none⟩ (.bool true)) false (s0) (vv) true true (holN HSZ.out (j := 5) (by decide) (holN HSZ.out (j := 4) (by decide) (Holds.refl H10.out))) ((frN (j := 5) (by decide) (by decide) ((frN (j := 4) (by decide) (by decide) (Fr.refl (fun j => w5.heap.size + 1 ≤ j ∧ j ≤ w5.heap.size + 6) W2))))) ?_ ?_ ?_ ?_ ?_ ?_ hup hsu hfk
                    all_goals try simp only [Bool.not_true, Bool.not_false]
                    all_goals repeat' (with_reducible first | exact HtF.out | exact HtS.out | exact HtH.out | exact HtA.out | exact HtB.out | exact ho | apply putN | (refine farN ?_ (by decide)))
                  · have d4 : decide (vv ≤ vl) = false := decide_eq_false hc4
                    clear hc4
                    gi_wp2
                    have hup : (uptoU nm (t.items.take (k + 1))).getD 0 = s0 ∧ (uptoU nm (t.items.take (k + 1))).isSome = true := by rw [upto_step HQ.out.1, if_pos (show kk.1 ≤ nm by have := HC1.out; omega), show more minV _ _ = _ from opt_keep HSV.out.2 HSV.out.1 (by have := HC2.out; omega)]; exact ⟨rfl, rfl⟩
                    have hsu : (sumFrom ofV minV none (t.items.take (k + 1))).getD 0 = vv ∧ (sumFrom ofV minV none (t.items.take (k + 1))).isSome = true := by rw [sum_step HQ.out.1, show more minV _ _ = _ from opt_none HAV.out.2 vv]; exact ⟨rfl, rfl⟩
                    have hfk : fndB vl t.items (k + 1) = false := by unfold fndB; rw [any_step HQ.out.1]; have h := HFV.out; unfold fndB at h; revert h; cases anyTo vl t.items <;> cases anyTo vl (t.items.take k) <;> simp
                    have ho := HtO.out
                    try simp only [Bool.not_true, Bool.not_false] at ho
                    refine END.out ((W2.setCell ⟨w5.heap.size + 4, 0, none⟩ (.int .u64 vv)).setCell ⟨w5.heap.size + 5, 0, none⟩ (.bool true)) false (s0) (vv) true true (holN HSZ.out (j := 5) (by decide) (holN HSZ.out (j := 4) (by decide) (Holds.refl H10.out))) ((frN (j := 5) (by decide) (by decide) ((frN (j := 4) (by decide) (by decide) (Fr.refl (fun j => w5.heap.size + 1 ≤ j ∧ j ≤ w5.heap.size + 6) W2))))) ?_ ?_ ?_ ?_ ?_ ?_ hup hsu hfk
                    all_goals try simp only [Bool.not_true, Bool.not_false]
                    all_goals repeat' (with_reducible first | exact HtF.out | exact HtS.out | exact HtH.out | exact HtA.out | exact HtB.out | exact ho | apply putN | (refine farN ?_ (by decide)))
                · have g3 : (kq.2 == 0) = false := beq_eq_false_iff_ne.2 g2
                  clear g1 g2
                  gi_wp2
                  have hup : (uptoU nm (t.items.take (k + 1))).getD 0 = s0 ∧ (uptoU nm (t.items.take (k + 1))).isSome = true := by rw [upto_step HQ.out.1, if_pos (show kk.1 ≤ nm by have := HC1.out; omega), show more minV _ _ = _ from opt_keep HSV.out.2 HSV.out.1 (by have := HC2.out; omega)]; exact ⟨rfl, rfl⟩
                  have hsu : (sumFrom ofV minV none (t.items.take (k + 1))).getD 0 = vv ∧ (sumFrom ofV minV none (t.items.take (k + 1))).isSome = true := by rw [sum_step HQ.out.1, show more minV _ _ = _ from opt_none HAV.out.2 vv]; exact ⟨rfl, rfl⟩
                  have hfk : fndB vl t.items (k + 1) = false := by unfold fndB; rw [any_step HQ.out.1]; have h := HFV.out; unfold fndB at h; revert h; cases anyTo vl t.items <;> cases anyTo vl (t.items.take k) <;> simp
                  have ho := HtO.out
                  try simp only [Bool.not_true, Bool.not_false] at ho
                  refine END.out ((W2.setCell ⟨w5.heap.size + 4, 0, none⟩ (.int .u64 vv)).setCell ⟨w5.heap.size + 5, 0, none⟩ (.bool true)) false (s0) (vv) true true (holN HSZ.out (j := 5) (by decide) (holN HSZ.out (j := 4) (by decide) (Holds.refl H10.out))) ((frN (j := 5) (by decide) (by decide) ((frN (j := 4) (by decide) (by decide) (Fr.refl (fun j => w5.heap.size + 1 ≤ j ∧ j ≤ w5.heap.size + 6) W2))))) ?_ ?_ ?_ ?_ ?_ ?_ hup hsu hfk
                  all_goals try simp only [Bool.not_true, Bool.not_false]
                  all_goals repeat' (with_reducible first | exact HtF.out | exact HtS.out | exact HtH.out | exact HtA.out | exact HtB.out | exact ho | apply putN | (refine farN ?_ (by decide)))
              · have g3 : (kq.1 == 0) = false := beq_eq_false_iff_ne.2 g1
                clear g1
                gi_wp2
                have hup : (uptoU nm (t.items.take (k + 1))).getD 0 = s0 ∧ (uptoU nm (t.items.take (k + 1))).isSome = true := by rw [upto_step HQ.out.1, if_pos (show kk.1 ≤ nm by have := HC1.out; omega), show more minV _ _ = _ from opt_keep HSV.out.2 HSV.out.1 (by have := HC2.out; omega)]; exact ⟨rfl, rfl⟩
                have hsu : (sumFrom ofV minV none (t.items.take (k + 1))).getD 0 = vv ∧ (sumFrom ofV minV none (t.items.take (k + 1))).isSome = true := by rw [sum_step HQ.out.1, show more minV _ _ = _ from opt_none HAV.out.2 vv]; exact ⟨rfl, rfl⟩
                have hfk : fndB vl t.items (k + 1) = false := by unfold fndB; rw [any_step HQ.out.1]; have h := HFV.out; unfold fndB at h; revert h; cases anyTo vl t.items <;> cases anyTo vl (t.items.take k) <;> simp
                have ho := HtO.out
                try simp only [Bool.not_true, Bool.not_false] at ho
                refine END.out ((W2.setCell ⟨w5.heap.size + 4, 0, none⟩ (.int .u64 vv)).setCell ⟨w5.heap.size + 5, 0, none⟩ (.bool true)) false (s0) (vv) true true (holN HSZ.out (j := 5) (by decide) (holN HSZ.out (j := 4) (by decide) (Holds.refl H10.out))) ((frN (j := 5) (by decide) (by decide) ((frN (j := 4) (by decide) (by decide) (Fr.refl (fun j => w5.heap.size + 1 ≤ j ∧ j ≤ w5.heap.size + 6) W2))))) ?_ ?_ ?_ ?_ ?_ ?_ hup hsu hfk
                all_goals try simp only [Bool.not_true, Bool.not_false]
                all_goals repeat' (with_reducible first | exact HtF.out | exact HtS.out | exact HtH.out | exact HtA.out | exact HtB.out | exact ho | apply putN | (refine farN ?_ (by decide)))
          | true =>
            by_cases hc3 : vv < a0
            · have HC3 := Lib.hid hc3
              have d3 : decide (vv < a0) = true := decide_eq_true hc3
              clear hc3
              cases fb with
              | true =>
                by_cases hc4 : vv ≤ vl
                · have HC4 := Lib.hid hc4
                  have d4 : decide (vv ≤ vl) = true := decide_eq_true hc4
                  have hkk : kq = kk := by
                    have h := HFV.out
                    unfold fndB at h
                    simp only [Bool.and_eq_true, Bool.not_eq_true'] at h
                    rw [← HKQ.out, find_here HT5.out.is.rises HQ.out.1 h.2 hc4]
                    rfl
                  have g1 : kq.1 = kk.1 := by rw [hkk]
                  have g2 : kq.2 = kk.2 := by rw [hkk]
                  rw [g1] at K0
                  rw [g2] at K1
                  clear hc4 hkk g1 g2
                  gi_wp2
                  have hup : (uptoU nm (t.items.take (k + 1))).getD 0 = s0 ∧ (uptoU nm (t.items.take (k + 1))).isSome = true := by rw [upto_step HQ.out.1, if_pos (show kk.1 ≤ nm by have := HC1.out; omega), show more minV _ _ = _ from opt_keep HSV.out.2 HSV.out.1 (by have := HC2.out; omega)]; exact ⟨rfl, rfl⟩
                  have hsu : (sumFrom ofV minV none (t.items.take (k + 1))).getD 0 = vv ∧ (sumFrom ofV minV none (t.items.take (k + 1))).isSome = true := by rw [sum_step HQ.out.1, show more minV _ _ = _ from opt_less HAV.out.2 HAV.out.1 (by have := HC3.out; omega)]; exact ⟨rfl, rfl⟩
                  have hfk : fndB vl t.items (k + 1) = false := by unfold fndB; rw [any_step HQ.out.1, show decide ((kk, vv).2 ≤ vl) = true from decide_eq_true (show vv ≤ vl by have := HC4.out; omega)]; simp
                  have ho := HtO.out
                  try simp only [Bool.not_true, Bool.not_false] at ho
                  refine END.out ((((W2.setCell ⟨w5.heap.size + 4, 0, none⟩ (.int .u64 vv)).setCell ⟨w5.heap.size + 5, 0, none⟩ (.bool true)).setCell ⟨w5.heap.size + 6, 0, none⟩ (.bool true)).setCell ⟨w5.heap.size + 1, 0, none⟩ (.bool false)) false (s0) (vv) true true (holN HSZ.out (j := 1) (by decide) (holN HSZ.out (j := 6) (by decide) (holN HSZ.out (j := 5) (by decide) (holN HSZ.out (j := 4) (by decide) (Holds.refl H10.out))))) ((frN (j := 1) (by decide) (by decide) ((frN (j := 6) (by decide) (by decide) ((frN (j := 5) (by decide) (by decide) ((frN (j := 4) (by decide) (by decide) (Fr.refl (fun j => w5.heap.size + 1 ≤ j ∧ j ≤ w5.heap.size + 6) W2))))))))) ?_ ?_ ?_ ?_ ?_ ?_ hup hsu hfk
                  all_goals try simp only [Bool.not_true, Bool.not_false]
                  all_goals repeat' (with_reducible first | exact HtF.out | exact HtS.out | exact HtH.out | exact HtA.out | exact HtB.out | exact ho | apply putN | (refine farN ?_ (by decide)))
                · have HC4 := Lib.hid hc4
                  have hkk : kq ≠ kk := by
                    have h := HFV.out
                    unfold fndB at h
                    simp only [Bool.and_eq_true, Bool.not_eq_true'] at h
                    rw [← HKQ.out]
                    exact find_not HT5.out.is.rises HQ.out.1 hc4 h.1
                  have d4 : decide (vv ≤ vl) = false := decide_eq_false hc4
                  clear hc4
                  by_cases g1 : kk.1 = kq.1
                  · have g2 : (kk.2 == kq.2) = false := beq_eq_false_iff_ne.2 (fun e => hkk (Prod.ext g1.symm e.symm))
                    rw [← g1] at K0
                    clear g1 hkk
                    gi_wp2
                    have hup : (uptoU nm (t.items.take (k + 1))).getD 0 = s0 ∧ (uptoU nm (t.items.take (k + 1))).isSome = true := by rw [upto_step HQ.out.1, if_pos (show kk.1 ≤ nm by have := HC1.out; omega), show more minV _ _ = _ from opt_keep HSV.out.2 HSV.out.1 (by have := HC2.out; omega)]; exact ⟨rfl, rfl⟩
                    have hsu : (sumFrom ofV minV none (t.items.take (k + 1))).getD 0 = vv ∧ (sumFrom ofV minV none (t.items.take (k + 1))).isSome = true := by rw [sum_step HQ.out.1, show more minV _ _ = _ from opt_less HAV.out.2 HAV.out.1 (by have := HC3.out; omega)]; exact ⟨rfl, rfl⟩
                    have hfk : fndB vl t.items (k + 1) = true := by unfold fndB; rw [any_step HQ.out.1, show decide ((kk, vv).2 ≤ vl) = false from decide_eq_false (show ¬ vv ≤ vl by have := HC4.out; omega), Bool.or_false]; exact (show (anyTo vl t.items && !anyTo vl (t.items.take k)) = true from HFV.out)
                    have ho := HtO.out
                    try simp only [Bool.not_true, Bool.not_false] at ho
                    refine END.out ((W2.setCell ⟨w5.heap.size + 4, 0, none⟩ (.int .u64 vv)).setCell ⟨w5.heap.size + 5, 0, none⟩ (.bool true)) true (s0) (vv) true true (holN HSZ.out (j := 5) (by decide) (holN HSZ.out (j := 4) (by decide) (Holds.refl H10.out))) ((frN (j := 5) (by decide) (by decide) ((frN (j := 4) (by decide) (by decide) (Fr.refl (fun j => w5.heap.size + 1 ≤ j ∧ j ≤ w5.heap.size + 6) W2))))) ?_ ?_ ?_ ?_ ?_ ?_ hup hsu hfk
                    all_goals try simp only [Bool.not_true, Bool.not_false]
                    all_goals repeat' (with_reducible first | exact HtF.out | exact HtS.out | exact HtH.out | exact HtA.out | exact HtB.out | exact ho | apply putN | (refine farN ?_ (by decide)))
                  · have g2 : (kk.1 == kq.1) = false := beq_eq_false_iff_ne.2 g1
                    clear g1 hkk
                    gi_wp2
                    have hup : (uptoU nm (t.items.take (k + 1))).getD 0 = s0 ∧ (uptoU nm (t.items.take (k + 1))).isSome = true := by rw [upto_step HQ.out.1, if_pos (show kk.1 ≤ nm by have := HC1.out; omega), show more minV _ _ = _ from opt_keep HSV.out.2 HSV.out.1 (by have := HC2.out; omega)]; exact ⟨rfl, rfl⟩
                    have hsu : (sumFrom ofV minV none (t.items.take (k + 1))).getD 0 = vv ∧ (sumFrom ofV minV none (t.items.take (k + 1))).isSome = true := by rw [sum_step HQ.out.1, show more minV _ _ = _ from opt_less HAV.out.2 HAV.out.1 (by have := HC3.out; omega)]; exact ⟨rfl, rfl⟩
                    have hfk : fndB vl t.items (k + 1) = true := by unfold fndB; rw [any_step HQ.out.1, show decide ((kk, vv).2 ≤ vl) = false from decide_eq_false (show ¬ vv ≤ vl by have := HC4.out; omega), Bool.or_false]; exact (show (anyTo vl t.items && !anyTo vl (t.items.take k)) = true from HFV.out)
                    have ho := HtO.out
                    try simp only [Bool.not_true, Bool.not_false] at ho
                    refine END.out ((W2.setCell ⟨w5.heap.size + 4, 0, none⟩ (.int .u64 vv)).setCell ⟨w5.heap.size + 5, 0, none⟩ (.bool true)) true (s0) (vv) true true (holN HSZ.out (j := 5) (by decide) (holN HSZ.out (j := 4) (by decide) (Holds.refl H10.out))) ((frN (j := 5) (by decide) (by decide) ((frN (j := 4) (by decide) (by decide) (Fr.refl (fun j => w5.heap.size + 1 ≤ j ∧ j ≤ w5.heap.size + 6) W2))))) ?_ ?_ ?_ ?_ ?_ ?_ hup hsu hfk
                    all_goals try simp only [Bool.not_true, Bool.not_false]
                    all_goals repeat' (with_reducible first | exact HtF.out | exact HtS.out | exact HtH.out | exact HtA.out | exact HtB.out | exact ho | apply putN | (refine farN ?_ (by decide)))
              | false =>
                by_cases g1 : kq.1 = 0
                · rw [g1] at K0
                  by_cases g2 : kq.2 = 0
                  · rw [g2] at K1
                    clear g1 g2
                    by_cases hc4 : vv ≤ vl
                    · have d4 : decide (vv ≤ vl) = true := decide_eq_true hc4
                      clear hc4
                      gi_wp2
                      have hup : (uptoU nm (t.items.take (k + 1))).getD 0 = s0 ∧ (uptoU nm (t.items.take (k + 1))).isSome = true := by rw [upto_step HQ.out.1, if_pos (show kk.1 ≤ nm by have := HC1.out; omega), show more minV _ _ = _ from opt_keep HSV.out.2 HSV.out.1 (by have := HC2.out; omega)]; exact ⟨rfl, rfl⟩
                      have hsu : (sumFrom ofV minV none (t.items.take (k + 1))).getD 0 = vv ∧ (sumFrom ofV minV none (t.items.take (k + 1))).isSome = true := by rw [sum_step HQ.out.1, show more minV _ _ = _ from opt_less HAV.out.2 HAV.out.1 (by have := HC3.out; omega)]; exact ⟨rfl, rfl⟩
                      have hfk : fndB vl t.items (k + 1) = false := by unfold fndB; rw [any_step HQ.out.1]; have h := HFV.out; unfold fndB at h; revert h; cases anyTo vl t.items <;> cases anyTo vl (t.items.take k) <;> simp
                      have ho := HtO.out
                      try simp only [Bool.not_true, Bool.not_false] at ho
                      refine END.out ((W2.setCell ⟨w5.heap.size + 4, 0, none⟩ (.int .u64 vv)).setCell ⟨w5.heap.size + 5, 0, none⟩ (.bool true)) false (s0) (vv) true true (holN HSZ.out (j := 5) (by decide) (holN HSZ.out (j := 4) (by decide) (Holds.refl H10.out))) ((frN (j := 5) (by decide) (by decide) ((frN (j := 4) (by decide) (by decide) (Fr.refl (fun j => w5.heap.size + 1 ≤ j ∧ j ≤ w5.heap.size + 6) W2))))) ?_ ?_ ?_ ?_ ?_ ?_ hup hsu hfk
                      all_goals try simp only [Bool.not_true, Bool.not_false]
                      all_goals repeat' (with_reducible first | exact HtF.out | exact HtS.out | exact HtH.out | exact HtA.out | exact HtB.out | exact ho | apply putN | (refine farN ?_ (by decide)))
                    · have d4 : decide (vv ≤ vl) = false := decide_eq_false hc4
                      clear hc4
                      gi_wp2
                      have hup : (uptoU nm (t.items.take (k + 1))).getD 0 = s0 ∧ (uptoU nm (t.items.take (k + 1))).isSome = true := by rw [upto_step HQ.out.1, if_pos (show kk.1 ≤ nm by have := HC1.out; omega), show more minV _ _ = _ from opt_keep HSV.out.2 HSV.out.1 (by have := HC2.out; omega)]; exact ⟨rfl, rfl⟩
                      have hsu : (sumFrom ofV minV none (t.items.take (k + 1))).getD 0 = vv ∧ (sumFrom ofV minV none (t.items.take (k + 1))).isSome = true := by rw [sum_step HQ.out.1, show more minV _ _ = _ from opt_less HAV.out.2 HAV.out.1 (by have := HC3.out; omega)]; exact ⟨rfl, rfl⟩
                      have hfk : fndB vl t.items (k + 1) = false := by unfold fndB; rw [any_step HQ.out.1]; have h := HFV.out; unfold fndB at h; revert h; cases anyTo vl t.items <;> cases anyTo vl (t.items.take k) <;> simp
                      have ho := HtO.out
                      try simp only [Bool.not_true, Bool.not_false] at ho
                      refine END.out ((W2.setCell ⟨w5.heap.size + 4, 0, none⟩ (.int .u64 vv)).setCell ⟨w5.heap.size + 5, 0, none⟩ (.bool true)) false (s0) (vv) true true (holN HSZ.out (j := 5) (by decide) (holN HSZ.out (j := 4) (by decide) (Holds.refl H10.out))) ((frN (j := 5) (by decide) (by decide) ((frN (j := 4) (by decide) (by decide) (Fr.refl (fun j => w5.heap.size + 1 ≤ j ∧ j ≤ w5.heap.size + 6) W2))))) ?_ ?_ ?_ ?_ ?_ ?_ hup hsu hfk
                      all_goals try simp only [Bool.not_true, Bool.not_false]
                      all_goals repeat' (with_reducible first | exact HtF.out | exact HtS.out | exact HtH.out | exact HtA.out | exact HtB.out | exact ho | apply putN | (refine farN ?_ (by decide)))
                  · have g3 : (kq.2 == 0) = false := beq_eq_false_iff_ne.2 g2
                    clear g1 g2
                    gi_wp2
                    have hup : (uptoU nm (t.items.take (k + 1))).getD 0 = s0 ∧ (uptoU nm (t.items.take (k + 1))).isSome = true := by rw [upto_step HQ.out.1, if_pos (show kk.1 ≤ nm by have := HC1.out; omega), show more minV _ _ = _ from opt_keep HSV.out.2 HSV.out.1 (by have := HC2.out; omega)]; exact ⟨rfl, rfl⟩
                    have hsu : (sumFrom ofV minV none (t.items.take (k + 1))).getD 0 = vv ∧ (sumFrom ofV minV none (t.items.take (k + 1))).isSome = true := by rw [sum_step HQ.out.1, show more minV _ _ = _ from opt_less HAV.out.2 HAV.out.1 (by have := HC3.out; omega)]; exact ⟨rfl, rfl⟩
                    have hfk : fndB vl t.items (k + 1) = false := by unfold fndB; rw [any_step HQ.out.1]; have h := HFV.out; unfold fndB at h; revert h; cases anyTo vl t.items <;> cases anyTo vl (t.items.take k) <;> simp
                    have ho := HtO.out
                    try simp only [Bool.not_true, Bool.not_false] at ho
                    refine END.out ((W2.setCell ⟨w5.heap.size + 4, 0, none⟩ (.int .u64 vv)).setCell ⟨w5.heap.size + 5, 0, none⟩ (.bool true)) false (s0) (vv) true true (holN HSZ.out (j := 5) (by decide) (holN HSZ.out (j := 4) (by decide) (Holds.refl H10.out))) ((frN (j := 5) (by decide) (by decide) ((frN (j := 4) (by decide) (by decide) (Fr.refl (fun j => w5.heap.size + 1 ≤ j ∧ j ≤ w5.heap.size + 6) W2))))) ?_ ?_ ?_ ?_ ?_ ?_ hup hsu hfk
                    all_goals try simp only [Bool.not_true, Bool.not_false]
                    all_goals repeat' (with_reducible first | exact HtF.out | exact HtS.out | exact HtH.out | exact HtA.out | exact HtB.out | exact ho | apply putN | (refine farN ?_ (by decide)))
                · have g3 : (kq.1 == 0) = false := beq_eq_false_iff_ne.2 g1
                  clear g1
                  gi_wp2
                  have hup : (uptoU nm (t.items.take (k + 1))).getD 0 = s0 ∧ (uptoU nm (t.items.take (k + 1))).isSome = true := by rw [upto_step HQ.out.1, if_pos (show kk.1 ≤ nm by have := HC1.out; omega), show more minV _ _ = _ from opt_keep HSV.out.2 HSV.out.1 (by have := HC2.out; omega)]; exact ⟨rfl, rfl⟩
                  have hsu : (sumFrom ofV minV none (t.items.take (k + 1))).getD 0 = vv ∧ (sumFrom ofV minV none (t.items.take (k + 1))).isSome = true := by rw [sum_step HQ.out.1, show more minV _ _ = _ from opt_less HAV.out.2 HAV.out.1 (by have := HC3.out; omega)]; exact ⟨rfl, rfl⟩
                  have hfk : fndB vl t.items (k + 1) = false := by unfold fndB; rw [any_step HQ.out.1]; have h := HFV.out; unfold fndB at h; revert h; cases anyTo vl t.items <;> cases anyTo vl (t.items.take k) <;> simp
                  have ho := HtO.out
                  try simp only [Bool.not_true, Bool.not_false] at ho
                  refine END.out ((W2.setCell ⟨w5.heap.size + 4, 0, none⟩ (.int .u64 vv)).setCell ⟨w5.heap.size + 5, 0, none⟩ (.bool true)) false (s0) (vv) true true (holN HSZ.out (j := 5) (by decide) (holN HSZ.out (j := 4) (by decide) (Holds.refl H10.out))) ((frN (j := 5) (by decide) (by decide) ((frN (j := 4) (by decide) (by decide) (Fr.refl (fun j => w5.heap.size + 1 ≤ j ∧ j ≤ w5.heap.size + 6) W2))))) ?_ ?_ ?_ ?_ ?_ ?_ hup hsu hfk
                  all_goals try simp only [Bool.not_true, Bool.not_false]
                  all_goals repeat' (with_reducible first | exact HtF.out | exact HtS.out | exact HtH.out | exact HtA.out | exact HtB.out | exact ho | apply putN | (refine farN ?_ (by decide)))
            · have HC3 := Lib.hid hc3
              have d3 : decide (vv < a0) = false := decide_eq_false hc3
              clear hc3
              cases fb with
              | true =>
                by_cases hc4 : vv ≤ vl
                · have HC4 := Lib.hid hc4
                  have d4 : decide (vv ≤ vl) = true := decide_eq_true hc4
                  have hkk : kq = kk := by
                    have h := HFV.out
                    unfold fndB at h
                    simp only [Bool.and_eq_true, Bool.not_eq_true'] at h
                    rw [← HKQ.out, find_here HT5.out.is.rises HQ.out.1 h.2 hc4]
                    rfl
                  have g1 : kq.1 = kk.1 := by rw [hkk]
                  have g2 : kq.2 = kk.2 := by rw [hkk]
                  rw [g1] at K0
                  rw [g2] at K1
                  clear hc4 hkk g1 g2
                  gi_wp2
                  have hup : (uptoU nm (t.items.take (k + 1))).getD 0 = s0 ∧ (uptoU nm (t.items.take (k + 1))).isSome = true := by rw [upto_step HQ.out.1, if_pos (show kk.1 ≤ nm by have := HC1.out; omega), show more minV _ _ = _ from opt_keep HSV.out.2 HSV.out.1 (by have := HC2.out; omega)]; exact ⟨rfl, rfl⟩
                  have hsu : (sumFrom ofV minV none (t.items.take (k + 1))).getD 0 = a0 ∧ (sumFrom ofV minV none (t.items.take (k + 1))).isSome = true := by rw [sum_step HQ.out.1, show more minV _ _ = _ from opt_keep HAV.out.2 HAV.out.1 (by have := HC3.out; omega)]; exact ⟨rfl, rfl⟩
                  have hfk : fndB vl t.items (k + 1) = false := by unfold fndB; rw [any_step HQ.out.1, show decide ((kk, vv).2 ≤ vl) = true from decide_eq_true (show vv ≤ vl by have := HC4.out; omega)]; simp
                  have ho := HtO.out
                  try simp only [Bool.not_true, Bool.not_false] at ho
                  refine END.out ((W2.setCell ⟨w5.heap.size + 6, 0, none⟩ (.bool true)).setCell ⟨w5.heap.size + 1, 0, none⟩ (.bool false)) false (s0) (a0) true true (holN HSZ.out (j := 1) (by decide) (holN HSZ.out (j := 6) (by decide) (Holds.refl H10.out))) ((frN (j := 1) (by decide) (by decide) ((frN (j := 6) (by decide) (by decide) (Fr.refl (fun j => w5.heap.size + 1 ≤ j ∧ j ≤ w5.heap.size + 6) W2))))) ?_ ?_ ?_ ?_ ?_ ?_ hup hsu hfk
                  all_goals try simp only [Bool.not_true, Bool.not_false]
                  all_goals repeat' (with_reducible first | exact HtF.out | exact HtS.out | exact HtH.out | exact HtA.out | exact HtB.out | exact ho | apply putN | (refine farN ?_ (by decide)))
                · have HC4 := Lib.hid hc4
                  have hkk : kq ≠ kk := by
                    have h := HFV.out
                    unfold fndB at h
                    simp only [Bool.and_eq_true, Bool.not_eq_true'] at h
                    rw [← HKQ.out]
                    exact find_not HT5.out.is.rises HQ.out.1 hc4 h.1
                  have d4 : decide (vv ≤ vl) = false := decide_eq_false hc4
                  clear hc4
                  by_cases g1 : kk.1 = kq.1
                  · have g2 : (kk.2 == kq.2) = false := beq_eq_false_iff_ne.2 (fun e => hkk (Prod.ext g1.symm e.symm))
                    rw [← g1] at K0
                    clear g1 hkk
                    gi_wp2
                    have hup : (uptoU nm (t.items.take (k + 1))).getD 0 = s0 ∧ (uptoU nm (t.items.take (k + 1))).isSome = true := by rw [upto_step HQ.out.1, if_pos (show kk.1 ≤ nm by have := HC1.out; omega), show more minV _ _ = _ from opt_keep HSV.out.2 HSV.out.1 (by have := HC2.out; omega)]; exact ⟨rfl, rfl⟩
                    have hsu : (sumFrom ofV minV none (t.items.take (k + 1))).getD 0 = a0 ∧ (sumFrom ofV minV none (t.items.take (k + 1))).isSome = true := by rw [sum_step HQ.out.1, show more minV _ _ = _ from opt_keep HAV.out.2 HAV.out.1 (by have := HC3.out; omega)]; exact ⟨rfl, rfl⟩
                    have hfk : fndB vl t.items (k + 1) = true := by unfold fndB; rw [any_step HQ.out.1, show decide ((kk, vv).2 ≤ vl) = false from decide_eq_false (show ¬ vv ≤ vl by have := HC4.out; omega), Bool.or_false]; exact (show (anyTo vl t.items && !anyTo vl (t.items.take k)) = true from HFV.out)
                    have ho := HtO.out
                    try simp only [Bool.not_true, Bool.not_false] at ho
                    refine END.out W2 true (s0) (a0) true true (Holds.refl H10.out) (Fr.refl (fun j => w5.heap.size + 1 ≤ j ∧ j ≤ w5.heap.size + 6) W2) ?_ ?_ ?_ ?_ ?_ ?_ hup hsu hfk
                    all_goals try simp only [Bool.not_true, Bool.not_false]
                    all_goals repeat' (with_reducible first | exact HtF.out | exact HtS.out | exact HtH.out | exact HtA.out | exact HtB.out | exact ho | apply putN | (refine farN ?_ (by decide)))
                  · have g2 : (kk.1 == kq.1) = false := beq_eq_false_iff_ne.2 g1
                    clear g1 hkk
                    gi_wp2
                    have hup : (uptoU nm (t.items.take (k + 1))).getD 0 = s0 ∧ (uptoU nm (t.items.take (k + 1))).isSome = true := by rw [upto_step HQ.out.1, if_pos (show kk.1 ≤ nm by have := HC1.out; omega), show more minV _ _ = _ from opt_keep HSV.out.2 HSV.out.1 (by have := HC2.out; omega)]; exact ⟨rfl, rfl⟩
                    have hsu : (sumFrom ofV minV none (t.items.take (k + 1))).getD 0 = a0 ∧ (sumFrom ofV minV none (t.items.take (k + 1))).isSome = true := by rw [sum_step HQ.out.1, show more minV _ _ = _ from opt_keep HAV.out.2 HAV.out.1 (by have := HC3.out; omega)]; exact ⟨rfl, rfl⟩
                    have hfk : fndB vl t.items (k + 1) = true := by unfold fndB; rw [any_step HQ.out.1, show decide ((kk, vv).2 ≤ vl) = false from decide_eq_false (show ¬ vv ≤ vl by have := HC4.out; omega), Bool.or_false]; exact (show (anyTo vl t.items && !anyTo vl (t.items.take k)) = true from HFV.out)
                    have ho := HtO.out
                    try simp only [Bool.not_true, Bool.not_false] at ho
                    refine END.out W2 true (s0) (a0) true true (Holds.refl H10.out) (Fr.refl (fun j => w5.heap.size + 1 ≤ j ∧ j ≤ w5.heap.size + 6) W2) ?_ ?_ ?_ ?_ ?_ ?_ hup hsu hfk
                    all_goals try simp only [Bool.not_true, Bool.not_false]
                    all_goals repeat' (with_reducible first | exact HtF.out | exact HtS.out | exact HtH.out | exact HtA.out | exact HtB.out | exact ho | apply putN | (refine farN ?_ (by decide)))
              | false =>
                by_cases g1 : kq.1 = 0
                · rw [g1] at K0
                  by_cases g2 : kq.2 = 0
                  · rw [g2] at K1
                    clear g1 g2
                    by_cases hc4 : vv ≤ vl
                    · have d4 : decide (vv ≤ vl) = true := decide_eq_true hc4
                      clear hc4
                      gi_wp2
                      have hup : (uptoU nm (t.items.take (k + 1))).getD 0 = s0 ∧ (uptoU nm (t.items.take (k + 1))).isSome = true := by rw [upto_step HQ.out.1, if_pos (show kk.1 ≤ nm by have := HC1.out; omega), show more minV _ _ = _ from opt_keep HSV.out.2 HSV.out.1 (by have := HC2.out; omega)]; exact ⟨rfl, rfl⟩
                      have hsu : (sumFrom ofV minV none (t.items.take (k + 1))).getD 0 = a0 ∧ (sumFrom ofV minV none (t.items.take (k + 1))).isSome = true := by rw [sum_step HQ.out.1, show more minV _ _ = _ from opt_keep HAV.out.2 HAV.out.1 (by have := HC3.out; omega)]; exact ⟨rfl, rfl⟩
                      have hfk : fndB vl t.items (k + 1) = false := by unfold fndB; rw [any_step HQ.out.1]; have h := HFV.out; unfold fndB at h; revert h; cases anyTo vl t.items <;> cases anyTo vl (t.items.take k) <;> simp
                      have ho := HtO.out
                      try simp only [Bool.not_true, Bool.not_false] at ho
                      refine END.out W2 false (s0) (a0) true true (Holds.refl H10.out) (Fr.refl (fun j => w5.heap.size + 1 ≤ j ∧ j ≤ w5.heap.size + 6) W2) ?_ ?_ ?_ ?_ ?_ ?_ hup hsu hfk
                      all_goals try simp only [Bool.not_true, Bool.not_false]
                      all_goals repeat' (with_reducible first | exact HtF.out | exact HtS.out | exact HtH.out | exact HtA.out | exact HtB.out | exact ho | apply putN | (refine farN ?_ (by decide)))
                    · have d4 : decide (vv ≤ vl) = false := decide_eq_false hc4
                      clear hc4
                      gi_wp2
                      have hup : (uptoU nm (t.items.take (k + 1))).getD 0 = s0 ∧ (uptoU nm (t.items.take (k + 1))).isSome = true := by rw [upto_step HQ.out.1, if_pos (show kk.1 ≤ nm by have := HC1.out; omega), show more minV _ _ = _ from opt_keep HSV.out.2 HSV.out.1 (by have := HC2.out; omega)]; exact ⟨rfl, rfl⟩
                      have hsu : (sumFrom ofV minV none (t.items.take (k + 1))).getD 0 = a0 ∧ (sumFrom ofV minV none (t.items.take (k + 1))).isSome = true := by rw [sum_step HQ.out.1, show more minV _ _ = _ from opt_keep HAV.out.2 HAV.out.1 (by have := HC3.out; omega)]; exact ⟨rfl, rfl⟩
                      have hfk : fndB vl t.items (k + 1) = false := by unfold fndB; rw [any_step HQ.out.1]; have h := HFV.out; unfold fndB at h; revert h; cases anyTo vl t.items <;> cases anyTo vl (t.items.take k) <;> simp
                      have ho := HtO.out
                      try simp only [Bool.not_true, Bool.not_false] at ho
                      refine END.out W2 false (s0) (a0) true true (Holds.refl H10.out) (Fr.refl (fun j => w5.heap.size + 1 ≤ j ∧ j ≤ w5.heap.size + 6) W2) ?_ ?_ ?_ ?_ ?_ ?_ hup hsu hfk
                      all_goals try simp only [Bool.not_true, Bool.not_false]
                      all_goals repeat' (with_reducible first | exact HtF.out | exact HtS.out | exact HtH.out | exact HtA.out | exact HtB.out | exact ho | apply putN | (refine farN ?_ (by decide)))
                  · have g3 : (kq.2 == 0) = false := beq_eq_false_iff_ne.2 g2
                    clear g1 g2
                    gi_wp2
                    have hup : (uptoU nm (t.items.take (k + 1))).getD 0 = s0 ∧ (uptoU nm (t.items.take (k + 1))).isSome = true := by rw [upto_step HQ.out.1, if_pos (show kk.1 ≤ nm by have := HC1.out; omega), show more minV _ _ = _ from opt_keep HSV.out.2 HSV.out.1 (by have := HC2.out; omega)]; exact ⟨rfl, rfl⟩
                    have hsu : (sumFrom ofV minV none (t.items.take (k + 1))).getD 0 = a0 ∧ (sumFrom ofV minV none (t.items.take (k + 1))).isSome = true := by rw [sum_step HQ.out.1, show more minV _ _ = _ from opt_keep HAV.out.2 HAV.out.1 (by have := HC3.out; omega)]; exact ⟨rfl, rfl⟩
                    have hfk : fndB vl t.items (k + 1) = false := by unfold fndB; rw [any_step HQ.out.1]; have h := HFV.out; unfold fndB at h; revert h; cases anyTo vl t.items <;> cases anyTo vl (t.items.take k) <;> simp
                    have ho := HtO.out
                    try simp only [Bool.not_true, Bool.not_false] at ho
                    refine END.out W2 false (s0) (a0) true true (Holds.refl H10.out) (Fr.refl (fun j => w5.heap.size + 1 ≤ j ∧ j ≤ w5.heap.size + 6) W2) ?_ ?_ ?_ ?_ ?_ ?_ hup hsu hfk
                    all_goals try simp only [Bool.not_true, Bool.not_false]
                    all_goals repeat' (with_reducible first | exact HtF.out | exact HtS.out | exact HtH.out | exact HtA.out | exact HtB.out | exact ho | apply putN | (refine farN ?_ (by decide)))
                · have g3 : (kq.1 == 0) = false := beq_eq_false_iff_ne.2 g1
                  clear g1
                  gi_wp2
                  have hup : (uptoU nm (t.items.take (k + 1))).getD 0 = s0 ∧ (uptoU nm (t.items.take (k + 1))).isSome = true := by rw [upto_step HQ.out.1, if_pos (show kk.1 ≤ nm by have := HC1.out; omega), show more minV _ _ = _ from opt_keep HSV.out.2 HSV.out.1 (by have := HC2.out; omega)]; exact ⟨rfl, rfl⟩
                  have hsu : (sumFrom ofV minV none (t.items.take (k + 1))).getD 0 = a0 ∧ (sumFrom ofV minV none (t.items.take (k + 1))).isSome = true := by rw [sum_step HQ.out.1, show more minV _ _ = _ from opt_keep HAV.out.2 HAV.out.1 (by have := HC3.out; omega)]; exact ⟨rfl, rfl⟩
                  have hfk : fndB vl t.items (k + 1) = false := by unfold fndB; rw [any_step HQ.out.1]; have h := HFV.out; unfold fndB at h; revert h; cases anyTo vl t.items <;> cases anyTo vl (t.items.take k) <;> simp
                  have ho := HtO.out
                  try simp only [Bool.not_true, Bool.not_false] at ho
                  refine END.out W2 false (s0) (a0) true true (Holds.refl H10.out) (Fr.refl (fun j => w5.heap.size + 1 ≤ j ∧ j ≤ w5.heap.size + 6) W2) ?_ ?_ ?_ ?_ ?_ ?_ hup hsu hfk
                  all_goals try simp only [Bool.not_true, Bool.not_false]
                  all_goals repeat' (with_reducible first | exact HtF.out | exact HtS.out | exact HtH.out | exact HtA.out | exact HtB.out | exact ho | apply putN | (refine farN ?_ (by decide)))
    · have HC1 := Lib.hid hc1
      have d1 : decide (kk.1 ≤ nm) = false := decide_eq_false hc1
      clear hc1
      cases has with
      | false =>
        cases fb with
        | true =>
          by_cases hc4 : vv ≤ vl
          · have HC4 := Lib.hid hc4
            have d4 : decide (vv ≤ vl) = true := decide_eq_true hc4
            have hkk : kq = kk := by
              have h := HFV.out
              unfold fndB at h
              simp only [Bool.and_eq_true, Bool.not_eq_true'] at h
              rw [← HKQ.out, find_here HT5.out.is.rises HQ.out.1 h.2 hc4]
              rfl
            have g1 : kq.1 = kk.1 := by rw [hkk]
            have g2 : kq.2 = kk.2 := by rw [hkk]
            rw [g1] at K0
            rw [g2] at K1
            clear hc4 hkk g1 g2
            gi_wp2
            have hup : (uptoU nm (t.items.take (k + 1))).getD 0 = s0 ∧ (uptoU nm (t.items.take (k + 1))).isSome = had := by rw [upto_step HQ.out.1, if_neg (show ¬ kk.1 ≤ nm by have := HC1.out; omega)]; exact HSV.out
            have hsu : (sumFrom ofV minV none (t.items.take (k + 1))).getD 0 = vv ∧ (sumFrom ofV minV none (t.items.take (k + 1))).isSome = true := by rw [sum_step HQ.out.1, show more minV _ _ = _ from opt_none HAV.out.2 vv]; exact ⟨rfl, rfl⟩
            have hfk : fndB vl t.items (k + 1) = false := by unfold fndB; rw [any_step HQ.out.1, show decide ((kk, vv).2 ≤ vl) = true from decide_eq_true (show vv ≤ vl by have := HC4.out; omega)]; simp
            have ho := HtO.out
            try simp only [Bool.not_true, Bool.not_false] at ho
            refine END.out ((((W2.setCell ⟨w5.heap.size + 4, 0, none⟩ (.int .u64 vv)).setCell ⟨w5.heap.size + 5, 0, none⟩ (.bool true)).setCell ⟨w5.heap.size + 6, 0, none⟩ (.bool true)).setCell ⟨w5.heap.size + 1, 0, none⟩ (.bool false)) false (s0) (vv) had true (holN HSZ.out (j := 1) (by decide) (holN HSZ.out (j := 6) (by decide) (holN HSZ.out (j := 5) (by decide) (holN HSZ.out (j := 4) (by decide) (Holds.refl H10.out))))) ((frN (j := 1) (by decide) (by decide) ((frN (j := 6) (by decide) (by decide) ((frN (j := 5) (by decide) (by decide) ((frN (j := 4) (by decide) (by decide) (Fr.refl (fun j => w5.heap.size + 1 ≤ j ∧ j ≤ w5.heap.size + 6) W2))))))))) ?_ ?_ ?_ ?_ ?_ ?_ hup hsu hfk
            all_goals try simp only [Bool.not_true, Bool.not_false]
            all_goals repeat' (with_reducible first | exact HtF.out | exact HtS.out | exact HtH.out | exact HtA.out | exact HtB.out | exact ho | apply putN | (refine farN ?_ (by decide)))
          · have HC4 := Lib.hid hc4
            have hkk : kq ≠ kk := by
              have h := HFV.out
              unfold fndB at h
              simp only [Bool.and_eq_true, Bool.not_eq_true'] at h
              rw [← HKQ.out]
              exact find_not HT5.out.is.rises HQ.out.1 hc4 h.1
            have d4 : decide (vv ≤ vl) = false := decide_eq_false hc4
            clear hc4
            by_cases g1 : kk.1 = kq.1
            · have g2 : (kk.2 == kq.2) = false := beq_eq_false_iff_ne.2 (fun e => hkk (Prod.ext g1.symm e.symm))
              rw [← g1] at K0
              clear g1 hkk
              gi_wp2
              have hup : (uptoU nm (t.items.take (k + 1))).getD 0 = s0 ∧ (uptoU nm (t.items.take (k + 1))).isSome = had := by rw [upto_step HQ.out.1, if_neg (show ¬ kk.1 ≤ nm by have := HC1.out; omega)]; exact HSV.out
              have hsu : (sumFrom ofV minV none (t.items.take (k + 1))).getD 0 = vv ∧ (sumFrom ofV minV none (t.items.take (k + 1))).isSome = true := by rw [sum_step HQ.out.1, show more minV _ _ = _ from opt_none HAV.out.2 vv]; exact ⟨rfl, rfl⟩
              have hfk : fndB vl t.items (k + 1) = true := by unfold fndB; rw [any_step HQ.out.1, show decide ((kk, vv).2 ≤ vl) = false from decide_eq_false (show ¬ vv ≤ vl by have := HC4.out; omega), Bool.or_false]; exact (show (anyTo vl t.items && !anyTo vl (t.items.take k)) = true from HFV.out)
              have ho := HtO.out
              try simp only [Bool.not_true, Bool.not_false] at ho
              refine END.out ((W2.setCell ⟨w5.heap.size + 4, 0, none⟩ (.int .u64 vv)).setCell ⟨w5.heap.size + 5, 0, none⟩ (.bool true)) true (s0) (vv) had true (holN HSZ.out (j := 5) (by decide) (holN HSZ.out (j := 4) (by decide) (Holds.refl H10.out))) ((frN (j := 5) (by decide) (by decide) ((frN (j := 4) (by decide) (by decide) (Fr.refl (fun j => w5.heap.size + 1 ≤ j ∧ j ≤ w5.heap.size + 6) W2))))) ?_ ?_ ?_ ?_ ?_ ?_ hup hsu hfk
              all_goals try simp only [Bool.not_true, Bool.not_false]
              all_goals repeat' (with_reducible first | exact HtF.out | exact HtS.out | exact HtH.out | exact HtA.out | exact HtB.out | exact ho | apply putN | (refine farN ?_ (by decide)))
            · have g2 : (kk.1 == kq.1) = false := beq_eq_false_iff_ne.2 g1
              clear g1 hkk
              gi_wp2
              have hup : (uptoU nm (t.items.take (k + 1))).getD 0 = s0 ∧ (uptoU nm (t.items.take (k + 1))).isSome = had := by rw [upto_step HQ.out.1, if_neg (show ¬ kk.1 ≤ nm by have := HC1.out; omega)]; exact HSV.out
              have hsu : (sumFrom ofV minV none (t.items.take (k + 1))).getD 0 = vv ∧ (sumFrom ofV minV none (t.items.take (k + 1))).isSome = true := by rw [sum_step HQ.out.1, show more minV _ _ = _ from opt_none HAV.out.2 vv]; exact ⟨rfl, rfl⟩
              have hfk : fndB vl t.items (k + 1) = true := by unfold fndB; rw [any_step HQ.out.1, show decide ((kk, vv).2 ≤ vl) = false from decide_eq_false (show ¬ vv ≤ vl by have := HC4.out; omega), Bool.or_false]; exact (show (anyTo vl t.items && !anyTo vl (t.items.take k)) = true from HFV.out)
              have ho := HtO.out
              try simp only [Bool.not_true, Bool.not_false] at ho
              refine END.out ((W2.setCell ⟨w5.heap.size + 4, 0, none⟩ (.int .u64 vv)).setCell ⟨w5.heap.size + 5, 0, none⟩ (.bool true)) true (s0) (vv) had true (holN HSZ.out (j := 5) (by decide) (holN HSZ.out (j := 4) (by decide) (Holds.refl H10.out))) ((frN (j := 5) (by decide) (by decide) ((frN (j := 4) (by decide) (by decide) (Fr.refl (fun j => w5.heap.size + 1 ≤ j ∧ j ≤ w5.heap.size + 6) W2))))) ?_ ?_ ?_ ?_ ?_ ?_ hup hsu hfk
              all_goals try simp only [Bool.not_true, Bool.not_false]
              all_goals repeat' (with_reducible first | exact HtF.out | exact HtS.out | exact HtH.out | exact HtA.out | exact HtB.out | exact ho | apply putN | (refine farN ?_ (by decide)))
        | false =>
          by_cases g1 : kq.1 = 0
          · rw [g1] at K0
            by_cases g2 : kq.2 = 0
            · rw [g2] at K1
              clear g1 g2
              by_cases hc4 : vv ≤ vl
              · have d4 : decide (vv ≤ vl) = true := decide_eq_true hc4
                clear hc4
                gi_wp2
                have hup : (uptoU nm (t.items.take (k + 1))).getD 0 = s0 ∧ (uptoU nm (t.items.take (k + 1))).isSome = had := by rw [upto_step HQ.out.1, if_neg (show ¬ kk.1 ≤ nm by have := HC1.out; omega)]; exact HSV.out
                have hsu : (sumFrom ofV minV none (t.items.take (k + 1))).getD 0 = vv ∧ (sumFrom ofV minV none (t.items.take (k + 1))).isSome = true := by rw [sum_step HQ.out.1, show more minV _ _ = _ from opt_none HAV.out.2 vv]; exact ⟨rfl, rfl⟩
                have hfk : fndB vl t.items (k + 1) = false := by unfold fndB; rw [any_step HQ.out.1]; have h := HFV.out; unfold fndB at h; revert h; cases anyTo vl t.items <;> cases anyTo vl (t.items.take k) <;> simp
                have ho := HtO.out
                try simp only [Bool.not_true, Bool.not_false] at ho
                refine END.out ((W2.setCell ⟨w5.heap.size + 4, 0, none⟩ (.int .u64 vv)).setCell ⟨w5.heap.size + 5, 0, none⟩ (.bool true)) false (s0) (vv) had true (holN HSZ.out (j := 5) (by decide) (holN HSZ.out (j := 4) (by decide) (Holds.refl H10.out))) ((frN (j := 5) (by decide) (by decide) ((frN (j := 4) (by decide) (by decide) (Fr.refl (fun j => w5.heap.size + 1 ≤ j ∧ j ≤ w5.heap.size + 6) W2))))) ?_ ?_ ?_ ?_ ?_ ?_ hup hsu hfk
                all_goals try simp only [Bool.not_true, Bool.not_false]
                all_goals repeat' (with_reducible first | exact HtF.out | exact HtS.out | exact HtH.out | exact HtA.out | exact HtB.out | exact ho | apply putN | (refine farN ?_ (by decide)))
              · have d4 : decide (vv ≤ vl) = false := decide_eq_false hc4
                clear hc4
                gi_wp2
                have hup : (uptoU nm (t.items.take (k + 1))).getD 0 = s0 ∧ (uptoU nm (t.items.take (k + 1))).isSome = had := by rw [upto_step HQ.out.1, if_neg (show ¬ kk.1 ≤ nm by have := HC1.out; omega)]; exact HSV.out
                have hsu : (sumFrom ofV minV none (t.items.take (k + 1))).getD 0 = vv ∧ (sumFrom ofV minV none (t.items.take (k + 1))).isSome = true := by rw [sum_step HQ.out.1, show more minV _ _ = _ from opt_none HAV.out.2 vv]; exact ⟨rfl, rfl⟩
                have hfk : fndB vl t.items (k + 1) = false := by unfold fndB; rw [any_step HQ.out.1]; have h := HFV.out; unfold fndB at h; revert h; cases anyTo vl t.items <;> cases anyTo vl (t.items.take k) <;> simp
                have ho := HtO.out
                try simp only [Bool.not_true, Bool.not_false] at ho
                refine END.out ((W2.setCell ⟨w5.heap.size + 4, 0, none⟩ (.int .u64 vv)).setCell ⟨w5.heap.size + 5, 0, none⟩ (.bool true)) false (s0) (vv) had true (holN HSZ.out (j := 5) (by decide) (holN HSZ.out (j := 4) (by decide) (Holds.refl H10.out))) ((frN (j := 5) (by decide) (by decide) ((frN (j := 4) (by decide) (by decide) (Fr.refl (fun j => w5.heap.size + 1 ≤ j ∧ j ≤ w5.heap.size + 6) W2))))) ?_ ?_ ?_ ?_ ?_ ?_ hup hsu hfk
                all_goals try simp only [Bool.not_true, Bool.not_false]
                all_goals repeat' (with_reducible first | exact HtF.out | exact HtS.out | exact HtH.out | exact HtA.out | exact HtB.out | exact ho | apply putN | (refine farN ?_ (by decide)))
            · have g3 : (kq.2 == 0) = false := beq_eq_false_iff_ne.2 g2
              clear g1 g2
              gi_wp2
              have hup : (uptoU nm (t.items.take (k + 1))).getD 0 = s0 ∧ (uptoU nm (t.items.take (k + 1))).isSome = had := by rw [upto_step HQ.out.1, if_neg (show ¬ kk.1 ≤ nm by have := HC1.out; omega)]; exact HSV.out
              have hsu : (sumFrom ofV minV none (t.items.take (k + 1))).getD 0 = vv ∧ (sumFrom ofV minV none (t.items.take (k + 1))).isSome = true := by rw [sum_step HQ.out.1, show more minV _ _ = _ from opt_none HAV.out.2 vv]; exact ⟨rfl, rfl⟩
              have hfk : fndB vl t.items (k + 1) = false := by unfold fndB; rw [any_step HQ.out.1]; have h := HFV.out; unfold fndB at h; revert h; cases anyTo vl t.items <;> cases anyTo vl (t.items.take k) <;> simp
              have ho := HtO.out
              try simp only [Bool.not_true, Bool.not_false] at ho
              refine END.out ((W2.setCell ⟨w5.heap.size + 4, 0, none⟩ (.int .u64 vv)).setCell ⟨w5.heap.size + 5, 0, none⟩ (.bool true)) false (s0) (vv) had true (holN HSZ.out (j := 5) (by decide) (holN HSZ.out (j := 4) (by decide) (Holds.refl H10.out))) ((frN (j := 5) (by decide) (by decide) ((frN (j := 4) (by decide) (by decide) (Fr.refl (fun j => w5.heap.size + 1 ≤ j ∧ j ≤ w5.heap.size + 6) W2))))) ?_ ?_ ?_ ?_ ?_ ?_ hup hsu hfk
              all_goals try simp only [Bool.not_true, Bool.not_false]
              all_goals repeat' (with_reducible first | exact HtF.out | exact HtS.out | exact HtH.out | exact HtA.out | exact HtB.out | exact ho | apply putN | (refine farN ?_ (by decide)))
          · have g3 : (kq.1 == 0) = false := beq_eq_false_iff_ne.2 g1
            clear g1
            gi_wp2
            have hup : (uptoU nm (t.items.take (k + 1))).getD 0 = s0 ∧ (uptoU nm (t.items.take (k + 1))).isSome = had := by rw [upto_step HQ.out.1, if_neg (show ¬ kk.1 ≤ nm by have := HC1.out; omega)]; exact HSV.out
            have hsu : (sumFrom ofV minV none (t.items.take (k + 1))).getD 0 = vv ∧ (sumFrom ofV minV none (t.items.take (k + 1))).isSome = true := by rw [sum_step HQ.out.1, show more minV _ _ = _ from opt_none HAV.out.2 vv]; exact ⟨rfl, rfl⟩
            have hfk : fndB vl t.items (k + 1) = false := by unfold fndB; rw [any_step HQ.out.1]; have h := HFV.out; unfold fndB at h; revert h; cases anyTo vl t.items <;> cases anyTo vl (t.items.take k) <;> simp
            have ho := HtO.out
            try simp only [Bool.not_true, Bool.not_false] at ho
            refine END.out ((W2.setCell ⟨w5.heap.size + 4, 0, none⟩ (.int .u64 vv)).setCell ⟨w5.heap.size + 5, 0, none⟩ (.bool true)) false (s0) (vv) had true (holN HSZ.out (j := 5) (by decide) (holN HSZ.out (j := 4) (by decide) (Holds.refl H10.out))) ((frN (j := 5) (by decide) (by decide) ((frN (j := 4) (by decide) (by decide) (Fr.refl (fun j => w5.heap.size + 1 ≤ j ∧ j ≤ w5.heap.size + 6) W2))))) ?_ ?_ ?_ ?_ ?_ ?_ hup hsu hfk
            all_goals try simp only [Bool.not_true, Bool.not_false]
            all_goals repeat' (with_reducible first | exact HtF.out | exact HtS.out | exact HtH.out | exact HtA.out | exact HtB.out | exact ho | apply putN | (refine farN ?_ (by decide)))
      | true =>
        by_cases hc3 : vv < a0
        · have HC3 := Lib.hid hc3
          have d3 : decide (vv < a0) = true := decide_eq_true hc3
          clear hc3
          cases fb with
          | true =>
            by_cases hc4 : vv ≤ vl
            · have HC4 := Lib.hid hc4
              have d4 : decide (vv ≤ vl) = true := decide_eq_true hc4
              have hkk : kq = kk := by
                have h := HFV.out
                unfold fndB at h
                simp only [Bool.and_eq_true, Bool.not_eq_true'] at h
                rw [← HKQ.out, find_here HT5.out.is.rises HQ.out.1 h.2 hc4]
                rfl
              have g1 : kq.1 = kk.1 := by rw [hkk]
              have g2 : kq.2 = kk.2 := by rw [hkk]
              rw [g1] at K0
              rw [g2] at K1
              clear hc4 hkk g1 g2
              gi_wp2
              have hup : (uptoU nm (t.items.take (k + 1))).getD 0 = s0 ∧ (uptoU nm (t.items.take (k + 1))).isSome = had := by rw [upto_step HQ.out.1, if_neg (show ¬ kk.1 ≤ nm by have := HC1.out; omega)]; exact HSV.out
              have hsu : (sumFrom ofV minV none (t.items.take (k + 1))).getD 0 = vv ∧ (sumFrom ofV minV none (t.items.take (k + 1))).isSome = true := by rw [sum_step HQ.out.1, show more minV _ _ = _ from opt_less HAV.out.2 HAV.out.1 (by have := HC3.out; omega)]; exact ⟨rfl, rfl⟩
              have hfk : fndB vl t.items (k + 1) = false := by unfold fndB; rw [any_step HQ.out.1, show decide ((kk, vv).2 ≤ vl) = true from decide_eq_true (show vv ≤ vl by have := HC4.out; omega)]; simp
              have ho := HtO.out
              try simp only [Bool.not_true, Bool.not_false] at ho
              refine END.out ((((W2.setCell ⟨w5.heap.size + 4, 0, none⟩ (.int .u64 vv)).setCell ⟨w5.heap.size + 5, 0, none⟩ (.bool true)).setCell ⟨w5.heap.size + 6, 0, none⟩ (.bool true)).setCell ⟨w5.heap.size + 1, 0, none⟩ (.bool false)) false (s0) (vv) had true (holN HSZ.out (j := 1) (by decide) (holN HSZ.out (j := 6) (by decide) (holN HSZ.out (j := 5) (by decide) (holN HSZ.out (j := 4) (by decide) (Holds.refl H10.out))))) ((frN (j := 1) (by decide) (by decide) ((frN (j := 6) (by decide) (by decide) ((frN (j := 5) (by decide) (by decide) ((frN (j := 4) (by decide) (by decide) (Fr.refl (fun j => w5.heap.size + 1 ≤ j ∧ j ≤ w5.heap.size + 6) W2))))))))) ?_ ?_ ?_ ?_ ?_ ?_ hup hsu hfk
              all_goals try simp only [Bool.not_true, Bool.not_false]
              all_goals repeat' (with_reducible first | exact HtF.out | exact HtS.out | exact HtH.out | exact HtA.out | exact HtB.out | exact ho | apply putN | (refine farN ?_ (by decide)))
            · have HC4 := Lib.hid hc4
              have hkk : kq ≠ kk := by
                have h := HFV.out
                unfold fndB at h
                simp only [Bool.and_eq_true, Bool.not_eq_true'] at h
                rw [← HKQ.out]
                exact find_not HT5.out.is.rises HQ.out.1 hc4 h.1
              have d4 : decide (vv ≤ vl) = false := decide_eq_false hc4
              clear hc4
              by_cases g1 : kk.1 = kq.1
              · have g2 : (kk.2 == kq.2) = false := beq_eq_false_iff_ne.2 (fun e => hkk (Prod.ext g1.symm e.symm))
                rw [← g1] at K0
                clear g1 hkk
                gi_wp2
                have hup : (uptoU nm (t.items.take (k + 1))).getD 0 = s0 ∧ (uptoU nm (t.items.take (k + 1))).isSome = had := by rw [upto_step HQ.out.1, if_neg (show ¬ kk.1 ≤ nm by have := HC1.out; omega)]; exact HSV.out
                have hsu : (sumFrom ofV minV none (t.items.take (k + 1))).getD 0 = vv ∧ (sumFrom ofV minV none (t.items.take (k + 1))).isSome = true := by rw [sum_step HQ.out.1, show more minV _ _ = _ from opt_less HAV.out.2 HAV.out.1 (by have := HC3.out; omega)]; exact ⟨rfl, rfl⟩
                have hfk : fndB vl t.items (k + 1) = true := by unfold fndB; rw [any_step HQ.out.1, show decide ((kk, vv).2 ≤ vl) = false from decide_eq_false (show ¬ vv ≤ vl by have := HC4.out; omega), Bool.or_false]; exact (show (anyTo vl t.items && !anyTo vl (t.items.take k)) = true from HFV.out)
                have ho := HtO.out
                try simp only [Bool.not_true, Bool.not_false] at ho
                refine END.out ((W2.setCell ⟨w5.heap.size + 4, 0, none⟩ (.int .u64 vv)).setCell ⟨w5.heap.size + 5, 0, none⟩ (.bool true)) true (s0) (vv) had true (holN HSZ.out (j := 5) (by decide) (holN HSZ.out (j := 4) (by decide) (Holds.refl H10.out))) ((frN (j := 5) (by decide) (by decide) ((frN (j := 4) (by decide) (by decide) (Fr.refl (fun j => w5.heap.size + 1 ≤ j ∧ j ≤ w5.heap.size + 6) W2))))) ?_ ?_ ?_ ?_ ?_ ?_ hup hsu hfk
                all_goals try simp only [Bool.not_true, Bool.not_false]
                all_goals repeat' (with_reducible first | exact HtF.out | exact HtS.out | exact HtH.out | exact HtA.out | exact HtB.out | exact ho | apply putN | (refine farN ?_ (by decide)))
              · have g2 : (kk.1 == kq.1) = false := beq_eq_false_iff_ne.2 g1
                clear g1 hkk
                gi_wp2
                have hup : (uptoU nm (t.items.take (k + 1))).getD 0 = s0 ∧ (uptoU nm (t.items.take (k + 1))).isSome = had := by rw [upto_step HQ.out.1, if_neg (show ¬ kk.1 ≤ nm by have := HC1.out; omega)]; exact HSV.out
                have hsu : (sumFrom ofV minV none (t.items.take (k + 1))).getD 0 = vv ∧ (sumFrom ofV minV none (t.items.take (k + 1))).isSome = true := by rw [sum_step HQ.out.1, show more minV _ _ = _ from opt_less HAV.out.2 HAV.out.1 (by have := HC3.out; omega)]; exact ⟨rfl, rfl⟩
                have hfk : fndB vl t.items (k + 1) = true := by unfold fndB; rw [any_step HQ.out.1, show decide ((kk, vv).2 ≤ vl) = false from decide_eq_false (show ¬ vv ≤ vl by have := HC4.out; omega), Bool.or_false]; exact (show (anyTo vl t.items && !anyTo vl (t.items.take k)) = true from HFV.out)
                have ho := HtO.out
                try simp only [Bool.not_true, Bool.not_false] at ho
                refine END.out ((W2.setCell ⟨w5.heap.size + 4, 0, none⟩ (.int .u64 vv)).setCell ⟨w5.heap.size + 5, 0, none⟩ (.bool true)) true (s0) (vv) had true (holN HSZ.out (j := 5) (by decide) (holN HSZ.out (j := 4) (by decide) (Holds.refl H10.out))) ((frN (j := 5) (by decide) (by decide) ((frN (j := 4) (by decide) (by decide) (Fr.refl (fun j => w5.heap.size + 1 ≤ j ∧ j ≤ w5.heap.size + 6) W2))))) ?_ ?_ ?_ ?_ ?_ ?_ hup hsu hfk
                all_goals try simp only [Bool.not_true, Bool.not_false]
                all_goals repeat' (with_reducible first | exact HtF.out | exact HtS.out | exact HtH.out | exact HtA.out | exact HtB.out | exact ho | apply putN | (refine farN ?_ (by decide)))
          | false =>
            by_cases g1 : kq.1 = 0
            · rw [g1] at K0
              by_cases g2 : kq.2 = 0
              · rw [g2] at K1
                clear g1 g2
                by_cases hc4 : vv ≤ vl
                · have d4 : decide (vv ≤ vl) = true := decide_eq_true hc4
                  clear hc4
                  gi_wp2
                  have hup : (uptoU nm (t.items.take (k + 1))).getD 0 = s0 ∧ (uptoU nm (t.items.take (k + 1))).isSome = had := by rw [upto_step HQ.out.1, if_neg (show ¬ kk.1 ≤ nm by have := HC1.out; omega)]; exact HSV.out
                  have hsu : (sumFrom ofV minV none (t.items.take (k + 1))).getD 0 = vv ∧ (sumFrom ofV minV none (t.items.take (k + 1))).isSome = true := by rw [sum_step HQ.out.1, show more minV _ _ = _ from opt_less HAV.out.2 HAV.out.1 (by have := HC3.out; omega)]; exact ⟨rfl, rfl⟩
                  have hfk : fndB vl t.items (k + 1) = false := by unfold fndB; rw [any_step HQ.out.1]; have h := HFV.out; unfold fndB at h; revert h; cases anyTo vl t.items <;> cases anyTo vl (t.items.take k) <;> simp
                  have ho := HtO.out
                  try simp only [Bool.not_true, Bool.not_false] at ho
                  refine END.out ((W2.setCell ⟨w5.heap.size + 4, 0, none⟩ (.int .u64 vv)).setCell ⟨w5.heap.size + 5, 0, none⟩ (.bool true)) false (s0) (vv) had true (holN HSZ.out (j := 5) (by decide) (holN HSZ.out (j := 4) (by decide) (Holds.refl H10.out))) ((frN (j := 5) (by decide) (by decide) ((frN (j := 4) (by decide) (by decide) (Fr.refl (fun j => w5.heap.size + 1 ≤ j ∧ j ≤ w5.heap.size + 6) W2))))) ?_ ?_ ?_ ?_ ?_ ?_ hup hsu hfk
                  all_goals try simp only [Bool.not_true, Bool.not_false]
                  all_goals repeat' (with_reducible first | exact HtF.out | exact HtS.out | exact HtH.out | exact HtA.out | exact HtB.out | exact ho | apply putN | (refine farN ?_ (by decide)))
                · have d4 : decide (vv ≤ vl) = false := decide_eq_false hc4
                  clear hc4
                  gi_wp2
                  have hup : (uptoU nm (t.items.take (k + 1))).getD 0 = s0 ∧ (uptoU nm (t.items.take (k + 1))).isSome = had := by rw [upto_step HQ.out.1, if_neg (show ¬ kk.1 ≤ nm by have := HC1.out; omega)]; exact HSV.out
                  have hsu : (sumFrom ofV minV none (t.items.take (k + 1))).getD 0 = vv ∧ (sumFrom ofV minV none (t.items.take (k + 1))).isSome = true := by rw [sum_step HQ.out.1, show more minV _ _ = _ from opt_less HAV.out.2 HAV.out.1 (by have := HC3.out; omega)]; exact ⟨rfl, rfl⟩
                  have hfk : fndB vl t.items (k + 1) = false := by unfold fndB; rw [any_step HQ.out.1]; have h := HFV.out; unfold fndB at h; revert h; cases anyTo vl t.items <;> cases anyTo vl (t.items.take k) <;> simp
                  have ho := HtO.out
                  try simp only [Bool.not_true, Bool.not_false] at ho
                  refine END.out ((W2.setCell ⟨w5.heap.size + 4, 0, none⟩ (.int .u64 vv)).setCell ⟨w5.heap.size + 5, 0, none⟩ (.bool true)) false (s0) (vv) had true (holN HSZ.out (j := 5) (by decide) (holN HSZ.out (j := 4) (by decide) (Holds.refl H10.out))) ((frN (j := 5) (by decide) (by decide) ((frN (j := 4) (by decide) (by decide) (Fr.refl (fun j => w5.heap.size + 1 ≤ j ∧ j ≤ w5.heap.size + 6) W2))))) ?_ ?_ ?_ ?_ ?_ ?_ hup hsu hfk
                  all_goals try simp only [Bool.not_true, Bool.not_false]
                  all_goals repeat' (with_reducible first | exact HtF.out | exact HtS.out | exact HtH.out | exact HtA.out | exact HtB.out | exact ho | apply putN | (refine farN ?_ (by decide)))
              · have g3 : (kq.2 == 0) = false := beq_eq_false_iff_ne.2 g2
                clear g1 g2
                gi_wp2
                have hup : (uptoU nm (t.items.take (k + 1))).getD 0 = s0 ∧ (uptoU nm (t.items.take (k + 1))).isSome = had := by rw [upto_step HQ.out.1, if_neg (show ¬ kk.1 ≤ nm by have := HC1.out; omega)]; exact HSV.out
                have hsu : (sumFrom ofV minV none (t.items.take (k + 1))).getD 0 = vv ∧ (sumFrom ofV minV none (t.items.take (k + 1))).isSome = true := by rw [sum_step HQ.out.1, show more minV _ _ = _ from opt_less HAV.out.2 HAV.out.1 (by have := HC3.out; omega)]; exact ⟨rfl, rfl⟩
                have hfk : fndB vl t.items (k + 1) = false := by unfold fndB; rw [any_step HQ.out.1]; have h := HFV.out; unfold fndB at h; revert h; cases anyTo vl t.items <;> cases anyTo vl (t.items.take k) <;> simp
                have ho := HtO.out
                try simp only [Bool.not_true, Bool.not_false] at ho
                refine END.out ((W2.setCell ⟨w5.heap.size + 4, 0, none⟩ (.int .u64 vv)).setCell ⟨w5.heap.size + 5, 0, none⟩ (.bool true)) false (s0) (vv) had true (holN HSZ.out (j := 5) (by decide) (holN HSZ.out (j := 4) (by decide) (Holds.refl H10.out))) ((frN (j := 5) (by decide) (by decide) ((frN (j := 4) (by decide) (by decide) (Fr.refl (fun j => w5.heap.size + 1 ≤ j ∧ j ≤ w5.heap.size + 6) W2))))) ?_ ?_ ?_ ?_ ?_ ?_ hup hsu hfk
                all_goals try simp only [Bool.not_true, Bool.not_false]
                all_goals repeat' (with_reducible first | exact HtF.out | exact HtS.out | exact HtH.out | exact HtA.out | exact HtB.out | exact ho | apply putN | (refine farN ?_ (by decide)))
            · have g3 : (kq.1 == 0) = false := beq_eq_false_iff_ne.2 g1
              clear g1
              gi_wp2
              have hup : (uptoU nm (t.items.take (k + 1))).getD 0 = s0 ∧ (uptoU nm (t.items.take (k + 1))).isSome = had := by rw [upto_step HQ.out.1, if_neg (show ¬ kk.1 ≤ nm by have := HC1.out; omega)]; exact HSV.out
              have hsu : (sumFrom ofV minV none (t.items.take (k + 1))).getD 0 = vv ∧ (sumFrom ofV minV none (t.items.take (k + 1))).isSome = true := by rw [sum_step HQ.out.1, show more minV _ _ = _ from opt_less HAV.out.2 HAV.out.1 (by have := HC3.out; omega)]; exact ⟨rfl, rfl⟩
              have hfk : fndB vl t.items (k + 1) = false := by unfold fndB; rw [any_step HQ.out.1]; have h := HFV.out; unfold fndB at h; revert h; cases anyTo vl t.items <;> cases anyTo vl (t.items.take k) <;> simp
              have ho := HtO.out
              try simp only [Bool.not_true, Bool.not_false] at ho
              refine END.out ((W2.setCell ⟨w5.heap.size + 4, 0, none⟩ (.int .u64 vv)).setCell ⟨w5.heap.size + 5, 0, none⟩ (.bool true)) false (s0) (vv) had true (holN HSZ.out (j := 5) (by decide) (holN HSZ.out (j := 4) (by decide) (Holds.refl H10.out))) ((frN (j := 5) (by decide) (by decide) ((frN (j := 4) (by decide) (by decide) (Fr.refl (fun j => w5.heap.size + 1 ≤ j ∧ j ≤ w5.heap.size + 6) W2))))) ?_ ?_ ?_ ?_ ?_ ?_ hup hsu hfk
              all_goals try simp only [Bool.not_true, Bool.not_false]
              all_goals repeat' (with_reducible first | exact HtF.out | exact HtS.out | exact HtH.out | exact HtA.out | exact HtB.out | exact ho | apply putN | (refine farN ?_ (by decide)))
        · have HC3 := Lib.hid hc3
          have d3 : decide (vv < a0) = false := decide_eq_false hc3
          clear hc3
          cases fb with
          | true =>
            by_cases hc4 : vv ≤ vl
            · have HC4 := Lib.hid hc4
              have d4 : decide (vv ≤ vl) = true := decide_eq_true hc4
              have hkk : kq = kk := by
                have h := HFV.out
                unfold fndB at h
                simp only [Bool.and_eq_true, Bool.not_eq_true'] at h
                rw [← HKQ.out, find_here HT5.out.is.rises HQ.out.1 h.2 hc4]
                rfl
              have g1 : kq.1 = kk.1 := by rw [hkk]
              have g2 : kq.2 = kk.2 := by rw [hkk]
              rw [g1] at K0
              rw [g2] at K1
              clear hc4 hkk g1 g2
              gi_wp2
              have hup : (uptoU nm (t.items.take (k + 1))).getD 0 = s0 ∧ (uptoU nm (t.items.take (k + 1))).isSome = had := by rw [upto_step HQ.out.1, if_neg (show ¬ kk.1 ≤ nm by have := HC1.out; omega)]; exact HSV.out
              have hsu : (sumFrom ofV minV none (t.items.take (k + 1))).getD 0 = a0 ∧ (sumFrom ofV minV none (t.items.take (k + 1))).isSome = true := by rw [sum_step HQ.out.1, show more minV _ _ = _ from opt_keep HAV.out.2 HAV.out.1 (by have := HC3.out; omega)]; exact ⟨rfl, rfl⟩
              have hfk : fndB vl t.items (k + 1) = false := by unfold fndB; rw [any_step HQ.out.1, show decide ((kk, vv).2 ≤ vl) = true from decide_eq_true (show vv ≤ vl by have := HC4.out; omega)]; simp
              have ho := HtO.out
              try simp only [Bool.not_true, Bool.not_false] at ho
              refine END.out ((W2.setCell ⟨w5.heap.size + 6, 0, none⟩ (.bool true)).setCell ⟨w5.heap.size + 1, 0, none⟩ (.bool false)) false (s0) (a0) had true (holN HSZ.out (j := 1) (by decide) (holN HSZ.out (j := 6) (by decide) (Holds.refl H10.out))) ((frN (j := 1) (by decide) (by decide) ((frN (j := 6) (by decide) (by decide) (Fr.refl (fun j => w5.heap.size + 1 ≤ j ∧ j ≤ w5.heap.size + 6) W2))))) ?_ ?_ ?_ ?_ ?_ ?_ hup hsu hfk
              all_goals try simp only [Bool.not_true, Bool.not_false]
              all_goals repeat' (with_reducible first | exact HtF.out | exact HtS.out | exact HtH.out | exact HtA.out | exact HtB.out | exact ho | apply putN | (refine farN ?_ (by decide)))
            · have HC4 := Lib.hid hc4
              have hkk : kq ≠ kk := by
                have h := HFV.out
                unfold fndB at h
                simp only [Bool.and_eq_true, Bool.not_eq_true'] at h
                rw [← HKQ.out]
                exact find_not HT5.out.is.rises HQ.out.1 hc4 h.1
              have d4 : decide (vv ≤ vl) = false := decide_eq_false hc4
              clear hc4
              by_cases g1 : kk.1 = kq.1
              · have g2 : (kk.2 == kq.2) = false := beq_eq_false_iff_ne.2 (fun e => hkk (Prod.ext g1.symm e.symm))
                rw [← g1] at K0
                clear g1 hkk
                gi_wp2
                have hup : (uptoU nm (t.items.take (k + 1))).getD 0 = s0 ∧ (uptoU nm (t.items.take (k + 1))).isSome = had := by rw [upto_step HQ.out.1, if_neg (show ¬ kk.1 ≤ nm by have := HC1.out; omega)]; exact HSV.out
                have hsu : (sumFrom ofV minV none (t.items.take (k + 1))).getD 0 = a0 ∧ (sumFrom ofV minV none (t.items.take (k + 1))).isSome = true := by rw [sum_step HQ.out.1, show more minV _ _ = _ from opt_keep HAV.out.2 HAV.out.1 (by have := HC3.out; omega)]; exact ⟨rfl, rfl⟩
                have hfk : fndB vl t.items (k + 1) = true := by unfold fndB; rw [any_step HQ.out.1, show decide ((kk, vv).2 ≤ vl) = false from decide_eq_false (show ¬ vv ≤ vl by have := HC4.out; omega), Bool.or_false]; exact (show (anyTo vl t.items && !anyTo vl (t.items.take k)) = true from HFV.out)
                have ho := HtO.out
                try simp only [Bool.not_true, Bool.not_false] at ho
                refine END.out W2 true (s0) (a0) had true (Holds.refl H10.out) (Fr.refl (fun j => w5.heap.size + 1 ≤ j ∧ j ≤ w5.heap.size + 6) W2) ?_ ?_ ?_ ?_ ?_ ?_ hup hsu hfk
                all_goals try simp only [Bool.not_true, Bool.not_false]
                all_goals repeat' (with_reducible first | exact HtF.out | exact HtS.out | exact HtH.out | exact HtA.out | exact HtB.out | exact ho | apply putN | (refine farN ?_ (by decide)))
              · have g2 : (kk.1 == kq.1) = false := beq_eq_false_iff_ne.2 g1
                clear g1 hkk
                gi_wp2
                have hup : (uptoU nm (t.items.take (k + 1))).getD 0 = s0 ∧ (uptoU nm (t.items.take (k + 1))).isSome = had := by rw [upto_step HQ.out.1, if_neg (show ¬ kk.1 ≤ nm by have := HC1.out; omega)]; exact HSV.out
                have hsu : (sumFrom ofV minV none (t.items.take (k + 1))).getD 0 = a0 ∧ (sumFrom ofV minV none (t.items.take (k + 1))).isSome = true := by rw [sum_step HQ.out.1, show more minV _ _ = _ from opt_keep HAV.out.2 HAV.out.1 (by have := HC3.out; omega)]; exact ⟨rfl, rfl⟩
                have hfk : fndB vl t.items (k + 1) = true := by unfold fndB; rw [any_step HQ.out.1, show decide ((kk, vv).2 ≤ vl) = false from decide_eq_false (show ¬ vv ≤ vl by have := HC4.out; omega), Bool.or_false]; exact (show (anyTo vl t.items && !anyTo vl (t.items.take k)) = true from HFV.out)
                have ho := HtO.out
                try simp only [Bool.not_true, Bool.not_false] at ho
                refine END.out W2 true (s0) (a0) had true (Holds.refl H10.out) (Fr.refl (fun j => w5.heap.size + 1 ≤ j ∧ j ≤ w5.heap.size + 6) W2) ?_ ?_ ?_ ?_ ?_ ?_ hup hsu hfk
                all_goals try simp only [Bool.not_true, Bool.not_false]
                all_goals repeat' (with_reducible first | exact HtF.out | exact HtS.out | exact HtH.out | exact HtA.out | exact HtB.out | exact ho | apply putN | (refine farN ?_ (by decide)))
          | false =>
            by_cases g1 : kq.1 = 0
            · rw [g1] at K0
              by_cases g2 : kq.2 = 0
              · rw [g2] at K1
                clear g1 g2
                by_cases hc4 : vv ≤ vl
                · have d4 : decide (vv ≤ vl) = true := decide_eq_true hc4
                  clear hc4
                  gi_wp2
                  have hup : (uptoU nm (t.items.take (k + 1))).getD 0 = s0 ∧ (uptoU nm (t.items.take (k + 1))).isSome = had := by rw [upto_step HQ.out.1, if_neg (show ¬ kk.1 ≤ nm by have := HC1.out; omega)]; exact HSV.out
                  have hsu : (sumFrom ofV minV none (t.items.take (k + 1))).getD 0 = a0 ∧ (sumFrom ofV minV none (t.items.take (k + 1))).isSome = true := by rw [sum_step HQ.out.1, show more minV _ _ = _ from opt_keep HAV.out.2 HAV.out.1 (by have := HC3.out; omega)]; exact ⟨rfl, rfl⟩
                  have hfk : fndB vl t.items (k + 1) = false := by unfold fndB; rw [any_step HQ.out.1]; have h := HFV.out; unfold fndB at h; revert h; cases anyTo vl t.items <;> cases anyTo vl (t.items.take k) <;> simp
                  have ho := HtO.out
                  try simp only [Bool.not_true, Bool.not_false] at ho
                  refine END.out W2 false (s0) (a0) had true (Holds.refl H10.out) (Fr.refl (fun j => w5.heap.size + 1 ≤ j ∧ j ≤ w5.heap.size + 6) W2) ?_ ?_ ?_ ?_ ?_ ?_ hup hsu hfk
                  all_goals try simp only [Bool.not_true, Bool.not_false]
                  all_goals repeat' (with_reducible first | exact HtF.out | exact HtS.out | exact HtH.out | exact HtA.out | exact HtB.out | exact ho | apply putN | (refine farN ?_ (by decide)))
                · have d4 : decide (vv ≤ vl) = false := decide_eq_false hc4
                  clear hc4
                  gi_wp2
                  have hup : (uptoU nm (t.items.take (k + 1))).getD 0 = s0 ∧ (uptoU nm (t.items.take (k + 1))).isSome = had := by rw [upto_step HQ.out.1, if_neg (show ¬ kk.1 ≤ nm by have := HC1.out; omega)]; exact HSV.out
                  have hsu : (sumFrom ofV minV none (t.items.take (k + 1))).getD 0 = a0 ∧ (sumFrom ofV minV none (t.items.take (k + 1))).isSome = true := by rw [sum_step HQ.out.1, show more minV _ _ = _ from opt_keep HAV.out.2 HAV.out.1 (by have := HC3.out; omega)]; exact ⟨rfl, rfl⟩
                  have hfk : fndB vl t.items (k + 1) = false := by unfold fndB; rw [any_step HQ.out.1]; have h := HFV.out; unfold fndB at h; revert h; cases anyTo vl t.items <;> cases anyTo vl (t.items.take k) <;> simp
                  have ho := HtO.out
                  try simp only [Bool.not_true, Bool.not_false] at ho
                  refine END.out W2 false (s0) (a0) had true (Holds.refl H10.out) (Fr.refl (fun j => w5.heap.size + 1 ≤ j ∧ j ≤ w5.heap.size + 6) W2) ?_ ?_ ?_ ?_ ?_ ?_ hup hsu hfk
                  all_goals try simp only [Bool.not_true, Bool.not_false]
                  all_goals repeat' (with_reducible first | exact HtF.out | exact HtS.out | exact HtH.out | exact HtA.out | exact HtB.out | exact ho | apply putN | (refine farN ?_ (by decide)))
              · have g3 : (kq.2 == 0) = false := beq_eq_false_iff_ne.2 g2
                clear g1 g2
                gi_wp2
                have hup : (uptoU nm (t.items.take (k + 1))).getD 0 = s0 ∧ (uptoU nm (t.items.take (k + 1))).isSome = had := by rw [upto_step HQ.out.1, if_neg (show ¬ kk.1 ≤ nm by have := HC1.out; omega)]; exact HSV.out
                have hsu : (sumFrom ofV minV none (t.items.take (k + 1))).getD 0 = a0 ∧ (sumFrom ofV minV none (t.items.take (k + 1))).isSome = true := by rw [sum_step HQ.out.1, show more minV _ _ = _ from opt_keep HAV.out.2 HAV.out.1 (by have := HC3.out; omega)]; exact ⟨rfl, rfl⟩
                have hfk : fndB vl t.items (k + 1) = false := by unfold fndB; rw [any_step HQ.out.1]; have h := HFV.out; unfold fndB at h; revert h; cases anyTo vl t.items <;> cases anyTo vl (t.items.take k) <;> simp
                have ho := HtO.out
                try simp only [Bool.not_true, Bool.not_false] at ho
                refine END.out W2 false (s0) (a0) had true (Holds.refl H10.out) (Fr.refl (fun j => w5.heap.size + 1 ≤ j ∧ j ≤ w5.heap.size + 6) W2) ?_ ?_ ?_ ?_ ?_ ?_ hup hsu hfk
                all_goals try simp only [Bool.not_true, Bool.not_false]
                all_goals repeat' (with_reducible first | exact HtF.out | exact HtS.out | exact HtH.out | exact HtA.out | exact HtB.out | exact ho | apply putN | (refine farN ?_ (by decide)))
            · have g3 : (kq.1 == 0) = false := beq_eq_false_iff_ne.2 g1
              clear g1
              gi_wp2
              have hup : (uptoU nm (t.items.take (k + 1))).getD 0 = s0 ∧ (uptoU nm (t.items.take (k + 1))).isSome = had := by rw [upto_step HQ.out.1, if_neg (show ¬ kk.1 ≤ nm by have := HC1.out; omega)]; exact HSV.out
              have hsu : (sumFrom ofV minV none (t.items.take (k + 1))).getD 0 = a0 ∧ (sumFrom ofV minV none (t.items.take (k + 1))).isSome = true := by rw [sum_step HQ.out.1, show more minV _ _ = _ from opt_keep HAV.out.2 HAV.out.1 (by have := HC3.out; omega)]; exact ⟨rfl, rfl⟩
              have hfk : fndB vl t.items (k + 1) = false := by unfold fndB; rw [any_step HQ.out.1]; have h := HFV.out; unfold fndB at h; revert h; cases anyTo vl t.items <;> cases anyTo vl (t.items.take k) <;> simp
              have ho := HtO.out
              try simp only [Bool.not_true, Bool.not_false] at ho
              refine END.out W2 false (s0) (a0) had true (Holds.refl H10.out) (Fr.refl (fun j => w5.heap.size + 1 ≤ j ∧ j ≤ w5.heap.size + 6) W2) ?_ ?_ ?_ ?_ ?_ ?_ hup hsu hfk
              all_goals try simp only [Bool.not_true, Bool.not_false]
              all_goals repeat' (with_reducible first | exact HtF.out | exact HtS.out | exact HtH.out | exact HtA.out | exact HtB.out | exact ho | apply putN | (refine farN ?_ (by decide)))
  case hdone =>
    rintro W ⟨h1, h2, h3, h4, h5, h6, h7, h8, h9, ⟨ha, hb, hc⟩, hz⟩ hD
    rw [List.take_length] at h5 h6 h7 h8
    have e1 : fndB vl t.items t.items.length = false := by unfold fndB; rw [List.take_length]; cases anyTo vl t.items <;> rfl
    rw [e1] at h4 h9
    have e2 : (uptoU nm t.items) = u1 := HU1.out
    rw [e2] at h5 h6
    obtain ⟨nw, hw⟩ := h1.is.well
    have e3 : (sumFrom ofV minV none t.items).getD 0 = allU t := (allU_items hw).symm
    have e4 : (sumFrom ofV minV none t.items).isSome = !t.items.isEmpty := by
      have hn := sumFrom_nil (of := ofV) (join := minV) (L := t.items)
      cases hi : t.items with
      | nil => rfl
      | cons p L =>
        rw [hi] at hn
        cases hs : sumFrom ofV minV none (p :: L) with
        | none => exact absurd (hn.1 hs) (by simp)
        | some x => rfl
    rw [e3] at h7
    rw [e4] at h8
    obtain ⟨u2, hu2⟩ : ∃ x, u1.getD 0 = x := ⟨_, rfl⟩
    obtain ⟨u3, hu3⟩ : ∃ x, u1.isSome = x := ⟨_, rfl⟩
    obtain ⟨al, hal⟩ : ∃ x, allU t = x := ⟨_, rfl⟩
    obtain ⟨ne, hne⟩ : ∃ x, (!t.items.isEmpty) = x := ⟨_, rfl⟩
    obtain ⟨l, hll⟩ : ∃ l, t.items.length = l := ⟨_, rfl⟩
    have hlz : decide ((0 : Int) < (l : Int)) = ne := by
      rw [← hll, ← hne]
      cases t.items with
      | nil => rfl
      | cons p L => exact decide_eq_true (by first | (simp; done) | (simp; omega))
    have hlz2 : decide (0 < l) = ne := by rw [← hlz]; simp
    have HLZ2 := Lib.hid hlz2
    clear hlz2
    rw [hu2] at h5 ⊢
    rw [hu3] at h6 ⊢
    rw [hal] at h7 ⊢
    rw [hne] at h8 ⊢
    have HX := Lib.hid (And.intro h1 (And.intro h4 (And.intro h5 (And.intro h6 (And.intro h7 (And.intro h8 (And.intro h9 (And.intro hb (And.intro hc (And.intro hz hD))))))))))
    have LEN2 := Lib.hid (fun w' (h : Below W.heap.size W w') => ru_len T t w' (h1.next h).is)
    rw [hll] at LEN2
    have HLZ := Lib.hid hlz
    clear h1 h2 h3 h4 h5 h6 h7 h8 h9 ha hb hc hz hD b0 b1 b2 b3 b4 b5 b6 b7 hB0 hTA e0 e1 e2 e3 e4 hu2 hu3 hal hne hll hw
    go_upto_region 26 with (fail)
    cases ne with
    | false =>
      have KR : Hid (∀ w', Below (W.heap.size) W w' → (w'.cell? ⟨w5.heap.size + 6, 0, none⟩ = some (.bool true) ∧ w'.cell? ⟨w5.heap.size + 2, 0, none⟩ = some (.int .u64 u2) ∧ w'.cell? ⟨w5.heap.size + 3, 0, none⟩ = some (.bool u3) ∧ w'.cell? ⟨w5.heap.size + 4, 0, none⟩ = some (.int .u64 al) ∧ w'.cell? ⟨w5.heap.size + 5, 0, none⟩ = some (.bool false) ∧ w'.cell? ⟨w.heap.size + 1, 0, none⟩ = some (.int .u64 vl)) ∧ Below (W.heap.size) W w') := fun w' hb => ⟨⟨(HX.out.2.2.2.2.2.2.1.next hb).get 0 rfl, (HX.out.2.2.1.next hb).get 0 rfl, (HX.out.2.2.2.1.next hb).get 0 rfl, (HX.out.2.2.2.2.1.next hb).get 0 rfl, (HX.out.2.2.2.2.2.1.next hb).get 0 rfl, (HX.out.2.2.2.2.2.2.2.1.next hb).get 0 rfl⟩, hb⟩
      refine wp_region_noPanic ?_
      refine wp_region_Z [38] (fun w' => (w'.cell? ⟨w5.heap.size + 6, 0, none⟩ = some (.bool true) ∧ w'.cell? ⟨w5.heap.size + 2, 0, none⟩ = some (.int .u64 u2) ∧ w'.cell? ⟨w5.heap.size + 3, 0, none⟩ = some (.bool u3) ∧ w'.cell? ⟨w5.heap.size + 4, 0, none⟩ = some (.int .u64 al) ∧ w'.cell? ⟨w5.heap.size + 5, 0, none⟩ = some (.bool false) ∧ w'.cell? ⟨w.heap.size + 1, 0, none⟩ = some (.int .u64 vl)) ∧ Below (W.heap.size) W w') (by kernel_rfl) (KR.out _ (below_of_drew (Below.refl W.heap.size W))) (fun hH => ?_)
      have hbR := below_of_drew (Below.refl W.heap.size W)
      first | (refine wpAnyZ_take (i := 0) (v := undef) rfl ?_ ?_ ?_ ?_ (fun _ _ _ h => h) ?_ ?_ ?_; kernel_rfl; kernel_rfl; kernel_rfl; kernel_rfl; exact Or.inr ⟨by rfl, rfl⟩; exact hH) | (refine wpAnyZ_take (i := 0) (v := ?_) rfl ?_ ?_ ?_ ?_ (fun _ _ _ h => h) ?_ ?_ ?_; rotate_left; kernel_rfl; kernel_rfl; kernel_rfl; kernel_rfl; (focus (refine Or.inl ⟨by rfl, ?_⟩; intro w' hSw; (try dsimp only at hSw); go_simp)); exact hH) | (refine wpAnyZ_take (i := 0) (v := ?_) rfl ?_ ?_ ?_ ?_ (fun _ _ _ h => h) ?_ ?_ ?_; rotate_left; kernel_rfl; kernel_rfl; kernel_rfl; kernel_rfl; (focus (refine Or.inl ⟨by rfl, ?_⟩; intro w' hSw; (try dsimp only at hSw); go_simp; with_reducible rfl)); exact hH)
      try simp only [Act.put, List.getElem_toArray, List.getElem_cons_succ, List.getElem_cons_zero, List.setIfInBounds_toArray, List.set_cons_zero, List.set_cons_succ]
      first | (refine wpAnyZ_take (i := 1) (v := undef) rfl ?_ ?_ ?_ ?_ (fun _ _ _ h => h) ?_ ?_ ?_; kernel_rfl; kernel_rfl; kernel_rfl; kernel_rfl; exact Or.inr ⟨by rfl, rfl⟩; exact hH) | (refine wpAnyZ_take (i := 1) (v := ?_) rfl ?_ ?_ ?_ ?_ (fun _ _ _ h => h) ?_ ?_ ?_; rotate_left; kernel_rfl; kernel_rfl; kernel_rfl; kernel_rfl; (focus (refine Or.inl ⟨by rfl, ?_⟩; intro w' hSw; (try dsimp only at hSw); go_simp)); exact hH) | (refine wpAnyZ_take (i := 1) (v := ?_) rfl ?_ ?_ ?_ ?_ (fun _ _ _ h => h) ?_ ?_ ?_; rotate_left; kernel_rfl; kernel_rfl; kernel_rfl; kernel_rfl; (focus (refine Or.inl ⟨by rfl, ?_⟩; intro w' hSw; (try dsimp only at hSw); go_simp; with_reducible rfl)); exact hH)
      try simp only [Act.put, List.getElem_toArray, List.getElem_cons_succ, List.getElem_cons_zero, List.setIfInBounds_toArray, List.set_cons_zero, List.set_cons_succ]
      first | (refine wpAnyZ_take (i := 2) (v := undef) rfl ?_ ?_ ?_ ?_ (fun _ _ _ h => h) ?_ ?_ ?_; kernel_rfl; kernel_rfl; kernel_rfl; kernel_rfl; exact Or.inr ⟨by rfl, rfl⟩; exact hH) | (refine wpAnyZ_take (i := 2) (v := ?_) rfl ?_ ?_ ?_ ?_ (fun _ _ _ h => h) ?_ ?_ ?_; rotate_left; kernel_rfl; kernel_rfl; kernel_rfl; kernel_rfl; (focus (refine Or.inl ⟨by rfl, ?_⟩; intro w' hSw; (try dsimp only at hSw); go_simp)); exact hH) | (refine wpAnyZ_take (i := 2) (v := ?_) rfl ?_ ?_ ?_ ?_ (fun _ _ _ h => h) ?_ ?_ ?_; rotate_left; kernel_rfl; kernel_rfl; kernel_rfl; kernel_rfl; (focus (refine Or.inl ⟨by rfl, ?_⟩; intro w' hSw; (try dsimp only at hSw); go_simp; with_reducible rfl)); exact hH)
      try simp only [Act.put, List.getElem_toArray, List.getElem_cons_succ, List.getElem_cons_zero, List.setIfInBounds_toArray, List.set_cons_zero, List.set_cons_succ]
      first | (refine wpAnyZ_take (i := 3) (v := undef) rfl ?_ ?_ ?_ ?_ (fun _ _ _ h => h) ?_ ?_ ?_; kernel_rfl; kernel_rfl; kernel_rfl; kernel_rfl; exact Or.inr ⟨by rfl, rfl⟩; exact hH) | (refine wpAnyZ_take (i := 3) (v := ?_) rfl ?_ ?_ ?_ ?_ (fun _ _ _ h => h) ?_ ?_ ?_; rotate_left; kernel_rfl; kernel_rfl; kernel_rfl; kernel_rfl; (focus (refine Or.inl ⟨by rfl, ?_⟩; intro w' hSw; (try dsimp only at hSw); go_simp)); exact hH) | (refine wpAnyZ_take (i := 3) (v := ?_) rfl ?_ ?_ ?_ ?_ (fun _ _ _ h => h) ?_ ?_ ?_; rotate_left; kernel_rfl; kernel_rfl; kernel_rfl; kernel_rfl; (focus (refine Or.inl ⟨by rfl, ?_⟩; intro w' hSw; (try dsimp only at hSw); go_simp; with_reducible rfl)); exact hH)
      try simp only [Act.put, List.getElem_toArray, List.getElem_cons_succ, List.getElem_cons_zero, List.setIfInBounds_toArray, List.set_cons_zero, List.set_cons_succ]
      first | (refine wpAnyZ_take (i := 4) (v := undef) rfl ?_ ?_ ?_ ?_ (fun _ _ _ h => h) ?_ ?_ ?_; kernel_rfl; kernel_rfl; kernel_rfl; kernel_rfl; exact Or.inr ⟨by rfl, rfl⟩; exact hH) | (refine wpAnyZ_take (i := 4) (v := ?_) rfl ?_ ?_ ?_ ?_ (fun _ _ _ h => h) ?_ ?_ ?_; rotate_left; kernel_rfl; kernel_rfl; kernel_rfl; kernel_rfl; (focus (refine Or.inl ⟨by rfl, ?_⟩; intro w' hSw; (try dsimp only at hSw); go_simp)); exact hH) | (refine wpAnyZ_take (i := 4) (v := ?_) rfl ?_ ?_ ?_ ?_ (fun _ _ _ h => h) ?_ ?_ ?_; rotate_left; kernel_rfl; kernel_rfl; kernel_rfl; kernel_rfl; (focus (refine Or.inl ⟨by rfl, ?_⟩; intro w' hSw; (try dsimp only at hSw); go_simp; with_reducible rfl)); exact hH)
      try simp only [Act.put, List.getElem_toArray, List.getElem_cons_succ, List.getElem_cons_zero, List.setIfInBounds_toArray, List.set_cons_zero, List.set_cons_succ]
      first | (refine wpAnyZ_take (i := 5) (v := undef) rfl ?_ ?_ ?_ ?_ (fun _ _ _ h => h) ?_ ?_ ?_; kernel_rfl; kernel_rfl; kernel_rfl; kernel_rfl; exact Or.inr ⟨by rfl, rfl⟩; exact hH) | (refine wpAnyZ_take (i := 5) (v := ?_) rfl ?_ ?_ ?_ ?_ (fun _ _ _ h => h) ?_ ?_ ?_; rotate_left; kernel_rfl; kernel_rfl; kernel_rfl; kernel_rfl; (focus (refine Or.inl ⟨by rfl, ?_⟩; intro w' hSw; (try dsimp only at hSw); go_simp)); exact hH) | (refine wpAnyZ_take (i := 5) (v := ?_) rfl ?_ ?_ ?_ ?_ (fun _ _ _ h => h) ?_ ?_ ?_; rotate_left; kernel_rfl; kernel_rfl; kernel_rfl; kernel_rfl; (focus (refine Or.inl ⟨by rfl, ?_⟩; intro w' hSw; (try dsimp only at hSw); go_simp; with_reducible rfl)); exact hH)
      try simp only [Act.put, List.getElem_toArray, List.getElem_cons_succ, List.getElem_cons_zero, List.setIfInBounds_toArray, List.set_cons_zero, List.set_cons_succ]
      first | (refine wpAnyZ_take (i := 6) (v := undef) rfl ?_ ?_ ?_ ?_ (fun _ _ _ h => h) ?_ ?_ ?_; kernel_rfl; kernel_rfl; kernel_rfl; kernel_rfl; exact Or.inr ⟨by rfl, rfl⟩; exact hH) | (refine wpAnyZ_take (i := 6) (v := ?_) rfl ?_ ?_ ?_ ?_ (fun _ _ _ h => h) ?_ ?_ ?_; rotate_left; kernel_rfl; kernel_rfl; kernel_rfl; kernel_rfl; (focus (refine Or.inl ⟨by rfl, ?_⟩; intro w' hSw; (try dsimp only at hSw); go_simp)); exact hH) | (refine wpAnyZ_take (i := 6) (v := ?_) rfl ?_ ?_ ?_ ?_ (fun _ _ _ h => h) ?_ ?_ ?_; rotate_left; kernel_rfl; kernel_rfl; kernel_rfl; kernel_rfl; (focus (refine Or.inl ⟨by rfl, ?_⟩; intro w' hSw; (try dsimp only at hSw); go_simp; with_reducible rfl)); exact hH)
      try simp only [Act.put, List.getElem_toArray, List.getElem_cons_succ, List.getElem_cons_zero, List.setIfInBounds_toArray, List.set_cons_zero, List.set_cons_succ]
      first | (refine wpAnyZ_take (i := 7) (v := undef) rfl ?_ ?_ ?_ ?_ (fun _ _ _ h => h) ?_ ?_ ?_; kernel_rfl; kernel_rfl; kernel_rfl; kernel_rfl; exact Or.inr ⟨by rfl, rfl⟩; exact hH) | (refine wpAnyZ_take (i := 7) (v := ?_) rfl ?_ ?_ ?_ ?_ (fun _ _ _ h => h) ?_ ?_ ?_; rotate_left; kernel_rfl; kernel_rfl; kernel_rfl; kernel_rfl; (focus (refine Or.inl ⟨by rfl, ?_⟩; intro w' hSw; (try dsimp only at hSw); go_simp)); exact hH) | (refine wpAnyZ_take (i := 7) (v := ?_) rfl ?_ ?_ ?_ ?_ (fun _ _ _ h => h) ?_ ?_ ?_; rotate_left; kernel_rfl; kernel_rfl; kernel_rfl; kernel_rfl; (focus (refine Or.inl ⟨by rfl, ?_⟩; intro w' hSw; (try dsimp only at hSw); go_simp; with_reducible rfl)); exact hH)
      try simp only [Act.put, List.getElem_toArray, List.getElem_cons_succ, List.getElem_cons_zero, List.setIfInBounds_toArray, List.set_cons_zero, List.set_cons_succ]
      first | (refine wpAnyZ_take (i := 8) (v := undef) rfl ?_ ?_ ?_ ?_ (fun _ _ _ h => h) ?_ ?_ ?_; kernel_rfl; kernel_rfl; kernel_rfl; kernel_rfl; exact Or.inr ⟨by rfl, rfl⟩; exact hH) | (refine wpAnyZ_take (i := 8) (v := ?_) rfl ?_ ?_ ?_ ?_ (fun _ _ _ h => h) ?_ ?_ ?_; rotate_left; kernel_rfl; kernel_rfl; kernel_rfl; kernel_rfl; (focus (refine Or.inl ⟨by rfl, ?_⟩; intro w' hSw; (try dsimp only at hSw); go_simp)); exact hH) | (refine wpAnyZ_take (i := 8) (v := ?_) rfl ?_ ?_ ?_ ?_ (fun _ _ _ h => h) ?_ ?_ ?_; rotate_left; kernel_rfl; kernel_rfl; kernel_rfl; kernel_rfl; (focus (refine Or.inl ⟨by rfl, ?_⟩; intro w' hSw; (try dsimp only at hSw); go_simp; with_reducible rfl)); exact hH)
      try simp only [Act.put, List.getElem_toArray, List.getElem_cons_succ, List.getElem_cons_zero, List.setIfInBounds_toArray, List.set_cons_zero, List.set_cons_succ]
      first | (refine wpAnyZ_take (i := 9) (v := undef) rfl ?_ ?_ ?_ ?_ (fun _ _ _ h => h) ?_ ?_ ?_; kernel_rfl; kernel_rfl; kernel_rfl; kernel_rfl; exact Or.inr ⟨by rfl, rfl⟩; exact hH) | (refine wpAnyZ_take (i := 9) (v := ?_) rfl ?_ ?_ ?_ ?_ (fun _ _ _ h => h) ?_ ?_ ?_; rotate_left; kernel_rfl; kernel_rfl; kernel_rfl; kernel_rfl; (focus (refine Or.inl ⟨by rfl, ?_⟩; intro w' hSw; (try dsimp only at hSw); go_simp)); exact hH) | (refine wpAnyZ_take (i := 9) (v := ?_) rfl ?_ ?_ ?_ ?_ (fun _ _ _ h => h) ?_ ?_ ?_; rotate_left; kernel_rfl; kernel_rfl; kernel_rfl; kernel_rfl; (focus (refine Or.inl ⟨by rfl, ?_⟩; intro w' hSw; (try dsimp only at hSw); go_simp; with_reducible rfl)); exact hH)
      try simp only [Act.put, List.getElem_toArray, List.getElem_cons_succ, List.getElem_cons_zero, List.setIfInBounds_toArray, List.set_cons_zero, List.set_cons_succ]
      first | (refine wpAnyZ_take (i := 10) (v := undef) rfl ?_ ?_ ?_ ?_ (fun _ _ _ h => h) ?_ ?_ ?_; kernel_rfl; kernel_rfl; kernel_rfl; kernel_rfl; exact Or.inr ⟨by rfl, rfl⟩; exact hH) | (refine wpAnyZ_take (i := 10) (v := ?_) rfl ?_ ?_ ?_ ?_ (fun _ _ _ h => h) ?_ ?_ ?_; rotate_left; kernel_rfl; kernel_rfl; kernel_rfl; kernel_rfl; (focus (refine Or.inl ⟨by rfl, ?_⟩; intro w' hSw; (try dsimp only at hSw); go_simp)); exact hH) | (refine wpAnyZ_take (i := 10) (v := ?_) rfl ?_ ?_ ?_ ?_ (fun _ _ _ h => h) ?_ ?_ ?_; rotate_left; kernel_rfl; kernel_rfl; kernel_rfl; kernel_rfl; (focus (refine Or.inl ⟨by rfl, ?_⟩; intro w' hSw; (try dsimp only at hSw); go_simp; with_reducible rfl)); exact hH)
      try simp only [Act.put, List.getElem_toArray, List.getElem_cons_succ, List.getElem_cons_zero, List.setIfInBounds_toArray, List.set_cons_zero, List.set_cons_succ]
      first | (refine wpAnyZ_take (i := 11) (v := undef) rfl ?_ ?_ ?_ ?_ (fun _ _ _ h => h) ?_ ?_ ?_; kernel_rfl; kernel_rfl; kernel_rfl; kernel_rfl; exact Or.inr ⟨by rfl, rfl⟩; exact hH) | (refine wpAnyZ_take (i := 11) (v := ?_) rfl ?_ ?_ ?_ ?_ (fun _ _ _ h => h) ?_ ?_ ?_; rotate_left; kernel_rfl; kernel_rfl; kernel_rfl; kernel_rfl; (focus (refine Or.inl ⟨by rfl, ?_⟩; intro w' hSw; (try dsimp only at hSw); go_simp)); exact hH) | (refine wpAnyZ_take (i := 11) (v := ?_) rfl ?_ ?_ ?_ ?_ (fun _ _ _ h => h) ?_ ?_ ?_; rotate_left; kernel_rfl; kernel_rfl; kernel_rfl; kernel_rfl; (focus (refine Or.inl ⟨by rfl, ?_⟩; intro w' hSw; (try dsimp only at hSw); go_simp; with_reducible rfl)); exact hH)
      try simp only [Act.put, List.getElem_toArray, List.getElem_cons_succ, List.getElem_cons_zero, List.setIfInBounds_toArray, List.set_cons_zero, List.set_cons_succ]
      first | (refine wpAnyZ_take (i := 12) (v := undef) rfl ?_ ?_ ?_ ?_ (fun _ _ _ h => h) ?_ ?_ ?_; kernel_rfl; kernel_rfl; kernel_rfl; kernel_rfl; exact Or.inr ⟨by rfl, rfl⟩; exact hH) | (refine wpAnyZ_take (i := 12) (v := ?_) rfl ?_ ?_ ?_ ?_ (fun _ _ _ h => h) ?_ ?_ ?_; rotate_left; kernel_rfl; kernel_rfl; kernel_rfl; kernel_rfl; (focus (refine Or.inl ⟨by rfl, ?_⟩; intro w' hSw; (try dsimp only at hSw); go_simp)); exact hH) | (refine wpAnyZ_take (i := 12) (v := ?_) rfl ?_ ?_ ?_ ?_ (fun _ _ _ h => h) ?_ ?_ ?_; rotate_left; kernel_rfl; kernel_rfl; kernel_rfl; kernel_rfl; (focus (refine Or.inl ⟨by rfl, ?_⟩; intro w' hSw; (try dsimp only at hSw); go_simp; with_reducible rfl)); exact hH)
      try simp only [Act.put, List.getElem_toArray, List.getElem_cons_succ, List.getElem_cons_zero, List.setIfInBounds_toArray, List.set_cons_zero, List.set_cons_succ]
      first | (refine wpAnyZ_take (i := 13) (v := undef) rfl ?_ ?_ ?_ ?_ (fun _ _ _ h => h) ?_ ?_ ?_; kernel_rfl; kernel_rfl; kernel_rfl; kernel_rfl; exact Or.inr ⟨by rfl, rfl⟩; exact hH) | (refine wpAnyZ_take (i := 13) (v := ?_) rfl ?_ ?_ ?_ ?_ (fun _ _ _ h => h) ?_ ?_ ?_; rotate_left; kernel_rfl; kernel_rfl; kernel_rfl; kernel_rfl; (focus (refine Or.inl ⟨by rfl, ?_⟩; intro w' hSw; (try dsimp only at hSw); go_simp)); exact hH) | (refine wpAnyZ_take (i := 13) (v := ?_) rfl ?_ ?_ ?_ ?_ (fun _ _ _ h => h) ?_ ?_ ?_; rotate_left; kernel_rfl; kernel_rfl; kernel_rfl; kernel_rfl; (focus (refine Or.inl ⟨by rfl, ?_⟩; intro w' hSw; (try dsimp only at hSw); go_simp; with_reducible rfl)); exact hH)
      try simp only [Act.put, List.getElem_toArray, List.getElem_cons_succ, List.getElem_cons_zero, List.setIfInBounds_toArray, List.set_cons_zero, List.set_cons_succ]
      first | (refine wpAnyZ_take (i := 14) (v := undef) rfl ?_ ?_ ?_ ?_ (fun _ _ _ h => h) ?_ ?_ ?_; kernel_rfl; kernel_rfl; kernel_rfl; kernel_rfl; exact Or.inr ⟨by rfl, rfl⟩; exact hH) | (refine wpAnyZ_take (i := 14) (v := ?_) rfl ?_ ?_ ?_ ?_ (fun _ _ _ h => h) ?_ ?_ ?_; rotate_left; kernel_rfl; kernel_rfl; kernel_rfl; kernel_rfl; (focus (refine Or.inl ⟨by rfl, ?_⟩; intro w' hSw; (try dsimp only at hSw); go_simp)); exact hH) | (refine wpAnyZ_take (i := 14) (v := ?_) rfl ?_ ?_ ?_ ?_ (fun _ _ _ h => h) ?_ ?_ ?_; rotate_left; kernel_rfl; kernel_rfl; kernel_rfl; kernel_rfl; (focus (refine Or.inl ⟨by rfl, ?_⟩; intro w' hSw; (try dsimp only at hSw); go_simp; with_reducible rfl)); exact hH)
      try simp only [Act.put, List.getElem_toArray, List.getElem_cons_succ, List.getElem_cons_zero, List.setIfInBounds_toArray, List.set_cons_zero, List.set_cons_succ]
      first | (refine wpAnyZ_take (i := 15) (v := undef) rfl ?_ ?_ ?_ ?_ (fun _ _ _ h => h) ?_ ?_ ?_; kernel_rfl; kernel_rfl; kernel_rfl; kernel_rfl; exact Or.inr ⟨by rfl, rfl⟩; exact hH) | (refine wpAnyZ_take (i := 15) (v := ?_) rfl ?_ ?_ ?_ ?_ (fun _ _ _ h => h) ?_ ?_ ?_; rotate_left; kernel_rfl; kernel_rfl; kernel_rfl; kernel_rfl; (focus (refine Or.inl ⟨by rfl, ?_⟩; intro w' hSw; (try dsimp only at hSw); go_simp)); exact hH) | (refine wpAnyZ_take (i := 15) (v := ?_) rfl ?_ ?_ ?_ ?_ (fun _ _ _ h => h) ?_ ?_ ?_; rotate_left; kernel_rfl; kernel_rfl; kernel_rfl; kernel_rfl; (focus (refine Or.inl ⟨by rfl, ?_⟩; intro w' hSw; (try dsimp only at hSw); go_simp; with_reducible rfl)); exact hH)
      try simp only [Act.put, List.getElem_toArray, List.getElem_cons_succ, List.getElem_cons_zero, List.setIfInBounds_toArray, List.set_cons_zero, List.set_cons_succ]
      first | (refine wpAnyZ_take (i := 16) (v := undef) rfl ?_ ?_ ?_ ?_ (fun _ _ _ h => h) ?_ ?_ ?_; kernel_rfl; kernel_rfl; kernel_rfl; kernel_rfl; exact Or.inr ⟨by rfl, rfl⟩; exact hH) | (refine wpAnyZ_take (i := 16) (v := ?_) rfl ?_ ?_ ?_ ?_ (fun _ _ _ h => h) ?_ ?_ ?_; rotate_left; kernel_rfl; kernel_rfl; kernel_rfl; kernel_rfl; (focus (refine Or.inl ⟨by rfl, ?_⟩; intro w' hSw; (try dsimp only at hSw); go_simp)); exact hH) | (refine wpAnyZ_take (i := 16) (v := ?_) rfl ?_ ?_ ?_ ?_ (fun _ _ _ h => h) ?_ ?_ ?_; rotate_left; kernel_rfl; kernel_rfl; kernel_rfl; kernel_rfl; (focus (refine Or.inl ⟨by rfl, ?_⟩; intro w' hSw; (try dsimp only at hSw); go_simp; with_reducible rfl)); exact hH)
      try simp only [Act.put, List.getElem_toArray, List.getElem_cons_succ, List.getElem_cons_zero, List.setIfInBounds_toArray, List.set_cons_zero, List.set_cons_succ]
      first | (refine wpAnyZ_take (i := 17) (v := undef) rfl ?_ ?_ ?_ ?_ (fun _ _ _ h => h) ?_ ?_ ?_; kernel_rfl; kernel_rfl; kernel_rfl; kernel_rfl; exact Or.inr ⟨by rfl, rfl⟩; exact hH) | (refine wpAnyZ_take (i := 17) (v := ?_) rfl ?_ ?_ ?_ ?_ (fun _ _ _ h => h) ?_ ?_ ?_; rotate_left; kernel_rfl; kernel_rfl; kernel_rfl; kernel_rfl; (focus (refine Or.inl ⟨by rfl, ?_⟩; intro w' hSw; (try dsimp only at hSw); go_simp)); exact hH) | (refine wpAnyZ_take (i := 17) (v := ?_) rfl ?_ ?_ ?_ ?_ (fun _ _ _ h => h) ?_ ?_ ?_; rotate_left; kernel_rfl; kernel_rfl; kernel_rfl; kernel_rfl; (focus (refine Or.inl ⟨by rfl, ?_⟩; intro w' hSw; (try dsimp only at hSw); go_simp; with_reducible rfl)); exact hH)
      try simp only [Act.put, List.getElem_toArray, List.getElem_cons_succ, List.getElem_cons_zero, List.setIfInBounds_toArray, List.set_cons_zero, List.set_cons_succ]
      first | (refine wpAnyZ_take (i := 18) (v := undef) rfl ?_ ?_ ?_ ?_ (fun _ _ _ h => h) ?_ ?_ ?_; kernel_rfl; kernel_rfl; kernel_rfl; kernel_rfl; exact Or.inr ⟨by rfl, rfl⟩; exact hH) | (refine wpAnyZ_take (i := 18) (v := ?_) rfl ?_ ?_ ?_ ?_ (fun _ _ _ h => h) ?_ ?_ ?_; rotate_left; kernel_rfl; kernel_rfl; kernel_rfl; kernel_rfl; (focus (refine Or.inl ⟨by rfl, ?_⟩; intro w' hSw; (try dsimp only at hSw); go_simp)); exact hH) | (refine wpAnyZ_take (i := 18) (v := ?_) rfl ?_ ?_ ?_ ?_ (fun _ _ _ h => h) ?_ ?_ ?_; rotate_left; kernel_rfl; kernel_rfl; kernel_rfl; kernel_rfl; (focus (refine Or.inl ⟨by rfl, ?_⟩; intro w' hSw; (try dsimp only at hSw); go_simp; with_reducible rfl)); exact hH)
      try simp only [Act.put, List.getElem_toArray, List.getElem_cons_succ, List.getElem_cons_zero, List.setIfInBounds_toArray, List.set_cons_zero, List.set_cons_succ]
      first | (refine wpAnyZ_take (i := 19) (v := undef) rfl ?_ ?_ ?_ ?_ (fun _ _ _ h => h) ?_ ?_ ?_; kernel_rfl; kernel_rfl; kernel_rfl; kernel_rfl; exact Or.inr ⟨by rfl, rfl⟩; exact hH) | (refine wpAnyZ_take (i := 19) (v := ?_) rfl ?_ ?_ ?_ ?_ (fun _ _ _ h => h) ?_ ?_ ?_; rotate_left; kernel_rfl; kernel_rfl; kernel_rfl; kernel_rfl; (focus (refine Or.inl ⟨by rfl, ?_⟩; intro w' hSw; (try dsimp only at hSw); go_simp)); exact hH) | (refine wpAnyZ_take (i := 19) (v := ?_) rfl ?_ ?_ ?_ ?_ (fun _ _ _ h => h) ?_ ?_ ?_; rotate_left; kernel_rfl; kernel_rfl; kernel_rfl; kernel_rfl; (focus (refine Or.inl ⟨by rfl, ?_⟩; intro w' hSw; (try dsimp only at hSw); go_simp; with_reducible rfl)); exact hH)
      try simp only [Act.put, List.getElem_toArray, List.getElem_cons_succ, List.getElem_cons_zero, List.setIfInBounds_toArray, List.set_cons_zero, List.set_cons_succ]
      first | (refine wpAnyZ_take (i := 20) (v := undef) rfl ?_ ?_ ?_ ?_ (fun _ _ _ h => h) ?_ ?_ ?_; kernel_rfl; kernel_rfl; kernel_rfl; kernel_rfl; exact Or.inr ⟨by rfl, rfl⟩; exact hH) | (refine wpAnyZ_take (i := 20) (v := ?_) rfl ?_ ?_ ?_ ?_ (fun _ _ _ h => h) ?_ ?_ ?_; rotate_left; kernel_rfl; kernel_rfl; kernel_rfl; kernel_rfl; (focus (refine Or.inl ⟨by rfl, ?_⟩; intro w' hSw; (try dsimp only at hSw); go_simp)); exact hH) | (refine wpAnyZ_take (i := 20) (v := ?_) rfl ?_ ?_ ?_ ?_ (fun _ _ _ h => h) ?_ ?_ ?_; rotate_left; kernel_rfl; kernel_rfl; kernel_rfl; kernel_rfl; (focus (refine Or.inl ⟨by rfl, ?_⟩; intro w' hSw; (try dsimp only at hSw); go_simp; with_reducible rfl)); exact hH)
      try simp only [Act.put, List.getElem_toArray, List.getElem_cons_succ, List.getElem_cons_zero, List.setIfInBounds_toArray, List.set_cons_zero, List.set_cons_succ]
      first | (refine wpAnyZ_take (i := 21) (v := undef) rfl ?_ ?_ ?_ ?_ (fun _ _ _ h => h) ?_ ?_ ?_; kernel_rfl; kernel_rfl; kernel_rfl; kernel_rfl; exact Or.inr ⟨by rfl, rfl⟩; exact hH) | (refine wpAnyZ_take (i := 21) (v := ?_) rfl ?_ ?_ ?_ ?_ (fun _ _ _ h => h) ?_ ?_ ?_; rotate_left; kernel_rfl; kernel_rfl; kernel_rfl; kernel_rfl; (focus (refine Or.inl ⟨by rfl, ?_⟩; intro w' hSw; (try dsimp only at hSw); go_simp)); exact hH) | (refine wpAnyZ_take (i := 21) (v := ?_) rfl ?_ ?_ ?_ ?_ (fun _ _ _ h => h) ?_ ?_ ?_; rotate_left; kernel_rfl; kernel_rfl; kernel_rfl; kernel_rfl; (focus (refine Or.inl ⟨by rfl, ?_⟩; intro w' hSw; (try dsimp only at hSw); go_simp; with_reducible rfl)); exact hH)
      try simp only [Act.put, List.getElem_toArray, List.getElem_cons_succ, List.getElem_cons_zero, List.setIfInBounds_toArray, List.set_cons_zero, List.set_cons_succ]
      first | (refine wpAnyZ_take (i := 22) (v := undef) rfl ?_ ?_ ?_ ?_ (fun _ _ _ h => h) ?_ ?_ ?_; kernel_rfl; kernel_rfl; kernel_rfl; kernel_rfl; exact Or.inr ⟨by rfl, rfl⟩; exact hH) | (refine wpAnyZ_take (i := 22) (v := ?_) rfl ?_ ?_ ?_ ?_ (fun _ _ _ h => h) ?_ ?_ ?_; rotate_left; kernel_rfl; kernel_rfl; kernel_rfl; kernel_rfl; (focus (refine Or.inl ⟨by rfl, ?_⟩; intro w' hSw; (try dsimp only at hSw); go_simp)); exact hH) | (refine wpAnyZ_take (i := 22) (v := ?_) rfl ?_ ?_ ?_ ?_ (fun _ _ _ h => h) ?_ ?_ ?_; rotate_left; kernel_rfl; kernel_rfl; kernel_rfl; kernel_rfl; (focus (refine Or.inl ⟨by rfl, ?_⟩; intro w' hSw; (try dsimp only at hSw); go_simp; with_reducible rfl)); exact hH)
      try simp only [Act.put, List.getElem_toArray, List.getElem_cons_succ, List.getElem_cons_zero, List.setIfInBounds_toArray, List.set_cons_zero, List.set_cons_succ]
      first | (refine wpAnyZ_take (i := 23) (v := undef) rfl ?_ ?_ ?_ ?_ (fun _ _ _ h => h) ?_ ?_ ?_; kernel_rfl; kernel_rfl; kernel_rfl; kernel_rfl; exact Or.inr ⟨by rfl, rfl⟩; exact hH) | (refine wpAnyZ_take (i := 23) (v := ?_) rfl ?_ ?_ ?_ ?_ (fun _ _ _ h => h) ?_ ?_ ?_; rotate_left; kernel_rfl; kernel_rfl; kernel_rfl; kernel_rfl; (focus (refine Or.inl ⟨by rfl, ?_⟩; intro w' hSw; (try dsimp only at hSw); go_simp)); exact hH) | (refine wpAnyZ_take (i := 23) (v := ?_) rfl ?_ ?_ ?_ ?_ (fun _ _ _ h => h) ?_ ?_ ?_; rotate_left; kernel_rfl; kernel_rfl; kernel_rfl; kernel_rfl; (focus (refine Or.inl ⟨by rfl, ?_⟩; intro w' hSw; (try dsimp only at hSw); go_simp; with_reducible rfl)); exact hH)
      try simp only [Act.put, List.getElem_toArray, List.getElem_cons_succ, List.getElem_cons_zero, List.setIfInBounds_toArray, List.set_cons_zero, List.set_cons_succ]
      first | (refine wpAnyZ_take (i := 24) (v := undef) rfl ?_ ?_ ?_ ?_ (fun _ _ _ h => h) ?_ ?_ ?_; kernel_rfl; kernel_rfl; kernel_rfl; kernel_rfl; exact Or.inr ⟨by rfl, rfl⟩; exact hH) | (refine wpAnyZ_take (i := 24) (v := ?_) rfl ?_ ?_ ?_ ?_ (fun _ _ _ h => h) ?_ ?_ ?_; rotate_left; kernel_rfl; kernel_rfl; kernel_rfl; kernel_rfl; (focus (refine Or.inl ⟨by rfl, ?_⟩; intro w' hSw; (try dsimp only at hSw); go_simp)); exact hH) | (refine wpAnyZ_take (i := 24) (v := ?_) rfl ?_ ?_ ?_ ?_ (fun _ _ _ h => h) ?_ ?_ ?_; rotate_left; kernel_rfl; kernel_rfl; kernel_rfl; kernel_rfl; (focus (refine Or.inl ⟨by rfl, ?_⟩; intro w' hSw; (try dsimp only at hSw); go_simp; with_reducible rfl)); exact hH)
      try simp only [Act.put, List.getElem_toArray, List.getElem_cons_succ, List.getElem_cons_zero, List.setIfInBounds_toArray, List.set_cons_zero, List.set_cons_succ]
      first | (refine wpAnyZ_take (i := 25) (v := undef) rfl ?_ ?_ ?_ ?_ (fun _ _ _ h => h) ?_ ?_ ?_; kernel_rfl; kernel_rfl; kernel_rfl; kernel_rfl; exact Or.inr ⟨by rfl, rfl⟩; exact hH) | (refine wpAnyZ_take (i := 25) (v := ?_) rfl ?_ ?_ ?_ ?_ (fun _ _ _ h => h) ?_ ?_ ?_; rotate_left; kernel_rfl; kernel_rfl; kernel_rfl; kernel_rfl; (focus (refine Or.inl ⟨by rfl, ?_⟩; intro w' hSw; (try dsimp only at hSw); go_simp)); exact hH) | (refine wpAnyZ_take (i := 25) (v := ?_) rfl ?_ ?_ ?_ ?_ (fun _ _ _ h => h) ?_ ?_ ?_; rotate_left; kernel_rfl; kernel_rfl; kernel_rfl; kernel_rfl; (focus (refine Or.inl ⟨by rfl, ?_⟩; intro w' hSw; (try dsimp only at hSw); go_simp; with_reducible rfl)); exact hH)
      try simp only [Act.put, List.getElem_toArray, List.getElem_cons_succ, List.getElem_cons_zero, List.setIfInBounds_toArray, List.set_cons_zero, List.set_cons_succ]
      first | (refine wpAnyZ_take (i := 26) (v := undef) rfl ?_ ?_ ?_ ?_ (fun _ _ _ h => h) ?_ ?_ ?_; kernel_rfl; kernel_rfl; kernel_rfl; kernel_rfl; exact Or.inr ⟨by rfl, rfl⟩; exact hH) | (refine wpAnyZ_take (i := 26) (v := ?_) rfl ?_ ?_ ?_ ?_ (fun _ _ _ h => h) ?_ ?_ ?_; rotate_left; kernel_rfl; kernel_rfl; kernel_rfl; kernel_rfl; (focus (refine Or.inl ⟨by rfl, ?_⟩; intro w' hSw; (try dsimp only at hSw); go_simp)); exact hH) | (refine wpAnyZ_take (i := 26) (v := ?_) rfl ?_ ?_ ?_ ?_ (fun _ _ _ h => h) ?_ ?_ ?_; rotate_left; kernel_rfl; kernel_rfl; kernel_rfl; kernel_rfl; (focus (refine Or.inl ⟨by rfl, ?_⟩; intro w' hSw; (try dsimp only at hSw); go_simp; with_reducible rfl)); exact hH)
      try simp only [Act.put, List.getElem_toArray, List.getElem_cons_succ, List.getElem_cons_zero, List.setIfInBounds_toArray, List.set_cons_zero, List.set_cons_succ]
      first | (refine wpAnyZ_take (i := 27) (v := undef) rfl ?_ ?_ ?_ ?_ (fun _ _ _ h => h) ?_ ?_ ?_; kernel_rfl; kernel_rfl; kernel_rfl; kernel_rfl; exact Or.inr ⟨by rfl, rfl⟩; exact hH) | (refine wpAnyZ_take (i := 27) (v := ?_) rfl ?_ ?_ ?_ ?_ (fun _ _ _ h => h) ?_ ?_ ?_; rotate_left; kernel_rfl; kernel_rfl; kernel_rfl; kernel_rfl; (focus (refine Or.inl ⟨by rfl, ?_⟩; intro w' hSw; (try dsimp only at hSw); go_simp)); exact hH) | (refine wpAnyZ_take (i := 27) (v := ?_) rfl ?_ ?_ ?_ ?_ (fun _ _ _ h => h) ?_ ?_ ?_; rotate_left; kernel_rfl; kernel_rfl; kernel_rfl; kernel_rfl; (focus (refine Or.inl ⟨by rfl, ?_⟩; intro w' hSw; (try dsimp only at hSw); go_simp; with_reducible rfl)); exact hH)
      try simp only [Act.put, List.getElem_toArray, List.getElem_cons_succ, List.getElem_cons_zero, List.setIfInBounds_toArray, List.set_cons_zero, List.set_cons_succ]
      first | (refine wpAnyZ_take (i := 28) (v := undef) rfl ?_ ?_ ?_ ?_ (fun _ _ _ h => h) ?_ ?_ ?_; kernel_rfl; kernel_rfl; kernel_rfl; kernel_rfl; exact Or.inr ⟨by rfl, rfl⟩; exact hH) | (refine wpAnyZ_take (i := 28) (v := ?_) rfl ?_ ?_ ?_ ?_ (fun _ _ _ h => h) ?_ ?_ ?_; rotate_left; kernel_rfl; kernel_rfl; kernel_rfl; kernel_rfl; (focus (refine Or.inl ⟨by rfl, ?_⟩; intro w' hSw; (try dsimp only at hSw); go_simp)); exact hH) | (refine wpAnyZ_take (i := 28) (v := ?_) rfl ?_ ?_ ?_ ?_ (fun _ _ _ h => h) ?_ ?_ ?_; rotate_left; kernel_rfl; kernel_rfl; kernel_rfl; kernel_rfl; (focus (refine Or.inl ⟨by rfl, ?_⟩; intro w' hSw; (try dsimp only at hSw); go_simp; with_reducible rfl)); exact hH)
      try simp only [Act.put, List.getElem_toArray, List.getElem_cons_succ, List.getElem_cons_zero, List.setIfInBounds_toArray, List.set_cons_zero, List.set_cons_succ]
      refine wpAnyZ_ready (rs := [29]) (by kernel_rfl) (by simp) ?_
      refine (AllReadyZ.cons rfl (fun K hK => ?_) AllReadyZ.nil)
      go_simp
      with_reducible refine (LEN2.out _ hH.2).mono ?_
      rintro e w1 ⟨rfl, hbq1⟩
      have hz1 : Below W.heap.size W w1 := hH.2.trans hbq1
      have hlz := HLZ.out
      have hlz2 := HLZ2.out
      have fz := (HX.out.2.2.2.2.2.2.2.2.1.next hz1).frozen 0
      have cz := (HX.out.2.2.2.2.2.2.2.2.1.next hz1).get 0 rfl
      clear hbq1
      have hH1 := KR.out _ hz1
      refine hK.out _ _ (fun _ => hH1) ?_
      clear hK K hH
      have hH := hH1
      clear hH1
      try simp only [Act.put, List.getElem_toArray, List.getElem_cons_succ, List.getElem_cons_zero, List.setIfInBounds_toArray, List.set_cons_zero, List.set_cons_succ]
      first | (refine wpAnyZ_take (i := 30) (v := undef) rfl ?_ ?_ ?_ ?_ (fun _ _ _ h => h) ?_ ?_ ?_; kernel_rfl; kernel_rfl; kernel_rfl; kernel_rfl; exact Or.inr ⟨by rfl, rfl⟩; exact hH) | (refine wpAnyZ_take (i := 30) (v := ?_) rfl ?_ ?_ ?_ ?_ (fun _ _ _ h => h) ?_ ?_ ?_; rotate_left; kernel_rfl; kernel_rfl; kernel_rfl; kernel_rfl; (focus (refine Or.inl ⟨by rfl, ?_⟩; intro w' hSw; (try dsimp only at hSw); go_simp)); exact hH) | (refine wpAnyZ_take (i := 30) (v := ?_) rfl ?_ ?_ ?_ ?_ (fun _ _ _ h => h) ?_ ?_ ?_; rotate_left; kernel_rfl; kernel_rfl; kernel_rfl; kernel_rfl; (focus (refine Or.inl ⟨by rfl, ?_⟩; intro w' hSw; (try dsimp only at hSw); go_simp; with_reducible rfl)); exact hH)
      try simp only [Act.put, List.getElem_toArray, List.getElem_cons_succ, List.getElem_cons_zero, List.setIfInBounds_toArray, List.set_cons_zero, List.set_cons_succ]
      first | (refine wpAnyZ_take (i := 31) (v := undef) rfl ?_ ?_ ?_ ?_ (fun _ _ _ h => h) ?_ ?_ ?_; kernel_rfl; kernel_rfl; kernel_rfl; kernel_rfl; exact Or.inr ⟨by rfl, rfl⟩; exact hH) | (refine wpAnyZ_take (i := 31) (v := ?_) rfl ?_ ?_ ?_ ?_ (fun _ _ _ h => h) ?_ ?_ ?_; rotate_left; kernel_rfl; kernel_rfl; kernel_rfl; kernel_rfl; (focus (refine Or.inl ⟨by rfl, ?_⟩; intro w' hSw; (try dsimp only at hSw); go_simp)); exact hH) | (refine wpAnyZ_take (i := 31) (v := ?_) rfl ?_ ?_ ?_ ?_ (fun _ _ _ h => h) ?_ ?_ ?_; rotate_left; kernel_rfl; kernel_rfl; kernel_rfl; kernel_rfl; (focus (refine Or.inl ⟨by rfl, ?_⟩; intro w' hSw; (try dsimp only at hSw); go_simp; with_reducible rfl)); exact hH)
      try simp only [Act.put, List.getElem_toArray, List.getElem_cons_succ, List.getElem_cons_zero, List.setIfInBounds_toArray, List.set_cons_zero, List.set_cons_succ]
      first | (refine wpAnyZ_take (i := 32) (v := undef) rfl ?_ ?_ ?_ ?_ (fun _ _ _ h => h) ?_ ?_ ?_; kernel_rfl; kernel_rfl; kernel_rfl; kernel_rfl; exact Or.inr ⟨by rfl, rfl⟩; exact hH) | (refine wpAnyZ_take (i := 32) (v := ?_) rfl ?_ ?_ ?_ ?_ (fun _ _ _ h => h) ?_ ?_ ?_; rotate_left; kernel_rfl; kernel_rfl; kernel_rfl; kernel_rfl; (focus (refine Or.inl ⟨by rfl, ?_⟩; intro w' hSw; (try dsimp only at hSw); go_simp)); exact hH) | (refine wpAnyZ_take (i := 32) (v := ?_) rfl ?_ ?_ ?_ ?_ (fun _ _ _ h => h) ?_ ?_ ?_; rotate_left; kernel_rfl; kernel_rfl; kernel_rfl; kernel_rfl; (focus (refine Or.inl ⟨by rfl, ?_⟩; intro w' hSw; (try dsimp only at hSw); go_simp; with_reducible rfl)); exact hH)
      try simp only [Act.put, List.getElem_toArray, List.getElem_cons_succ, List.getElem_cons_zero, List.setIfInBounds_toArray, List.set_cons_zero, List.set_cons_succ]
      first | (refine wpAnyZ_take (i := 33) (v := undef) rfl ?_ ?_ ?_ ?_ (fun _ _ _ h => h) ?_ ?_ ?_; kernel_rfl; kernel_rfl; kernel_rfl; kernel_rfl; exact Or.inr ⟨by rfl, rfl⟩; exact hH) | (refine wpAnyZ_take (i := 33) (v := ?_) rfl ?_ ?_ ?_ ?_ (fun _ _ _ h => h) ?_ ?_ ?_; rotate_left; kernel_rfl; kernel_rfl; kernel_rfl; kernel_rfl; (focus (refine Or.inl ⟨by rfl, ?_⟩; intro w' hSw; (try dsimp only at hSw); go_simp)); exact hH) | (refine wpAnyZ_take (i := 33) (v := ?_) rfl ?_ ?_ ?_ ?_ (fun _ _ _ h => h) ?_ ?_ ?_; rotate_left; kernel_rfl; kernel_rfl; kernel_rfl; kernel_rfl; (focus (refine Or.inl ⟨by rfl, ?_⟩; intro w' hSw; (try dsimp only at hSw); go_simp; with_reducible rfl)); exact hH)
      try simp only [Act.put, List.getElem_toArray, List.getElem_cons_succ, List.getElem_cons_zero, List.setIfInBounds_toArray, List.set_cons_zero, List.set_cons_succ]
      first | (refine wpAnyZ_take (i := 34) (v := undef) rfl ?_ ?_ ?_ ?_ (fun _ _ _ h => h) ?_ ?_ ?_; kernel_rfl; kernel_rfl; kernel_rfl; kernel_rfl; exact Or.inr ⟨by rfl, rfl⟩; exact hH) | (refine wpAnyZ_take (i := 34) (v := ?_) rfl ?_ ?_ ?_ ?_ (fun _ _ _ h => h) ?_ ?_ ?_; rotate_left; kernel_rfl; kernel_rfl; kernel_rfl; kernel_rfl; (focus (refine Or.inl ⟨by rfl, ?_⟩; intro w' hSw; (try dsimp only at hSw); go_simp)); exact hH) | (refine wpAnyZ_take (i := 34) (v := ?_) rfl ?_ ?_ ?_ ?_ (fun _ _ _ h => h) ?_ ?_ ?_; rotate_left; kernel_rfl; kernel_rfl; kernel_rfl; kernel_rfl; (focus (refine Or.inl ⟨by rfl, ?_⟩; intro w' hSw; (try dsimp only at hSw); go_simp; with_reducible rfl)); exact hH)
      try simp only [Act.put, List.getElem_toArray, List.getElem_cons_succ, List.getElem_cons_zero, List.setIfInBounds_toArray, List.set_cons_zero, List.set_cons_succ]
      first | (refine wpAnyZ_take (i := 35) (v := undef) rfl ?_ ?_ ?_ ?_ (fun _ _ _ h => h) ?_ ?_ ?_; kernel_rfl; kernel_rfl; kernel_rfl; kernel_rfl; exact Or.inr ⟨by rfl, rfl⟩; exact hH) | (refine wpAnyZ_take (i := 35) (v := ?_) rfl ?_ ?_ ?_ ?_ (fun _ _ _ h => h) ?_ ?_ ?_; rotate_left; kernel_rfl; kernel_rfl; kernel_rfl; kernel_rfl; (focus (refine Or.inl ⟨by rfl, ?_⟩; intro w' hSw; (try dsimp only at hSw); go_simp)); exact hH) | (refine wpAnyZ_take (i := 35) (v := ?_) rfl ?_ ?_ ?_ ?_ (fun _ _ _ h => h) ?_ ?_ ?_; rotate_left; kernel_rfl; kernel_rfl; kernel_rfl; kernel_rfl; (focus (refine Or.inl ⟨by rfl, ?_⟩; intro w' hSw; (try dsimp only at hSw); go_simp; with_reducible rfl)); exact hH)
      try simp only [Act.put, List.getElem_toArray, List.getElem_cons_succ, List.getElem_cons_zero, List.setIfInBounds_toArray, List.set_cons_zero, List.set_cons_succ]
      first | (refine wpAnyZ_take (i := 36) (v := undef) rfl ?_ ?_ ?_ ?_ (fun _ _ _ h => h) ?_ ?_ ?_; kernel_rfl; kernel_rfl; kernel_rfl; kernel_rfl; exact Or.inr ⟨by rfl, rfl⟩; exact hH) | (refine wpAnyZ_take (i := 36) (v := ?_) rfl ?_ ?_ ?_ ?_ (fun _ _ _ h => h) ?_ ?_ ?_; rotate_left; kernel_rfl; kernel_rfl; kernel_rfl; kernel_rfl; (focus (refine Or.inl ⟨by rfl, ?_⟩; intro w' hSw; (try dsimp only at hSw); go_simp)); exact hH) | (refine wpAnyZ_take (i := 36) (v := ?_) rfl ?_ ?_ ?_ ?_ (fun _ _ _ h => h) ?_ ?_ ?_; rotate_left; kernel_rfl; kernel_rfl; kernel_rfl; kernel_rfl; (focus (refine Or.inl ⟨by rfl, ?_⟩; intro w' hSw; (try dsimp only at hSw); go_simp; with_reducible rfl)); exact hH)
      try simp only [Act.put, List.getElem_toArray, List.getElem_cons_succ, List.getElem_cons_zero, List.setIfInBounds_toArray, List.set_cons_zero, List.set_cons_succ]
      first | (refine wpAnyZ_take (i := 37) (v := undef) rfl ?_ ?_ ?_ ?_ (fun _ _ _ h => h) ?_ ?_ ?_; kernel_rfl; kernel_rfl; kernel_rfl; kernel_rfl; exact Or.inr ⟨by rfl, rfl⟩; exact hH) | (refine wpAnyZ_take (i := 37) (v := ?_) rfl ?_ ?_ ?_ ?_ (fun _ _ _ h => h) ?_ ?_ ?_; rotate_left; kernel_rfl; kernel_rfl; kernel_rfl; kernel_rfl; (focus (refine Or.inl ⟨by rfl, ?_⟩; intro w' hSw; (try dsimp only at hSw); go_simp)); exact hH) | (refine wpAnyZ_take (i := 37) (v := ?_) rfl ?_ ?_ ?_ ?_ (fun _ _ _ h => h) ?_ ?_ ?_; rotate_left; kernel_rfl; kernel_rfl; kernel_rfl; kernel_rfl; (focus (refine Or.inl ⟨by rfl, ?_⟩; intro w' hSw; (try dsimp only at hSw); go_simp; with_reducible rfl)); exact hH)
      try simp only [Act.put, List.getElem_toArray, List.getElem_cons_succ, List.getElem_cons_zero, List.setIfInBounds_toArray, List.set_cons_zero, List.set_cons_succ]
      refine wpAnyZ_ready (rs := [38]) (by kernel_rfl) (by simp) ?_
      refine (AllReadyZ.cons rfl (fun K hK => ?_) AllReadyZ.nil)
      go_simp
      refine hK.out _ _ (fun h => absurd (by simp) h) ?_
      clear hK K
      try simp only [Act.put, List.getElem_toArray, List.getElem_cons_succ, List.getElem_cons_zero, List.setIfInBounds_toArray, List.set_cons_zero, List.set_cons_succ]
      refine wpAnyZ_done (by kernel_rfl) ?_ _
      refine NoPanic.normal ?_
      skip
      clear hH KR LEN2 fz cz hlz hlz2
      have HZ1 := Lib.hid hz1
      clear hz1
      go_wp2
      have zz := HW1.out
      have zz1 := HSZ.out
      have zz3 := HX.out.2.2.2.2.2.2.2.2.2.1
      refine marks_ret (B := w.heap.size) [W0.heap.size] rfl (by intro D hd; simp only [List.mem_singleton] at hd; subst hd; exact ⟨by omega, (Below.heap_setCell _ _ _ _ (show W0.heap.size ≠ w.heap.size + 2 by omega)).trans ((HZ1.out.block _ (Array.getElem?_eq_some_iff.1 HX.out.2.2.2.2.2.2.2.2.2.2).1).trans HX.out.2.2.2.2.2.2.2.2.2.2)⟩) (by simp) ?_
      intro w' hs
      have b4 := ((HX.out.2.2.2.2.2.2.2.2.1.next HZ1.out).put 0 (.bool true)).stays hs
      have n4 : w'.cell? ⟨w.heap.size + 2, 0, none⟩ = some (.bool true) := b4.get 0 rfl
      have b5 := below_stays ((((H0.out.2.2.2.1.trans (HB1.out.mono H0.out.2.2.2.1.size)).trans (HX.out.1.below.mono (by omega))).trans (HZ1.out.mono (by omega))).setCell (p := ⟨w.heap.size + 2, 0, none⟩) (Nat.le_add_right _ 2) (.bool true)) hs (Nat.le_refl _)
      exact ⟨_, by simp [results, Try.results6, go_sem, n4]; try rfl, rfl, b5⟩
    | true =>
      have KR : Hid (∀ w', Below (W.heap.size) W w' → (w'.cell? ⟨w5.heap.size + 6, 0, none⟩ = some (.bool true) ∧ w'.cell? ⟨w5.heap.size + 2, 0, none⟩ = some (.int .u64 u2) ∧ w'.cell? ⟨w5.heap.size + 3, 0, none⟩ = some (.bool u3) ∧ w'.cell? ⟨w5.heap.size + 4, 0, none⟩ = some (.int .u64 al) ∧ w'.cell? ⟨w5.heap.size + 5, 0, none⟩ = some (.bool true) ∧ w'.cell? ⟨w.heap.size + 1, 0, none⟩ = some (.int .u64 vl)) ∧ Below (W.heap.size) W w') := fun w' hb => ⟨⟨(HX.out.2.2.2.2.2.2.1.next hb).get 0 rfl, (HX.out.2.2.1.next hb).get 0 rfl, (HX.out.2.2.2.1.next hb).get 0 rfl, (HX.out.2.2.2.2.1.next hb).get 0 rfl, (HX.out.2.2.2.2.2.1.next hb).get 0 rfl, (HX.out.2.2.2.2.2.2.2.1.next hb).get 0 rfl⟩, hb⟩
      refine wp_region_noPanic ?_
      refine wp_region_Z [38] (fun w' => (w'.cell? ⟨w5.heap.size + 6, 0, none⟩ = some (.bool true) ∧ w'.cell? ⟨w5.heap.size + 2, 0, none⟩ = some (.int .u64 u2) ∧ w'.cell? ⟨w5.heap.size + 3, 0, none⟩ = some (.bool u3) ∧ w'.cell? ⟨w5.heap.size + 4, 0, none⟩ = some (.int .u64 al) ∧ w'.cell? ⟨w5.heap.size + 5, 0, none⟩ = some (.bool true) ∧ w'.cell? ⟨w.heap.size + 1, 0, none⟩ = some (.int .u64 vl)) ∧ Below (W.heap.size) W w') (by kernel_rfl) (KR.out _ (below_of_drew (Below.refl W.heap.size W))) (fun hH => ?_)
      have hbR := below_of_drew (Below.refl W.heap.size W)
      first | (refine wpAnyZ_take (i := 0) (v := undef) rfl ?_ ?_ ?_ ?_ (fun _ _ _ h => h) ?_ ?_ ?_; kernel_rfl; kernel_rfl; kernel_rfl; kernel_rfl; exact Or.inr ⟨by rfl, rfl⟩; exact hH) | (refine wpAnyZ_take (i := 0) (v := ?_) rfl ?_ ?_ ?_ ?_ (fun _ _ _ h => h) ?_ ?_ ?_; rotate_left; kernel_rfl; kernel_rfl; kernel_rfl; kernel_rfl; (focus (refine Or.inl ⟨by rfl, ?_⟩; intro w' hSw; (try dsimp only at hSw); go_simp)); exact hH) | (refine wpAnyZ_take (i := 0) (v := ?_) rfl ?_ ?_ ?_ ?_ (fun _ _ _ h => h) ?_ ?_ ?_; rotate_left; kernel_rfl; kernel_rfl; kernel_rfl; kernel_rfl; (focus (refine Or.inl ⟨by rfl, ?_⟩; intro w' hSw; (try dsimp only at hSw); go_simp; with_reducible rfl)); exact hH)
      try simp only [Act.put, List.getElem_toArray, List.getElem_cons_succ, List.getElem_cons_zero, List.setIfInBounds_toArray, List.set_cons_zero, List.set_cons_succ]
      first | (refine wpAnyZ_take (i := 1) (v := undef) rfl ?_ ?_ ?_ ?_ (fun _ _ _ h => h) ?_ ?_ ?_; kernel_rfl; kernel_rfl; kernel_rfl; kernel_rfl; exact Or.inr ⟨by rfl, rfl⟩; exact hH) | (refine wpAnyZ_take (i := 1) (v := ?_) rfl ?_ ?_ ?_ ?_ (fun _ _ _ h => h) ?_ ?_ ?_; rotate_left; kernel_rfl; kernel_rfl; kernel_rfl; kernel_rfl; (focus (refine Or.inl ⟨by rfl, ?_⟩; intro w' hSw; (try dsimp only at hSw); go_simp)); exact hH) | (refine wpAnyZ_take (i := 1) (v := ?_) rfl ?_ ?_ ?_ ?_ (fun _ _ _ h => h) ?_ ?_ ?_; rotate_left; kernel_rfl; kernel_rfl; kernel_rfl; kernel_rfl; (focus (refine Or.inl ⟨by rfl, ?_⟩; intro w' hSw; (try dsimp only at hSw); go_simp; with_reducible rfl)); exact hH)
      try simp only [Act.put, List.getElem_toArray, List.getElem_cons_succ, List.getElem_cons_zero, List.setIfInBounds_toArray, List.set_cons_zero, List.set_cons_succ]
      first | (refine wpAnyZ_take (i := 2) (v := undef) rfl ?_ ?_ ?_ ?_ (fun _ _ _ h => h) ?_ ?_ ?_; kernel_rfl; kernel_rfl; kernel_rfl; kernel_rfl; exact Or.inr ⟨by rfl, rfl⟩; exact hH) | (refine wpAnyZ_take (i := 2) (v := ?_) rfl ?_ ?_ ?_ ?_ (fun _ _ _ h => h) ?_ ?_ ?_; rotate_left; kernel_rfl; kernel_rfl; kernel_rfl; kernel_rfl; (focus (refine Or.inl ⟨by rfl, ?_⟩; intro w' hSw; (try dsimp only at hSw); go_simp)); exact hH) | (refine wpAnyZ_take (i := 2) (v := ?_) rfl ?_ ?_ ?_ ?_ (fun _ _ _ h => h) ?_ ?_ ?_; rotate_left; kernel_rfl; kernel_rfl; kernel_rfl; kernel_rfl; (focus (refine Or.inl ⟨by rfl, ?_⟩; intro w' hSw; (try dsimp only at hSw); go_simp; with_reducible rfl)); exact hH)
      try simp only [Act.put, List.getElem_toArray, List.getElem_cons_succ, List.getElem_cons_zero, List.setIfInBounds_toArray, List.set_cons_zero, List.set_cons_succ]
      first | (refine wpAnyZ_take (i := 3) (v := undef) rfl ?_ ?_ ?_ ?_ (fun _ _ _ h => h) ?_ ?_ ?_; kernel_rfl; kernel_rfl; kernel_rfl; kernel_rfl; exact Or.inr ⟨by rfl, rfl⟩; exact hH) | (refine wpAnyZ_take (i := 3) (v := ?_) rfl ?_ ?_ ?_ ?_ (fun _ _ _ h => h) ?_ ?_ ?_; rotate_left; kernel_rfl; kernel_rfl; kernel_rfl; kernel_rfl; (focus (refine Or.inl ⟨by rfl, ?_⟩; intro w' hSw; (try dsimp only at hSw); go_simp)); exact hH) | (refine wpAnyZ_take (i := 3) (v := ?_) rfl ?_ ?_ ?_ ?_ (fun _ _ _ h => h) ?_ ?_ ?_; rotate_left; kernel_rfl; kernel_rfl; kernel_rfl; kernel_rfl; (focus (refine Or.inl ⟨by rfl, ?_⟩; intro w' hSw; (try dsimp only at hSw); go_simp; with_reducible rfl)); exact hH)
      try simp only [Act.put, List.getElem_toArray, List.getElem_cons_succ, List.getElem_cons_zero, List.setIfInBounds_toArray, List.set_cons_zero, List.set_cons_succ]
      first | (refine wpAnyZ_take (i := 4) (v := undef) rfl ?_ ?_ ?_ ?_ (fun _ _ _ h => h) ?_ ?_ ?_; kernel_rfl; kernel_rfl; kernel_rfl; kernel_rfl; exact Or.inr ⟨by rfl, rfl⟩; exact hH) | (refine wpAnyZ_take (i := 4) (v := ?_) rfl ?_ ?_ ?_ ?_ (fun _ _ _ h => h) ?_ ?_ ?_; rotate_left; kernel_rfl; kernel_rfl; kernel_rfl; kernel_rfl; (focus (refine Or.inl ⟨by rfl, ?_⟩; intro w' hSw; (try dsimp only at hSw); go_simp)); exact hH) | (refine wpAnyZ_take (i := 4) (v := ?_) rfl ?_ ?_ ?_ ?_ (fun _ _ _ h => h) ?_ ?_ ?_; rotate_left; kernel_rfl; kernel_rfl; kernel_rfl; kernel_rfl; (focus (refine Or.inl ⟨by rfl, ?_⟩; intro w' hSw; (try dsimp only at hSw); go_simp; with_reducible rfl)); exact hH)
      try simp only [Act.put, List.getElem_toArray, List.getElem_cons_succ, List.getElem_cons_zero, List.setIfInBounds_toArray, List.set_cons_zero, List.set_cons_succ]
      first | (refine wpAnyZ_take (i := 5) (v := undef) rfl ?_ ?_ ?_ ?_ (fun _ _ _ h => h) ?_ ?_ ?_; kernel_rfl; kernel_rfl; kernel_rfl; kernel_rfl; exact Or.inr ⟨by rfl, rfl⟩; exact hH) | (refine wpAnyZ_take (i := 5) (v := ?_) rfl ?_ ?_ ?_ ?_ (fun _ _ _ h => h) ?_ ?_ ?_; rotate_left; kernel_rfl; kernel_rfl; kernel_rfl; kernel_rfl; (focus (refine Or.inl ⟨by rfl, ?_⟩; intro w' hSw; (try dsimp only at hSw); go_simp)); exact hH) | (refine wpAnyZ_take (i := 5) (v := ?_) rfl ?_ ?_ ?_ ?_ (fun _ _ _ h => h) ?_ ?_ ?_; rotate_left; kernel_rfl; kernel_rfl; kernel_rfl; kernel_rfl; (focus (refine Or.inl ⟨by rfl, ?_⟩; intro w' hSw; (try dsimp only at hSw); go_simp; with_reducible rfl)); exact hH)
      try simp only [Act.put, List.getElem_toArray, List.getElem_cons_succ, List.getElem_cons_zero, List.setIfInBounds_toArray, List.set_cons_zero, List.set_cons_succ]
      first | (refine wpAnyZ_take (i := 6) (v := undef) rfl ?_ ?_ ?_ ?_ (fun _ _ _ h => h) ?_ ?_ ?_; kernel_rfl; kernel_rfl; kernel_rfl; kernel_rfl; exact Or.inr ⟨by rfl, rfl⟩; exact hH) | (refine wpAnyZ_take (i := 6) (v := ?_) rfl ?_ ?_ ?_ ?_ (fun _ _ _ h => h) ?_ ?_ ?_; rotate_left; kernel_rfl; kernel_rfl; kernel_rfl; kernel_rfl; (focus (refine Or.inl ⟨by rfl, ?_⟩; intro w' hSw; (try dsimp only at hSw); go_simp)); exact hH) | (refine wpAnyZ_take (i := 6) (v := ?_) rfl ?_ ?_ ?_ ?_ (fun _ _ _ h => h) ?_ ?_ ?_; rotate_left; kernel_rfl; kernel_rfl; kernel_rfl; kernel_rfl; (focus (refine Or.inl ⟨by rfl, ?_⟩; intro w' hSw; (try dsimp only at hSw); go_simp; with_reducible rfl)); exact hH)
      try simp only [Act.put, List.getElem_toArray, List.getElem_cons_succ, List.getElem_cons_zero, List.setIfInBounds_toArray, List.set_cons_zero, List.set_cons_succ]
      first | (refine wpAnyZ_take (i := 7) (v := undef) rfl ?_ ?_ ?_ ?_ (fun _ _ _ h => h) ?_ ?_ ?_; kernel_rfl; kernel_rfl; kernel_rfl; kernel_rfl; exact Or.inr ⟨by rfl, rfl⟩; exact hH) | (refine wpAnyZ_take (i := 7) (v := ?_) rfl ?_ ?_ ?_ ?_ (fun _ _ _ h => h) ?_ ?_ ?_; rotate_left; kernel_rfl; kernel_rfl; kernel_rfl; kernel_rfl; (focus (refine Or.inl ⟨by rfl, ?_⟩; intro w' hSw; (try dsimp only at hSw); go_simp)); exact hH) | (refine wpAnyZ_take (i := 7) (v := ?_) rfl ?_ ?_ ?_ ?_ (fun _ _ _ h => h) ?_ ?_ ?_; rotate_left; kernel_rfl; kernel_rfl; kernel_rfl; kernel_rfl; (focus (refine Or.inl ⟨by rfl, ?_⟩; intro w' hSw; (try dsimp only at hSw); go_simp; with_reducible rfl)); exact hH)
      try simp only [Act.put, List.getElem_toArray, List.getElem_cons_succ, List.getElem_cons_zero, List.setIfInBounds_toArray, List.set_cons_zero, List.set_cons_succ]
      first | (refine wpAnyZ_take (i := 8) (v := undef) rfl ?_ ?_ ?_ ?_ (fun _ _ _ h => h) ?_ ?_ ?_; kernel_rfl; kernel_rfl; kernel_rfl; kernel_rfl; exact Or.inr ⟨by rfl, rfl⟩; exact hH) | (refine wpAnyZ_take (i := 8) (v := ?_) rfl ?_ ?_ ?_ ?_ (fun _ _ _ h => h) ?_ ?_ ?_; rotate_left; kernel_rfl; kernel_rfl; kernel_rfl; kernel_rfl; (focus (refine Or.inl ⟨by rfl, ?_⟩; intro w' hSw; (try dsimp only at hSw); go_simp)); exact hH) | (refine wpAnyZ_take (i := 8) (v := ?_) rfl ?_ ?_ ?_ ?_ (fun _ _ _ h => h) ?_ ?_ ?_; rotate_left; kernel_rfl; kernel_rfl; kernel_rfl; kernel_rfl; (focus (refine Or.inl ⟨by rfl, ?_⟩; intro w' hSw; (try dsimp only at hSw); go_simp; with_reducible rfl)); exact hH)
      try simp only [Act.put, List.getElem_toArray, List.getElem_cons_succ, List.getElem_cons_zero, List.setIfInBounds_toArray, List.set_cons_zero, List.set_cons_succ]
      first | (refine wpAnyZ_take (i := 9) (v := undef) rfl ?_ ?_ ?_ ?_ (fun _ _ _ h => h) ?_ ?_ ?_; kernel_rfl; kernel_rfl; kernel_rfl; kernel_rfl; exact Or.inr ⟨by rfl, rfl⟩; exact hH) | (refine wpAnyZ_take (i := 9) (v := ?_) rfl ?_ ?_ ?_ ?_ (fun _ _ _ h => h) ?_ ?_ ?_; rotate_left; kernel_rfl; kernel_rfl; kernel_rfl; kernel_rfl; (focus (refine Or.inl ⟨by rfl, ?_⟩; intro w' hSw; (try dsimp only at hSw); go_simp)); exact hH) | (refine wpAnyZ_take (i := 9) (v := ?_) rfl ?_ ?_ ?_ ?_ (fun _ _ _ h => h) ?_ ?_ ?_; rotate_left; kernel_rfl; kernel_rfl; kernel_rfl; kernel_rfl; (focus (refine Or.inl ⟨by rfl, ?_⟩; intro w' hSw; (try dsimp only at hSw); go_simp; with_reducible rfl)); exact hH)
      try simp only [Act.put, List.getElem_toArray, List.getElem_cons_succ, List.getElem_cons_zero, List.setIfInBounds_toArray, List.set_cons_zero, List.set_cons_succ]
      first | (refine wpAnyZ_take (i := 10) (v := undef) rfl ?_ ?_ ?_ ?_ (fun _ _ _ h => h) ?_ ?_ ?_; kernel_rfl; kernel_rfl; kernel_rfl; kernel_rfl; exact Or.inr ⟨by rfl, rfl⟩; exact hH) | (refine wpAnyZ_take (i := 10) (v := ?_) rfl ?_ ?_ ?_ ?_ (fun _ _ _ h => h) ?_ ?_ ?_; rotate_left; kernel_rfl; kernel_rfl; kernel_rfl; kernel_rfl; (focus (refine Or.inl ⟨by rfl, ?_⟩; intro w' hSw; (try dsimp only at hSw); go_simp)); exact hH) | (refine wpAnyZ_take (i := 10) (v := ?_) rfl ?_ ?_ ?_ ?_ (fun _ _ _ h => h) ?_ ?_ ?_; rotate_left; kernel_rfl; kernel_rfl; kernel_rfl; kernel_rfl; (focus (refine Or.inl ⟨by rfl, ?_⟩; intro w' hSw; (try dsimp only at hSw); go_simp; with_reducible rfl)); exact hH)
      try simp only [Act.put, List.getElem_toArray, List.getElem_cons_succ, List.getElem_cons_zero, List.setIfInBounds_toArray, List.set_cons_zero, List.set_cons_succ]
      first | (refine wpAnyZ_take (i := 11) (v := undef) rfl ?_ ?_ ?_ ?_ (fun _ _ _ h => h) ?_ ?_ ?_; kernel_rfl; kernel_rfl; kernel_rfl; kernel_rfl; exact Or.inr ⟨by rfl, rfl⟩; exact hH) | (refine wpAnyZ_take (i := 11) (v := ?_) rfl ?_ ?_ ?_ ?_ (fun _ _ _ h => h) ?_ ?_ ?_; rotate_left; kernel_rfl; kernel_rfl; kernel_rfl; kernel_rfl; (focus (refine Or.inl ⟨by rfl, ?_⟩; intro w' hSw; (try dsimp only at hSw); go_simp)); exact hH) | (refine wpAnyZ_take (i := 11) (v := ?_) rfl ?_ ?_ ?_ ?_ (fun _ _ _ h => h) ?_ ?_ ?_; rotate_left; kernel_rfl; kernel_rfl; kernel_rfl; kernel_rfl; (focus (refine Or.inl ⟨by rfl, ?_⟩; intro w' hSw; (try dsimp only at hSw); go_simp; with_reducible rfl)); exact hH)
      try simp only [Act.put, List.getElem_toArray, List.getElem_cons_succ, List.getElem_cons_zero, List.setIfInBounds_toArray, List.set_cons_zero, List.set_cons_succ]
      first | (refine wpAnyZ_take (i := 12) (v := undef) rfl ?_ ?_ ?_ ?_ (fun _ _ _ h => h) ?_ ?_ ?_; kernel_rfl; kernel_rfl; kernel_rfl; kernel_rfl; exact Or.inr ⟨by rfl, rfl⟩; exact hH) | (refine wpAnyZ_take (i := 12) (v := ?_) rfl ?_ ?_ ?_ ?_ (fun _ _ _ h => h) ?_ ?_ ?_; rotate_left; kernel_rfl; kernel_rfl; kernel_rfl; kernel_rfl; (focus (refine Or.inl ⟨by rfl, ?_⟩; intro w' hSw; (try dsimp only at hSw); go_simp)); exact hH) | (refine wpAnyZ_take (i := 12) (v := ?_) rfl ?_ ?_ ?_ ?_ (fun _ _ _ h => h) ?_ ?_ ?_; rotate_left; kernel_rfl; kernel_rfl; kernel_rfl; kernel_rfl; (focus (refine Or.inl ⟨by rfl, ?_⟩; intro w' hSw; (try dsimp only at hSw); go_simp; with_reducible rfl)); exact hH)
      try simp only [Act.put, List.getElem_toArray, List.getElem_cons_succ, List.getElem_cons_zero, List.setIfInBounds_toArray, List.set_cons_zero, List.set_cons_succ]
      first | (refine wpAnyZ_take (i := 13) (v := undef) rfl ?_ ?_ ?_ ?_ (fun _ _ _ h => h) ?_ ?_ ?_; kernel_rfl; kernel_rfl; kernel_rfl; kernel_rfl; exact Or.inr ⟨by rfl, rfl⟩; exact hH) | (refine wpAnyZ_take (i := 13) (v := ?_) rfl ?_ ?_ ?_ ?_ (fun _ _ _ h => h) ?_ ?_ ?_; rotate_left; kernel_rfl; kernel_rfl; kernel_rfl; kernel_rfl; (focus (refine Or.inl ⟨by rfl, ?_⟩; intro w' hSw; (try dsimp only at hSw); go_simp)); exact hH) | (refine wpAnyZ_take (i := 13) (v := ?_) rfl ?_ ?_ ?_ ?_ (fun _ _ _ h => h) ?_ ?_ ?_; rotate_left; kernel_rfl; kernel_rfl; kernel_rfl; kernel_rfl; (focus (refine Or.inl ⟨by rfl, ?_⟩; intro w' hSw; (try dsimp only at hSw); go_simp; with_reducible rfl)); exact hH)
      try simp only [Act.put, List.getElem_toArray, List.getElem_cons_succ, List.getElem_cons_zero, List.setIfInBounds_toArray, List.set_cons_zero, List.set_cons_succ]
      first | (refine wpAnyZ_take (i := 14) (v := undef) rfl ?_ ?_ ?_ ?_ (fun _ _ _ h => h) ?_ ?_ ?_; kernel_rfl; kernel_rfl; kernel_rfl; kernel_rfl; exact Or.inr ⟨by rfl, rfl⟩; exact hH) | (refine wpAnyZ_take (i := 14) (v := ?_) rfl ?_ ?_ ?_ ?_ (fun _ _ _ h => h) ?_ ?_ ?_; rotate_left; kernel_rfl; kernel_rfl; kernel_rfl; kernel_rfl; (focus (refine Or.inl ⟨by rfl, ?_⟩; intro w' hSw; (try dsimp only at hSw); go_simp)); exact hH) | (refine wpAnyZ_take (i := 14) (v := ?_) rfl ?_ ?_ ?_ ?_ (fun _ _ _ h => h) ?_ ?_ ?_; rotate_left; kernel_rfl; kernel_rfl; kernel_rfl; kernel_rfl; (focus (refine Or.inl ⟨by rfl, ?_⟩; intro w' hSw; (try dsimp only at hSw); go_simp; with_reducible rfl)); exact hH)
      try simp only [Act.put, List.getElem_toArray, List.getElem_cons_succ, List.getElem_cons_zero, List.setIfInBounds_toArray, List.set_cons_zero, List.set_cons_succ]
      first | (refine wpAnyZ_take (i := 15) (v := undef) rfl ?_ ?_ ?_ ?_ (fun _ _ _ h => h) ?_ ?_ ?_; kernel_rfl; kernel_rfl; kernel_rfl; kernel_rfl; exact Or.inr ⟨by rfl, rfl⟩; exact hH) | (refine wpAnyZ_take (i := 15) (v := ?_) rfl ?_ ?_ ?_ ?_ (fun _ _ _ h => h) ?_ ?_ ?_; rotate_left; kernel_rfl; kernel_rfl; kernel_rfl; kernel_rfl; (focus (refine Or.inl ⟨by rfl, ?_⟩; intro w' hSw; (try dsimp only at hSw); go_simp)); exact hH) | (refine wpAnyZ_take (i := 15) (v := ?_) rfl ?_ ?_ ?_ ?_ (fun _ _ _ h => h) ?_ ?_ ?_; rotate_left; kernel_rfl; kernel_rfl; kernel_rfl; kernel_rfl; (focus (refine Or.inl ⟨by rfl, ?_⟩; intro w' hSw; (try dsimp only at hSw); go_simp; with_reducible rfl)); exact hH)
      try simp only [Act.put, List.getElem_toArray, List.getElem_cons_succ, List.getElem_cons_zero, List.setIfInBounds_toArray, List.set_cons_zero, List.set_cons_succ]
      first | (refine wpAnyZ_take (i := 16) (v := undef) rfl ?_ ?_ ?_ ?_ (fun _ _ _ h => h) ?_ ?_ ?_; kernel_rfl; kernel_rfl; kernel_rfl; kernel_rfl; exact Or.inr ⟨by rfl, rfl⟩; exact hH) | (refine wpAnyZ_take (i := 16) (v := ?_) rfl ?_ ?_ ?_ ?_ (fun _ _ _ h => h) ?_ ?_ ?_; rotate_left; kernel_rfl; kernel_rfl; kernel_rfl; kernel_rfl; (focus (refine Or.inl ⟨by rfl, ?_⟩; intro w' hSw; (try dsimp only at hSw); go_simp)); exact hH) | (refine wpAnyZ_take (i := 16) (v := ?_) rfl ?_ ?_ ?_ ?_ (fun _ _ _ h => h) ?_ ?_ ?_; rotate_left; kernel_rfl; kernel_rfl; kernel_rfl; kernel_rfl; (focus (refine Or.inl ⟨by rfl, ?_⟩; intro w' hSw; (try dsimp only at hSw); go_simp; with_reducible rfl)); exact hH)
      try simp only [Act.put, List.getElem_toArray, List.getElem_cons_succ, List.getElem_cons_zero, List.setIfInBounds_toArray, List.set_cons_zero, List.set_cons_succ]
      first | (refine wpAnyZ_take (i := 17) (v := undef) rfl ?_ ?_ ?_ ?_ (fun _ _ _ h => h) ?_ ?_ ?_; kernel_rfl; kernel_rfl; kernel_rfl; kernel_rfl; exact Or.inr ⟨by rfl, rfl⟩; exact hH) | (refine wpAnyZ_take (i := 17) (v := ?_) rfl ?_ ?_ ?_ ?_ (fun _ _ _ h => h) ?_ ?_ ?_; rotate_left; kernel_rfl; kernel_rfl; kernel_rfl; kernel_rfl; (focus (refine Or.inl ⟨by rfl, ?_⟩; intro w' hSw; (try dsimp only at hSw); go_simp)); exact hH) | (refine wpAnyZ_take (i := 17) (v := ?_) rfl ?_ ?_ ?_ ?_ (fun _ _ _ h => h) ?_ ?_ ?_; rotate_left; kernel_rfl; kernel_rfl; kernel_rfl; kernel_rfl; (focus (refine Or.inl ⟨by rfl, ?_⟩; intro w' hSw; (try dsimp only at hSw); go_simp; with_reducible rfl)); exact hH)
      try simp only [Act.put, List.getElem_toArray, List.getElem_cons_succ, List.getElem_cons_zero, List.setIfInBounds_toArray, List.set_cons_zero, List.set_cons_succ]
      first | (refine wpAnyZ_take (i := 18) (v := undef) rfl ?_ ?_ ?_ ?_ (fun _ _ _ h => h) ?_ ?_ ?_; kernel_rfl; kernel_rfl; kernel_rfl; kernel_rfl; exact Or.inr ⟨by rfl, rfl⟩; exact hH) | (refine wpAnyZ_take (i := 18) (v := ?_) rfl ?_ ?_ ?_ ?_ (fun _ _ _ h => h) ?_ ?_ ?_; rotate_left; kernel_rfl; kernel_rfl; kernel_rfl; kernel_rfl; (focus (refine Or.inl ⟨by rfl, ?_⟩; intro w' hSw; (try dsimp only at hSw); go_simp)); exact hH) | (refine wpAnyZ_take (i := 18) (v := ?_) rfl ?_ ?_ ?_ ?_ (fun _ _ _ h => h) ?_ ?_ ?_; rotate_left; kernel_rfl; kernel_rfl; kernel_rfl; kernel_rfl; (focus (refine Or.inl ⟨by rfl, ?_⟩; intro w' hSw; (try dsimp only at hSw); go_simp; with_reducible rfl)); exact hH)
      try simp only [Act.put, List.getElem_toArray, List.getElem_cons_succ, List.getElem_cons_zero, List.setIfInBounds_toArray, List.set_cons_zero, List.set_cons_succ]
      first | (refine wpAnyZ_take (i := 19) (v := undef) rfl ?_ ?_ ?_ ?_ (fun _ _ _ h => h) ?_ ?_ ?_; kernel_rfl; kernel_rfl; kernel_rfl; kernel_rfl; exact Or.inr ⟨by rfl, rfl⟩; exact hH) | (refine wpAnyZ_take (i := 19) (v := ?_) rfl ?_ ?_ ?_ ?_ (fun _ _ _ h => h) ?_ ?_ ?_; rotate_left; kernel_rfl; kernel_rfl; kernel_rfl; kernel_rfl; (focus (refine Or.inl ⟨by rfl, ?_⟩; intro w' hSw; (try dsimp only at hSw); go_simp)); exact hH) | (refine wpAnyZ_take (i := 19) (v := ?_) rfl ?_ ?_ ?_ ?_ (fun _ _ _ h => h) ?_ ?_ ?_; rotate_left; kernel_rfl; kernel_rfl; kernel_rfl; kernel_rfl; (focus (refine Or.inl ⟨by rfl, ?_⟩; intro w' hSw; (try dsimp only at hSw); go_simp; with_reducible rfl)); exact hH)
      try simp only [Act.put, List.getElem_toArray, List.getElem_cons_succ, List.getElem_cons_zero, List.setIfInBounds_toArray, List.set_cons_zero, List.set_cons_succ]
      first | (refine wpAnyZ_take (i := 20) (v := undef) rfl ?_ ?_ ?_ ?_ (fun _ _ _ h => h) ?_ ?_ ?_; kernel_rfl; kernel_rfl; kernel_rfl; kernel_rfl; exact Or.inr ⟨by rfl, rfl⟩; exact hH) | (refine wpAnyZ_take (i := 20) (v := ?_) rfl ?_ ?_ ?_ ?_ (fun _ _ _ h => h) ?_ ?_ ?_; rotate_left; kernel_rfl; kernel_rfl; kernel_rfl; kernel_rfl; (focus (refine Or.inl ⟨by rfl, ?_⟩; intro w' hSw; (try dsimp only at hSw); go_simp)); exact hH) | (refine wpAnyZ_take (i := 20) (v := ?_) rfl ?_ ?_ ?_ ?_ (fun _ _ _ h => h) ?_ ?_ ?_; rotate_left; kernel_rfl; kernel_rfl; kernel_rfl; kernel_rfl; (focus (refine Or.inl ⟨by rfl, ?_⟩; intro w' hSw; (try dsimp only at hSw); go_simp; with_reducible rfl)); exact hH)
      try simp only [Act.put, List.getElem_toArray, List.getElem_cons_succ, List.getElem_cons_zero, List.setIfInBounds_toArray, List.set_cons_zero, List.set_cons_succ]
      first | (refine wpAnyZ_take (i := 21) (v := undef) rfl ?_ ?_ ?_ ?_ (fun _ _ _ h => h) ?_ ?_ ?_; kernel_rfl; kernel_rfl; kernel_rfl; kernel_rfl; exact Or.inr ⟨by rfl, rfl⟩; exact hH) | (refine wpAnyZ_take (i := 21) (v := ?_) rfl ?_ ?_ ?_ ?_ (fun _ _ _ h => h) ?_ ?_ ?_; rotate_left; kernel_rfl; kernel_rfl; kernel_rfl; kernel_rfl; (focus (refine Or.inl ⟨by rfl, ?_⟩; intro w' hSw; (try dsimp only at hSw); go_simp)); exact hH) | (refine wpAnyZ_take (i := 21) (v := ?_) rfl ?_ ?_ ?_ ?_ (fun _ _ _ h => h) ?_ ?_ ?_; rotate_left; kernel_rfl; kernel_rfl; kernel_rfl; kernel_rfl; (focus (refine Or.inl ⟨by rfl, ?_⟩; intro w' hSw; (try dsimp only at hSw); go_simp; with_reducible rfl)); exact hH)
      try simp only [Act.put, List.getElem_toArray, List.getElem_cons_succ, List.getElem_cons_zero, List.setIfInBounds_toArray, List.set_cons_zero, List.set_cons_succ]
      first | (refine wpAnyZ_take (i := 22) (v := undef) rfl ?_ ?_ ?_ ?_ (fun _ _ _ h => h) ?_ ?_ ?_; kernel_rfl; kernel_rfl; kernel_rfl; kernel_rfl; exact Or.inr ⟨by rfl, rfl⟩; exact hH) | (refine wpAnyZ_take (i := 22) (v := ?_) rfl ?_ ?_ ?_ ?_ (fun _ _ _ h => h) ?_ ?_ ?_; rotate_left; kernel_rfl; kernel_rfl; kernel_rfl; kernel_rfl; (focus (refine Or.inl ⟨by rfl, ?_⟩; intro w' hSw; (try dsimp only at hSw); go_simp)); exact hH) | (refine wpAnyZ_take (i := 22) (v := ?_) rfl ?_ ?_ ?_ ?_ (fun _ _ _ h => h) ?_ ?_ ?_; rotate_left; kernel_rfl; kernel_rfl; kernel_rfl; kernel_rfl; (focus (refine Or.inl ⟨by rfl, ?_⟩; intro w' hSw; (try dsimp only at hSw); go_simp; with_reducible rfl)); exact hH)
      try simp only [Act.put, List.getElem_toArray, List.getElem_cons_succ, List.getElem_cons_zero, List.setIfInBounds_toArray, List.set_cons_zero, List.set_cons_succ]
      first | (refine wpAnyZ_take (i := 23) (v := undef) rfl ?_ ?_ ?_ ?_ (fun _ _ _ h => h) ?_ ?_ ?_; kernel_rfl; kernel_rfl; kernel_rfl; kernel_rfl; exact Or.inr ⟨by rfl, rfl⟩; exact hH) | (refine wpAnyZ_take (i := 23) (v := ?_) rfl ?_ ?_ ?_ ?_ (fun _ _ _ h => h) ?_ ?_ ?_; rotate_left; kernel_rfl; kernel_rfl; kernel_rfl; kernel_rfl; (focus (refine Or.inl ⟨by rfl, ?_⟩; intro w' hSw; (try dsimp only at hSw); go_simp)); exact hH) | (refine wpAnyZ_take (i := 23) (v := ?_) rfl ?_ ?_ ?_ ?_ (fun _ _ _ h => h) ?_ ?_ ?_; rotate_left; kernel_rfl; kernel_rfl; kernel_rfl; kernel_rfl; (focus (refine Or.inl ⟨by rfl, ?_⟩; intro w' hSw; (try dsimp only at hSw); go_simp; with_reducible rfl)); exact hH)
      try simp only [Act.put, List.getElem_toArray, List.getElem_cons_succ, List.getElem_cons_zero, List.setIfInBounds_toArray, List.set_cons_zero, List.set_cons_succ]
      first | (refine wpAnyZ_take (i := 24) (v := undef) rfl ?_ ?_ ?_ ?_ (fun _ _ _ h => h) ?_ ?_ ?_; kernel_rfl; kernel_rfl; kernel_rfl; kernel_rfl; exact Or.inr ⟨by rfl, rfl⟩; exact hH) | (refine wpAnyZ_take (i := 24) (v := ?_) rfl ?_ ?_ ?_ ?_ (fun _ _ _ h => h) ?_ ?_ ?_; rotate_left; kernel_rfl; kernel_rfl; kernel_rfl; kernel_rfl; (focus (refine Or.inl ⟨by rfl, ?_⟩; intro w' hSw; (try dsimp only at hSw); go_simp)); exact hH) | (refine wpAnyZ_take (i := 24) (v := ?_) rfl ?_ ?_ ?_ ?_ (fun _ _ _ h => h) ?_ ?_ ?_; rotate_left; kernel_rfl; kernel_rfl; kernel_rfl; kernel_rfl; (focus (refine Or.inl ⟨by rfl, ?_⟩; intro w' hSw; (try dsimp only at hSw); go_simp; with_reducible rfl)); exact hH)
      try simp only [Act.put, List.getElem_toArray, List.getElem_cons_succ, List.getElem_cons_zero, List.setIfInBounds_toArray, List.set_cons_zero, List.set_cons_succ]
      first | (refine wpAnyZ_take (i := 25) (v := undef) rfl ?_ ?_ ?_ ?_ (fun _ _ _ h => h) ?_ ?_ ?_; kernel_rfl; kernel_rfl; kernel_rfl; kernel_rfl; exact Or.inr ⟨by rfl, rfl⟩; exact hH) | (refine wpAnyZ_take (i := 25) (v := ?_) rfl ?_ ?_ ?_ ?_ (fun _ _ _ h => h) ?_ ?_ ?_; rotate_left; kernel_rfl; kernel_rfl; kernel_rfl; kernel_rfl; (focus (refine Or.inl ⟨by rfl, ?_⟩; intro w' hSw; (try dsimp only at hSw); go_simp)); exact hH) | (refine wpAnyZ_take (i := 25) (v := ?_) rfl ?_ ?_ ?_ ?_ (fun _ _ _ h => h) ?_ ?_ ?_; rotate_left; kernel_rfl; kernel_rfl; kernel_rfl; kernel_rfl; (focus (refine Or.inl ⟨by rfl, ?_⟩; intro w' hSw; (try dsimp only at hSw); go_simp; with_reducible rfl)); exact hH)
      try simp only [Act.put, List.getElem_toArray, List.getElem_cons_succ, List.getElem_cons_zero, List.setIfInBounds_toArray, List.set_cons_zero, List.set_cons_succ]
      first | (refine wpAnyZ_take (i := 26) (v := undef) rfl ?_ ?_ ?_ ?_ (fun _ _ _ h => h) ?_ ?_ ?_; kernel_rfl; kernel_rfl; kernel_rfl; kernel_rfl; exact Or.inr ⟨by rfl, rfl⟩; exact hH) | (refine wpAnyZ_take (i := 26) (v := ?_) rfl ?_ ?_ ?_ ?_ (fun _ _ _ h => h) ?_ ?_ ?_; rotate_left; kernel_rfl; kernel_rfl; kernel_rfl; kernel_rfl; (focus (refine Or.inl ⟨by rfl, ?_⟩; intro w' hSw; (try dsimp only at hSw); go_simp)); exact hH) | (refine wpAnyZ_take (i := 26) (v := ?_) rfl ?_ ?_ ?_ ?_ (fun _ _ _ h => h) ?_ ?_ ?_; rotate_left; kernel_rfl; kernel_rfl; kernel_rfl; kernel_rfl; (focus (refine Or.inl ⟨by rfl, ?_⟩; intro w' hSw; (try dsimp only at hSw); go_simp; with_reducible rfl)); exact hH)
      try simp only [Act.put, List.getElem_toArray, List.getElem_cons_succ, List.getElem_cons_zero, List.setIfInBounds_toArray, List.set_cons_zero, List.set_cons_succ]
      first | (refine wpAnyZ_take (i := 27) (v := undef) rfl ?_ ?_ ?_ ?_ (fun _ _ _ h => h) ?_ ?_ ?_; kernel_rfl; kernel_rfl; kernel_rfl; kernel_rfl; exact Or.inr ⟨by rfl, rfl⟩; exact hH) | (refine wpAnyZ_take (i := 27) (v := ?_) rfl ?_ ?_ ?_ ?_ (fun _ _ _ h => h) ?_ ?_ ?_; rotate_left; kernel_rfl; kernel_rfl; kernel_rfl; kernel_rfl; (focus (refine Or.inl ⟨by rfl, ?_⟩; intro w' hSw; (try dsimp only at hSw); go_simp)); exact hH) | (refine wpAnyZ_take (i := 27) (v := ?_) rfl ?_ ?_ ?_ ?_ (fun _ _ _ h => h) ?_ ?_ ?_; rotate_left; kernel_rfl; kernel_rfl; kernel_rfl; kernel_rfl; (focus (refine Or.inl ⟨by rfl, ?_⟩; intro w' hSw; (try dsimp only at hSw); go_simp; with_reducible rfl)); exact hH)
      try simp only [Act.put, List.getElem_toArray, List.getElem_cons_succ, List.getElem_cons_zero, List.setIfInBounds_toArray, List.set_cons_zero, List.set_cons_succ]
      first | (refine wpAnyZ_take (i := 28) (v := undef) rfl ?_ ?_ ?_ ?_ (fun _ _ _ h => h) ?_ ?_ ?_; kernel_rfl; kernel_rfl; kernel_rfl; kernel_rfl; exact Or.inr ⟨by rfl, rfl⟩; exact hH) | (refine wpAnyZ_take (i := 28) (v := ?_) rfl ?_ ?_ ?_ ?_ (fun _ _ _ h => h) ?_ ?_ ?_; rotate_left; kernel_rfl; kernel_rfl; kernel_rfl; kernel_rfl; (focus (refine Or.inl ⟨by rfl, ?_⟩; intro w' hSw; (try dsimp only at hSw); go_simp)); exact hH) | (refine wpAnyZ_take (i := 28) (v := ?_) rfl ?_ ?_ ?_ ?_ (fun _ _ _ h => h) ?_ ?_ ?_; rotate_left; kernel_rfl; kernel_rfl; kernel_rfl; kernel_rfl; (focus (refine Or.inl ⟨by rfl, ?_⟩; intro w' hSw; (try dsimp only at hSw); go_simp; with_reducible rfl)); exact hH)
      try simp only [Act.put, List.getElem_toArray, List.getElem_cons_succ, List.getElem_cons_zero, List.setIfInBounds_toArray, List.set_cons_zero, List.set_cons_succ]
      refine wpAnyZ_ready (rs := [29]) (by kernel_rfl) (by simp) ?_
      refine (AllReadyZ.cons rfl (fun K hK => ?_) AllReadyZ.nil)
      go_simp
      with_reducible refine (LEN2.out _ hH.2).mono ?_
      rintro e w1 ⟨rfl, hbq1⟩
      have hz1 : Below W.heap.size W w1 := hH.2.trans hbq1
      have hlz := HLZ.out
      have hlz2 := HLZ2.out
      have fz := (HX.out.2.2.2.2.2.2.2.2.1.next hz1).frozen 0
      have cz := (HX.out.2.2.2.2.2.2.2.2.1.next hz1).get 0 rfl
      clear hbq1
      have hH1 := KR.out _ hz1
      refine hK.out _ _ (fun _ => hH1) ?_
      clear hK K hH
      have hH := hH1
      clear hH1
      try simp only [Act.put, List.getElem_toArray, List.getElem_cons_succ, List.getElem_cons_zero, List.setIfInBounds_toArray, List.set_cons_zero, List.set_cons_succ]
      first | (refine wpAnyZ_take (i := 30) (v := undef) rfl ?_ ?_ ?_ ?_ (fun _ _ _ h => h) ?_ ?_ ?_; kernel_rfl; kernel_rfl; kernel_rfl; kernel_rfl; exact Or.inr ⟨by rfl, rfl⟩; exact hH) | (refine wpAnyZ_take (i := 30) (v := ?_) rfl ?_ ?_ ?_ ?_ (fun _ _ _ h => h) ?_ ?_ ?_; rotate_left; kernel_rfl; kernel_rfl; kernel_rfl; kernel_rfl; (focus (refine Or.inl ⟨by rfl, ?_⟩; intro w' hSw; (try dsimp only at hSw); go_simp)); exact hH) | (refine wpAnyZ_take (i := 30) (v := ?_) rfl ?_ ?_ ?_ ?_ (fun _ _ _ h => h) ?_ ?_ ?_; rotate_left; kernel_rfl; kernel_rfl; kernel_rfl; kernel_rfl; (focus (refine Or.inl ⟨by rfl, ?_⟩; intro w' hSw; (try dsimp only at hSw); go_simp; with_reducible rfl)); exact hH)
      try simp only [Act.put, List.getElem_toArray, List.getElem_cons_succ, List.getElem_cons_zero, List.setIfInBounds_toArray, List.set_cons_zero, List.set_cons_succ]
      first | (refine wpAnyZ_take (i := 31) (v := undef) rfl ?_ ?_ ?_ ?_ (fun _ _ _ h => h) ?_ ?_ ?_; kernel_rfl; kernel_rfl; kernel_rfl; kernel_rfl; exact Or.inr ⟨by rfl, rfl⟩; exact hH) | (refine wpAnyZ_take (i := 31) (v := ?_) rfl ?_ ?_ ?_ ?_ (fun _ _ _ h => h) ?_ ?_ ?_; rotate_left; kernel_rfl; kernel_rfl; kernel_rfl; kernel_rfl; (focus (refine Or.inl ⟨by rfl, ?_⟩; intro w' hSw; (try dsimp only at hSw); go_simp)); exact hH) | (refine wpAnyZ_take (i := 31) (v := ?_) rfl ?_ ?_ ?_ ?_ (fun _ _ _ h => h) ?_ ?_ ?_; rotate_left; kernel_rfl; kernel_rfl; kernel_rfl; kernel_rfl; (focus (refine Or.inl ⟨by rfl, ?_⟩; intro w' hSw; (try dsimp only at hSw); go_simp; with_reducible rfl)); exact hH)
      try simp only [Act.put, List.getElem_toArray, List.getElem_cons_succ, List.getElem_cons_zero, List.setIfInBounds_toArray, List.set_cons_zero, List.set_cons_succ]
      first | (refine wpAnyZ_take (i := 32) (v := undef) rfl ?_ ?_ ?_ ?_ (fun _ _ _ h => h) ?_ ?_ ?_; kernel_rfl; kernel_rfl; kernel_rfl; kernel_rfl; exact Or.inr ⟨by rfl, rfl⟩; exact hH) | (refine wpAnyZ_take (i := 32) (v := ?_) rfl ?_ ?_ ?_ ?_ (fun _ _ _ h => h) ?_ ?_ ?_; rotate_left; kernel_rfl; kernel_rfl; kernel_rfl; kernel_rfl; (focus (refine Or.inl ⟨by rfl, ?_⟩; intro w' hSw; (try dsimp only at hSw); go_simp)); exact hH) | (refine wpAnyZ_take (i := 32) (v := ?_) rfl ?_ ?_ ?_ ?_ (fun _ _ _ h => h) ?_ ?_ ?_; rotate_left; kernel_rfl; kernel_rfl; kernel_rfl; kernel_rfl; (focus (refine Or.inl ⟨by rfl, ?_⟩; intro w' hSw; (try dsimp only at hSw); go_simp; with_reducible rfl)); exact hH)
      try simp only [Act.put, List.getElem_toArray, List.getElem_cons_succ, List.getElem_cons_zero, List.setIfInBounds_toArray, List.set_cons_zero, List.set_cons_succ]
      first | (refine wpAnyZ_take (i := 33) (v := undef) rfl ?_ ?_ ?_ ?_ (fun _ _ _ h => h) ?_ ?_ ?_; kernel_rfl; kernel_rfl; kernel_rfl; kernel_rfl; exact Or.inr ⟨by rfl, rfl⟩; exact hH) | (refine wpAnyZ_take (i := 33) (v := ?_) rfl ?_ ?_ ?_ ?_ (fun _ _ _ h => h) ?_ ?_ ?_; rotate_left; kernel_rfl; kernel_rfl; kernel_rfl; kernel_rfl; (focus (refine Or.inl ⟨by rfl, ?_⟩; intro w' hSw; (try dsimp only at hSw); go_simp)); exact hH) | (refine wpAnyZ_take (i := 33) (v := ?_) rfl ?_ ?_ ?_ ?_ (fun _ _ _ h => h) ?_ ?_ ?_; rotate_left; kernel_rfl; kernel_rfl; kernel_rfl; kernel_rfl; (focus (refine Or.inl ⟨by rfl, ?_⟩; intro w' hSw; (try dsimp only at hSw); go_simp; with_reducible rfl)); exact hH)
      try simp only [Act.put, List.getElem_toArray, List.getElem_cons_succ, List.getElem_cons_zero, List.setIfInBounds_toArray, List.set_cons_zero, List.set_cons_succ]
      first | (refine wpAnyZ_take (i := 34) (v := undef) rfl ?_ ?_ ?_ ?_ (fun _ _ _ h => h) ?_ ?_ ?_; kernel_rfl; kernel_rfl; kernel_rfl; kernel_rfl; exact Or.inr ⟨by rfl, rfl⟩; exact hH) | (refine wpAnyZ_take (i := 34) (v := ?_) rfl ?_ ?_ ?_ ?_ (fun _ _ _ h => h) ?_ ?_ ?_; rotate_left; kernel_rfl; kernel_rfl; kernel_rfl; kernel_rfl; (focus (refine Or.inl ⟨by rfl, ?_⟩; intro w' hSw; (try dsimp only at hSw); go_simp)); exact hH) | (refine wpAnyZ_take (i := 34) (v := ?_) rfl ?_ ?_ ?_ ?_ (fun _ _ _ h => h) ?_ ?_ ?_; rotate_left; kernel_rfl; kernel_rfl; kernel_rfl; kernel_rfl; (focus (refine Or.inl ⟨by rfl, ?_⟩; intro w' hSw; (try dsimp only at hSw); go_simp; with_reducible rfl)); exact hH)
      try simp only [Act.put, List.getElem_toArray, List.getElem_cons_succ, List.getElem_cons_zero, List.setIfInBounds_toArray, List.set_cons_zero, List.set_cons_succ]
      first | (refine wpAnyZ_take (i := 35) (v := undef) rfl ?_ ?_ ?_ ?_ (fun _ _ _ h => h) ?_ ?_ ?_; kernel_rfl; kernel_rfl; kernel_rfl; kernel_rfl; exact Or.inr ⟨by rfl, rfl⟩; exact hH) | (refine wpAnyZ_take (i := 35) (v := ?_) rfl ?_ ?_ ?_ ?_ (fun _ _ _ h => h) ?_ ?_ ?_; rotate_left; kernel_rfl; kernel_rfl; kernel_rfl; kernel_rfl; (focus (refine Or.inl ⟨by rfl, ?_⟩; intro w' hSw; (try dsimp only at hSw); go_simp)); exact hH) | (refine wpAnyZ_take (i := 35) (v := ?_) rfl ?_ ?_ ?_ ?_ (fun _ _ _ h => h) ?_ ?_ ?_; rotate_left; kernel_rfl; kernel_rfl; kernel_rfl; kernel_rfl; (focus (refine Or.inl ⟨by rfl, ?_⟩; intro w' hSw; (try dsimp only at hSw); go_simp; with_reducible rfl)); exact hH)
      try simp only [Act.put, List.getElem_toArray, List.getElem_cons_succ, List.getElem_cons_zero, List.setIfInBounds_toArray, List.set_cons_zero, List.set_cons_succ]
      first | (refine wpAnyZ_take (i := 36) (v := undef) rfl ?_ ?_ ?_ ?_ (fun _ _ _ h => h) ?_ ?_ ?_; kernel_rfl; kernel_rfl; kernel_rfl; kernel_rfl; exact Or.inr ⟨by rfl, rfl⟩; exact hH) | (refine wpAnyZ_take (i := 36) (v := ?_) rfl ?_ ?_ ?_ ?_ (fun _ _ _ h => h) ?_ ?_ ?_; rotate_left; kernel_rfl; kernel_rfl; kernel_rfl; kernel_rfl; (focus (refine Or.inl ⟨by rfl, ?_⟩; intro w' hSw; (try dsimp only at hSw); go_simp)); exact hH) | (refine wpAnyZ_take (i := 36) (v := ?_) rfl ?_ ?_ ?_ ?_ (fun _ _ _ h => h) ?_ ?_ ?_; rotate_left; kernel_rfl; kernel_rfl; kernel_rfl; kernel_rfl; (focus (refine Or.inl ⟨by rfl, ?_⟩; intro w' hSw; (try dsimp only at hSw); go_simp; with_reducible rfl)); exact hH)
      try simp only [Act.put, List.getElem_toArray, List.getElem_cons_succ, List.getElem_cons_zero, List.setIfInBounds_toArray, List.set_cons_zero, List.set_cons_succ]
      first | (refine wpAnyZ_take (i := 37) (v := undef) rfl ?_ ?_ ?_ ?_ (fun _ _ _ h => h) ?_ ?_ ?_; kernel_rfl; kernel_rfl; kernel_rfl; kernel_rfl; exact Or.inr ⟨by rfl, rfl⟩; exact hH) | (refine wpAnyZ_take (i := 37) (v := ?_) rfl ?_ ?_ ?_ ?_ (fun _ _ _ h => h) ?_ ?_ ?_; rotate_left; kernel_rfl; kernel_rfl; kernel_rfl; kernel_rfl; (focus (refine Or.inl ⟨by rfl, ?_⟩; intro w' hSw; (try dsimp only at hSw); go_simp)); exact hH) | (refine wpAnyZ_take (i := 37) (v := ?_) rfl ?_ ?_ ?_ ?_ (fun _ _ _ h => h) ?_ ?_ ?_; rotate_left; kernel_rfl; kernel_rfl; kernel_rfl; kernel_rfl; (focus (refine Or.inl ⟨by rfl, ?_⟩; intro w' hSw; (try dsimp only at hSw); go_simp; with_reducible rfl)); exact hH)
      try simp only [Act.put, List.getElem_toArray, List.getElem_cons_succ, List.getElem_cons_zero, List.setIfInBounds_toArray, List.set_cons_zero, List.set_cons_succ]
      refine wpAnyZ_ready (rs := [38]) (by kernel_rfl) (by simp) ?_
      refine (AllReadyZ.cons rfl (fun K hK => ?_) AllReadyZ.nil)
      go_simp
      refine hK.out _ _ (fun h => absurd (by simp) h) ?_
      clear hK K
      try simp only [Act.put, List.getElem_toArray, List.getElem_cons_succ, List.getElem_cons_zero, List.setIfInBounds_toArray, List.set_cons_zero, List.set_cons_succ]
      refine wpAnyZ_done (by kernel_rfl) ?_ _
      refine NoPanic.normal ?_
      skip
      clear hH KR LEN2 fz cz hlz hlz2
      have HZ1 := Lib.hid hz1
      clear hz1
      go_wp2
      have zz := HW1.out
      have zz1 := HSZ.out
      have zz3 := HX.out.2.2.2.2.2.2.2.2.2.1
      refine marks_ret (B := w.heap.size) [W0.heap.size] rfl (by intro D hd; simp only [List.mem_singleton] at hd; subst hd; exact ⟨by omega, (Below.heap_setCell _ _ _ _ (show W0.heap.size ≠ w.heap.size + 2 by omega)).trans ((HZ1.out.block _ (Array.getElem?_eq_some_iff.1 HX.out.2.2.2.2.2.2.2.2.2.2).1).trans HX.out.2.2.2.2.2.2.2.2.2.2)⟩) (by simp) ?_
      intro w' hs
      have b4 := ((HX.out.2.2.2.2.2.2.2.2.1.next HZ1.out).put 0 (.bool true)).stays hs
      have n4 : w'.cell? ⟨w.heap.size + 2, 0, none⟩ = some (.bool true) := b4.get 0 rfl
      have b5 := below_stays ((((H0.out.2.2.2.1.trans (HB1.out.mono H0.out.2.2.2.1.size)).trans (HX.out.1.below.mono (by omega))).trans (HZ1.out.mono (by omega))).setCell (p := ⟨w.heap.size + 2, 0, none⟩) (Nat.le_add_right _ 2) (.bool true)) hs (Nat.le_refl _)
      exact ⟨_, by simp [results, Try.results6, go_sem, n4]; try rfl, rfl, b5⟩

end Go.Proofs.Ytjlnbpomncglcaa

