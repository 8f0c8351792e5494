/-
  Rows of copies in memory: append, clone, the last one struck.
-/
import Derived.Test.YtjhffbhjiflfeaaGreatSagA
import Derived.Test.YtjhffbhjiflfeaaGreatRegionZ
import Derived.Laws.OwnMore
import Derived.Lib.SliceRun
import Derived.WalkMore
namespace Go.Proofs.YtjhffbhjiflfeaaGreat
set_option linter.unusedVariables false
set_option linter.unusedSimpArgs false
set_option maxRecDepth 100000
open Go.RowKit Go.Shelf

def encK : List (Int × Int) → List Value
  | [] => []
  | k :: K => .int .u64 k.1 :: .int .u64 k.2 :: encK K
theorem encK_len : ∀ K : List (Int × Int), (encK K).length = K.length * 2
  | [] => rfl
  | k :: K => by
    show (encK K).length + 1 + 1 = (K.length + 1) * 2
    rw [encK_len K]; omega
theorem encK_append : ∀ K L : List (Int × Int), encK (K ++ L) = encK K ++ encK L
  | [], _ => rfl
  | k :: K, L => by
    show Value.int .u64 k.1 :: .int .u64 k.2 :: encK (K ++ L) = _
    rw [encK_append K L]; rfl
theorem encK_at : ∀ (K : List (Int × Int)) (i : Nat) (k : Int × Int), K[i]? = some k → (encK K)[i * 2]? = some (.int .u64 k.1) ∧ (encK K)[i * 2 + 1]? = some (.int .u64 k.2)
  | [], i, k, h => by cases h
  | k' :: K, 0, k, h => by
    obtain rfl : k' = k := by simpa using h
    exact ⟨rfl, rfl⟩
  | k' :: K, i + 1, k, h => by
    have := encK_at K i k (by simpa using h)
    rw [Nat.add_mul]
    exact this
theorem encK_one : ∀ (K : List (Int × Int)) (u : Value), u ∈ encK K → u.oneCell' = true
  | [], u, h => by cases h
  | k :: K, u, h => by
    rcases List.mem_cons.1 h with rfl | h
    · rfl
    · rcases List.mem_cons.1 h with rfl | h
      · rfl
      · exact encK_one K u h
/-- A row of copies that owns its cells. -/
def OwnK (w : World) (B : Nat) (v : Value) (K : List (Int × Int)) : Prop := w.ownsRow B 192 2 v K.length (encK K)
section
variable {w w' : World} {B : Nat} {v : Value} {K : List (Int × Int)}
theorem OwnK.next (h : OwnK w B v K) (hb : Below w.heap.size w w') : OwnK w' B v K := own_next h hb
theorem OwnK.fr {S : Nat → Prop} (h : OwnK w B v K) (hf : Fr S w w') (hn : ∀ k, v.ownBlock = some k → ¬ S k) : OwnK w' B v K := ownsRow_fr h hf hn
theorem OwnK.nil (w : World) (B : Nat) : OwnK w B (.slice none 0 0) [] := World.ownsRow_nil w B _ _
theorem OwnK.mono {B' : Nat} (h : OwnK w B v K) (hb : B' ≤ B) : OwnK w B' v K := by
  refine ⟨h.1, ?_⟩
  rcases h.2 with h2 | ⟨g, cap, cur, rfl, hg, r⟩
  · exact .inl h2
  · exact .inr ⟨g, cap, cur, rfl, Nat.le_trans hb hg, r⟩
theorem OwnK.lt (h : OwnK w B v K) (g : Nat) (hg : v.ownBlock = some g) : B ≤ g ∧ g < w.heap.size := World.ownsRow.lt h g hg
/-- A row's block is of the copies' type. -/
theorem OwnK.far {b : Nat} {t : TypeId} {cs : Array Value} (h : OwnK w B v K) (hb : Blk w b t cs) (hne : 192 ≠ t) (g : Nat) (hg : v.ownBlock = some g) : g ≠ b := by
  rcases h.2 with ⟨rfl, _⟩ | ⟨g', cap, cur, rfl, _, hc, _⟩
  · cases hg
  · cases hg
    exact Blk.ne_of_type (show Blk w g' _ cur from hc) hb hne
theorem OwnK.form (h : OwnK w B v K) (hn : K ≠ []) : ∃ g c, v = .slice (some ⟨g, 0, none⟩) K.length c ∧ B ≤ g ∧ g < w.heap.size := by
  rcases h.2 with ⟨_, h0⟩ | ⟨g, cap, cur, rfl, hb, hc, _⟩
  · exact absurd (List.eq_nil_of_length_eq_zero h0) hn
  · exact ⟨g, cap, rfl, hb, lt_of_block hc⟩
theorem OwnK.len (h : OwnK w B v K) : ∃ A c, v = .slice A K.length c := by
  rcases h.2 with ⟨rfl, h0⟩ | ⟨g, cap, cur, rfl, _⟩
  · rw [h0]; exact ⟨_, _, rfl⟩
  · exact ⟨_, _, rfl⟩
theorem OwnK.cell {g c i : Nat} {k : Int × Int} (h : OwnK w B (.slice (some ⟨g, 0, none⟩) K.length c) K) (hk : K[i]? = some k) :
    w.cell? ⟨g, i * 2, none⟩ = some (.int .u64 k.1) ∧ w.cell? ⟨g, i * 2 + 1, none⟩ = some (.int .u64 k.2) := by
  have hi : i < K.length := (List.getElem?_eq_some_iff.1 hk).1
  have e := encK_at K i k hk
  exact ⟨(World.ownsRow.cellAt h (i * 2) (by omega)).trans e.1, (World.ownsRow.cellAt h (i * 2 + 1) (by omega)).trans e.2⟩
/-- The last one struck. -/
theorem OwnK.strike {g c m : Nat} {k : Int × Int} (h : OwnK w B (.slice (some ⟨g, 0, none⟩) (m + 1) c) (K ++ [k])) (hm : K.length = m) : OwnK w B (.slice (some ⟨g, 0, none⟩) m c) K := by
  refine ⟨encK_len K, Or.inr ?_⟩
  rcases h.2 with ⟨h0, _⟩ | ⟨g', cap, cur, e, hb, hc, hl, hmx, hs, ht⟩
  · cases h0
  · injection e with ea eb ec
    injection ea with ea
    injection ea with ea
    subst ea ec
    refine ⟨g, c, cur, by rw [hm], hb, hc, by omega, hmx, hs, ?_⟩
    rw [encK_append] at ht
    have e1 : (encK K).length = K.length * 2 := encK_len K
    have := congrArg (List.take (K.length * 2)) ht
    rw [List.take_take, List.take_left' e1] at this
    rw [← this]
    congr 1
    simp
end
/-- append of one copy. -/
theorem wp_append_two {P : Program} {Q : Exit → Act → World → Prop} {w : World} {o : Oper} {a : Act} {K : Act → World → Prop} (s x : Operand) (t : TypeId) (ho : o.op = .call { callee := .builtin .append, args := #[s, x], argTypes := #[t, t] })
    (base : Nat) (e : TypeId) (i : TypeInfo) (z : Value) (bytes : Nat) (ht : P.underlying t = some (.slice e)) (hi : P.info? e = some i) (hz : i.zero = some z)
    (hsize : i.size = 2) (hby : i.bytes = bytes) (hzs : z.cells.size = 2) (v : Value) (n : Nat) (xs : List Value) (hs : a.eval s = v) (hown : w.ownsRow base e 2 v n xs)
    (b c : Nat) (u1 u2 : Value) (hx : a.eval x = .slice (some ⟨b, 0, none⟩) 1 c) (hu1 : w.cell? ⟨b, 0, none⟩ = some u1) (hu2 : w.cell? ⟨b, 1, none⟩ = some u2) (h1 : u1.oneCell' = true) (h2 : u2.oneCell' = true)
    (h63 : n + 1 ≤ maxLen) (hbytes : (n + 1) * bytes ≤ 140737488355328) (hbase : base ≤ w.heap.size)
    (h : ∀ v' w', w'.ownsRow base e 2 v' (n + 1) (xs ++ [u1, u2]) → w.grownBy w' v.ownBlock → (v'.ownBlock = v.ownBlock ∨ v'.ownBlock = some w.heap.size) → K (a.put o.dst v') w') : o.wp P a w K Q := by
  obtain ⟨v', w', hr, h3, h4, -, h5⟩ := run_append_own_at (P := P) w base t o.type e i z 2 bytes ht hi hz hsize hby hzs (by omega) v n xs hown ⟨b, 0, none⟩ 1 c [u1, u2] rfl
    (fun j y hj => by
      match j, hj with
      | 0, hj =>
        simp only [List.getElem?_cons_zero, Option.some.injEq] at hj
        subst hj
        rw [Addr.add_lit]; exact hu1
      | 1, hj =>
        simp only [List.getElem?_cons_zero, List.getElem?_cons_succ, Option.some.injEq] at hj
        subst hj
        rw [Addr.add_lit]; exact hu2)
    (fun y hy => by
      rcases List.mem_cons.1 hy with rfl | hy
      · exact h1
      · rw [List.mem_singleton] at hy; subst hy; exact h2) h63 hbytes hbase
  unfold Oper.wp execOp
  simp only [ho, resolve, invoke, builtin, Sem.run_bind, Sem.run_pure, Result.andThen_ok, List.map_toArray, List.map_cons, List.map_nil, hs, hx, hr]
  exact h v' w' h3 h4 h5
theorem start_info : ∃ i0, Tryz.prog.info? 192 = some i0 ∧ i0.zero = some (.agg #[.int .u64 0, .int .u64 0]) ∧ i0.size = 2 ∧ i0.bytes = 16 :=
  info_parts (show (Tryz.prog.info? 192).map (fun i => (i.zero, i.size, i.bytes)) = some (some (.agg #[.int .u64 0, .int .u64 0]), 2, 16) by kernel_rfl)

set_option maxHeartbeats 2000000 in
theorem sclone_any (v : Value) (K : List (Int × Int)) (B : Nat) (w : World) (h : OwnK w B v K) (hn : K.length ≤ 1000000) :
    Calls Tryz.prog 140 #[v] w fun e w' => ∃ v', e = .returned v' ∧ OwnK w' w.heap.size v' K ∧ Below w.heap.size w w' := by
  have q22 : ∀ (w : World) (a : Option Addr) (n c n' c' : Nat), (binOp .eql 121 (.slice a n c) (.slice none n' c')).run Tryz.prog w = .ok (.bool a.isNone) w := fun w a n c n' c' => Lib.run_eql_slice_nil w _ _ a n c n' c' Tryz.underlying121
  have u22 : ∀ w, Sem.run Tryz.prog (underlying 121) w = .ok (TypeDesc.slice 192) w := run_underlying Tryz.underlying121
  obtain ⟨hl, h2⟩ := id h
  rcases h2 with ⟨rfl, h0⟩ | ⟨g, cap, cur, rfl, hb, hc, -⟩
  · obtain rfl : K = [] := List.eq_nil_of_length_eq_zero h0
    clear hl h0 h
    go_enter Tryz.func140, Tryz.ntmps140
    go_wp2_with fail
    go_ret
    exact ⟨_, rfl, OwnK.nil _ _, Below.refl _ _⟩
  · obtain ⟨i0, hi, hz0, hz1, hz2⟩ := start_info
    have A : Hid (∀ j u, (encK K)[j]? = some u → w.cell? ⟨g, j, none⟩ = some u) := by
      intro j u hj
      have hlt : j < K.length * 2 := by
        have := (List.getElem?_eq_some_iff.1 hj).1
        omega
      exact (World.ownsRow.cellAt h j hlt).trans hj
    clear h hb hc
    go_enter Tryz.func140, Tryz.ntmps140
    go_wp2_with (at_builtin; refine wpList_append_own _ rfl _ _ 121 rfl w.heap.size 192 i0 (.agg #[.int .u64 0, .int .u64 0]) 2 16 Tryz.underlying121 hi hz0 hz1 hz2 rfl (by decide) _ _ _ rfl (World.ownsRow_made w #[] 0 (Nat.le_refl _) (Nat.zero_le _) (by simp)) ⟨g, 0, none⟩ K.length cap (encK K) rfl ?qc1 ?qc2 ?qc3 ?qc4 ?qc5 ?qc6 ?_)
    case qc1 => exact hl
    case qc2 =>
      intro j u hj
      rw [Addr.add_lit]
      rw [Nat.zero_add]
      exact Lib.cell?_alloc_some _ (A.out j u hj)
    case qc3 => exact encK_one K
    case qc4 => rw [Nat.zero_add]; unfold maxLen; omega
    case qc5 => rw [Nat.zero_add]; omega
    case qc6 => simp
    intro v' w1 hown hgrow hnil
    have HF : OwnK w1 w.heap.size v' K ∧ Below w.heap.size w w1 := by
      refine ⟨by unfold OwnK; simpa using hown, ?_⟩
      exact ((Below.refl _ w).alloc (Nat.le_refl _) _).grown hgrow (by simp) (by intro k hk; simp [Value.ownBlock] at hk; omega)
    have HF := Lib.hid HF
    clear hown hgrow hnil
    go_wp2_with fail
    go_ret
    exact ⟨_, rfl, HF.out.1, HF.out.2⟩

end Go.Proofs.YtjhffbhjiflfeaaGreat

/-!
  A sagging run's start: what is kept.
-/
namespace Go.Proofs.YtjhffbhjiflfeaaGreat
set_option linter.unusedVariables false
set_option linter.unusedSimpArgs false
set_option maxRecDepth 100000
open Go.RowKit Go.Shelf

def KBnd (x : Int) (k : Int × Int) : Prop := 0 ≤ k.1 ∧ k.1 ≤ x ∧ 0 ≤ k.2 ∧ k.2 ≤ 4611686018427387904
theorem IsSag.next {w w' : World} {q : Nat} {F L R n x : Int} {kv : Value} (h : IsSag w q F L R n x kv) (hb : Below w.heap.size w w') : IsSag w' q F L R n x kv := Blk.next h hb
theorem OwnK.push {w : World} {B : Nat} {v : Value} {K K' : List (Int × Int)} {k : Int × Int} {N : Nat} (h : w.ownsRow B 192 2 v (K.length + 1) (encK K ++ [.int .u64 k.1, .int .u64 k.2])) (eK : K ++ [k] = K') (eN : K'.length = N) :
    ∃ g c, v = .slice (some ⟨g, 0, none⟩) N c ∧ OwnK w B v K' := by
  subst eK eN
  have h2 : OwnK w B v (K ++ [k]) := by
    unfold OwnK
    rw [encK_append, List.length_append]
    exact h
  obtain ⟨g, c, e, -⟩ := h2.form (by simp)
  exact ⟨g, c, e, h2⟩
theorem OwnK.len' {w : World} {B : Nat} {v : Value} {K : List (Int × Int)} {m : Nat} (h : OwnK w B v K) (hm : K.length = m) : ∃ A c, v = .slice A m c := by
  subst hm
  exact h.len
theorem OwnK.last {w : World} {B : Nat} {v : Value} {P : List (Int × Int)} {k : Int × Int} {m : Nat} (h : OwnK w B v (P ++ [k])) (hm : P.length = m) :
    ∃ g c, v = .slice (some ⟨g, 0, none⟩) (m + 1) c ∧ m + 1 ≤ c ∧ B ≤ g ∧ g < w.heap.size ∧ w.cell? ⟨g, m * 2, none⟩ = some (.int .u64 k.1) ∧ w.cell? ⟨g, m * 2 + 1, none⟩ = some (.int .u64 k.2) := by
  obtain ⟨g, c, rfl, h1, h2⟩ := h.form (by simp)
  have hc : (P ++ [k]).length ≤ c := by
    rcases h.2 with ⟨h0, _⟩ | ⟨g', cap, cur, e, _, _, hl, _⟩
    · cases h0
    · injection e with _ _ ec
      rw [ec]; exact hl
  have e := OwnK.cell (i := m) (k := k) h (by rw [← hm]; simp)
  have el : (P ++ [k]).length = m + 1 := by rw [List.length_append, hm]; rfl
  rw [el] at hc ⊢
  exact ⟨g, c, rfl, hc, h1, h2, e.1, e.2⟩
theorem OwnK.cellN {w : World} {B g c N i : Nat} {K : List (Int × Int)} {k : Int × Int} (h : OwnK w B (.slice (some ⟨g, 0, none⟩) N c) K) (hN : K.length = N) (hk : K[i]? = some k) :
    w.cell? ⟨g, i * 2, none⟩ = some (.int .u64 k.1) ∧ w.cell? ⟨g, i * 2 + 1, none⟩ = some (.int .u64 k.2) := by
  subst hN
  exact h.cell hk

theorem OwnK.alloc' {w : World} {B m : Nat} {v : Value} {K : List (Int × Int)} {o : Obj} (h : OwnK w B v K) (hm : K.length = m) : (w.alloc o).ownsRow B 192 2 v m (encK K) := by
  subst hm
  exact h.next ((Below.refl _ w).alloc (Nat.le_refl _) _)
theorem push_nil {F L R x : Int} {k : Int × Int} {O : List (Int × Int)} (h : [] = sPop (sHas F L R x) (sHas F L R x k) O) : [k] = sPush F L R x O k := by
  unfold sPush; rw [← h]; rfl
theorem push_keep {F L R x : Int} {k c : Int × Int} {O P : List (Int × Int)} (h : c :: P = sPop (sHas F L R x) (sHas F L R x k) O) (hl : sLine R x c ≤ sLine R x k) : c :: P = sPush F L R x O k := by
  unfold sPush; rw [← h]
  exact (if_pos hl).symm
theorem push_put {F L R x : Int} {k c : Int × Int} {O P : List (Int × Int)} (h : c :: P = sPop (sHas F L R x) (sHas F L R x k) O) (hl : ¬ sLine R x c ≤ sLine R x k) : k :: c :: P = sPush F L R x O k := by
  unfold sPush; rw [← h]
  exact (if_neg hl).symm
theorem pop_on {h : Int × Int → Int} {a : Int} {c : Int × Int} {P : List (Int × Int)} (hl : a ≤ h c) : sPop h a (c :: P) = sPop h a P := if_pos hl
theorem pop_off {h : Int × Int → Int} {a : Int} {c : Int × Int} {P : List (Int × Int)} (hl : ¬ a ≤ h c) : sPop h a (c :: P) = c :: P := if_neg hl
theorem fold_at {α : Type} {f : List α → α → List α} {K O O' : List α} {i : Nat} {k : α} (hk : K[i]? = some k) (hO : O = (K.take i).foldl f []) (h : O' = f O k) : O' = (K.take (i + 1)).foldl f [] := by
  rw [List.take_add_one, hk, List.foldl_append, ← hO, h]
  rfl
theorem cmp_ge (a b : Int) : (decide (0 ≤ cmpN a b) = true ∧ b ≤ a) ∨ (decide (0 ≤ cmpN a b) = false ∧ ¬ b ≤ a) := by
  unfold cmpN
  by_cases h : a < b
  · rw [if_pos h]; exact .inr ⟨rfl, by omega⟩
  · rw [if_neg h]
    split
    · exact .inl ⟨rfl, by omega⟩
    · exact .inl ⟨rfl, by omega⟩
theorem cmp_le (a b : Int) : (decide (cmpN a b ≤ 0) = true ∧ a ≤ b) ∨ (decide (cmpN a b ≤ 0) = false ∧ ¬ a ≤ b) := by
  unfold cmpN
  by_cases h : a < b
  · rw [if_pos h]; exact .inl ⟨rfl, by omega⟩
  · rw [if_neg h]
    split
    · exact .inr ⟨rfl, by omega⟩
    · exact .inl ⟨rfl, by omega⟩

set_option maxHeartbeats 16000000 in
theorem sstart_any (q : Nat) (F L R n x : Int) (C0 : List (Int × Int)) (kv : Value) (X Y : Int) (w : World) (h : IsSag w q F L R n x kv) (hk : OwnK w 0 kv C0) (ok : SagOk F L R n x C0) (hn : n ≤ 1000000) (wX : Word X) (wY : Word Y) :
    Calls Tryz.prog 135 #[.pointer (some ⟨q, 0, none⟩), .int .u64 X, .int .u64 Y] w fun e w' => e = .returned (.tuple #[]) ∧
      ∃ kv', IsSag w' q F L R (n + 1) (nextX x X) kv' ∧ OwnK w' 0 kv' (sNext F L R x X Y C0) ∧ Fr (fun k => k = q) w w' := by
  have KB : ∀ k ∈ C0 ++ [(nextX x X, capN Y)], KBnd (nextX x X) k := by
    intro k hm
    have h1 := nextX_ge x X
    have h2 := ok.x0
    have h3 := cap_bounds wY.1
    rcases List.mem_append.1 hm with hm | hm
    · have := ok.at' k hm
      exact ⟨this.1, by omega, this.2.2⟩
    · rw [List.mem_singleton.1 hm]
      exact ⟨by show 0 ≤ nextX x X; omega, Int.le_refl _, h3.1, h3.2⟩
  have hKn : C0.length ≤ 1000000 := by have := ok.len; omega
  have gX1 := nextX_le (X := X) ok.x1
  have gX0 := Int.le_trans ok.x0 (nextX_ge x X)
  have my := ok.may
  have n0 := ok.n0
  have x0 := ok.x0
  have x1 := ok.x1
  have eX : max (min X 9223372036854775808) x = nextX x X := rfl
  have eY : min Y 4611686018427387904 = capN Y := rfl
  unfold sNext sKept
  obtain ⟨x', ex⟩ : ∃ z, nextX x X = z := ⟨_, rfl⟩
  obtain ⟨y', ey⟩ : ∃ z, capN Y = z := ⟨_, rfl⟩
  rw [ex, ey] at KB ⊢
  rw [ex] at gX1 gX0 eX
  rw [ey] at eY
  obtain ⟨K', eK⟩ : ∃ z, C0 ++ [(x', y')] = z := ⟨_, rfl⟩
  obtain ⟨N, eN⟩ : ∃ z, K'.length = z := ⟨_, rfl⟩
  have hN1 : N ≤ 1000001 := by rw [← eN, ← eK, List.length_append]; show C0.length + 1 ≤ _; omega
  rw [eK] at KB ⊢
  have c3 : World.cell? w ⟨q, 3, none⟩ = some (.bool true) := Blk.get h 3 rfl
  have c4 : World.cell? w ⟨q, 4, none⟩ = some (.int .i64 n) := Blk.get h 4 rfl
  have c5 : World.cell? w ⟨q, 5, none⟩ = some (.int .u64 x) := Blk.get h 5 rfl
  have f4 := Blk.frozen h 4
  have f5 := Blk.frozen h 5
  obtain ⟨wa, hw3⟩ : ∃ z, (w.setCell ⟨q, 5, none⟩ (.int .u64 x')).setCell ⟨q, 4, none⟩ (.int .i64 (n + 1)) = z := ⟨_, rfl⟩
  have bQ : Blk wa q 123 #[.int .u64 F, .int .u64 L, .int .u64 R, .bool true, .int .i64 (n + 1), .int .u64 x', kv] := by rw [← hw3]; exact Blk.put (Blk.put h 5 _) 4 _
  have fr3 : Fr (fun k => k = q) w wa := by rw [← hw3]; exact Fr.setCell (S := fun k => k = q) (p := ⟨q, 4, none⟩) (Fr.setCell (S := fun k => k = q) (p := ⟨q, 5, none⟩) (Fr.refl _ w) (fun _ => rfl) _) (fun _ => rfl) _
  have hk3 : OwnK wa 0 kv C0 := hk.fr fr3 (fun k e => hk.far (show Blk w q _ _ from h) (by decide) k e)
  have HQ := Lib.hid bQ
  have HF3 := Lib.hid fr3
  have HK3 := Lib.hid hk3
  have HW3 := Lib.hid hw3
  have HKB := Lib.hid KB
  have HKN := Lib.hid hKn
  have HEK := Lib.hid eK
  have HEN := Lib.hid eN
  have HMY := Lib.hid my
  have HN1 := Lib.hid hN1
  clear h hk ok wX wY KB hw3 bQ fr3 hk3 hKn eK eN my x0 x1 hN1
  go_enter Tryz.func135, Tryz.ntmps135
  go_step3
  go_wp2_with fail
  go_step3
  go_upto_region 4 with (fail)
  rw [HW3.out]
  clear c3 c4 c5 f4 f5 HW3 n0 hn
  have KP : Hid (∀ w', Below (wa.heap.size) wa w' → (w'.cell? ⟨q, 6, none⟩ = some (kv) ∧ w'.cell? ⟨q, 5, none⟩ = some (.int .u64 x')) ∧ Below (wa.heap.size) wa w') := fun w' hb => ⟨⟨((Blk.next HQ.out hb).get 6 rfl), ((Blk.next HQ.out hb).get 5 rfl)⟩, hb⟩
  go_cut [50, 51, 52] (fun rv lv iv wc => ∃ g c, rv = .slice (some ⟨g, 0, none⟩) N c ∧ lv = .int .i64 (N : Int) ∧ iv = .int .i64 0 ∧ OwnK wc wa.heap.size rv K' ∧ Below wa.heap.size wa wc)
  case first =>
    refine wp_region_noPanic ?_
    refine wp_region_held_drew (S := fun w' => (w'.cell? ⟨q, 6, none⟩ = some (kv) ∧ w'.cell? ⟨q, 5, none⟩ = some (.int .u64 x')) ∧ Below (wa.heap.size) wa w') (by kernel_rfl) (KP.out _ (below_of_drew ((Below.refl wa.heap.size wa)))) (fun hH => ?_)
    have hbR := below_of_drew ((Below.refl wa.heap.size wa))
    first | (refine wpAnyH_take (i := 0) (v := undef) rfl ?_ ?_ ?_ (fun _ _ _ h => h) ?_ ?_ ?_; kernel_rfl; kernel_rfl; kernel_rfl; exact Or.inr ⟨by rfl, rfl⟩; exact hH) | (refine wpAnyH_take (i := 0) (v := ?_) rfl ?_ ?_ ?_ (fun _ _ _ h => h) ?_ ?_ ?_; rotate_left; kernel_rfl; kernel_rfl; kernel_rfl; (focus (refine Or.inl ⟨by rfl, ?_⟩; intro w' hSw; (try dsimp only at hSw); go_simp)); exact hH) | (refine wpAnyH_take (i := 0) (v := ?_) rfl ?_ ?_ ?_ (fun _ _ _ h => h) ?_ ?_ ?_; rotate_left; kernel_rfl; kernel_rfl; kernel_rfl; (focus (refine Or.inl ⟨by rfl, ?_⟩; intro w' hSw; (try dsimp only at hSw); go_simp; with_reducible rfl)); exact hH)
    try simp only [Act.put, List.getElem_toArray, List.getElem_cons_succ, List.getElem_cons_zero, List.setIfInBounds_toArray, List.set_cons_zero, List.set_cons_succ]
    first | (refine wpAnyH_take (i := 1) (v := undef) rfl ?_ ?_ ?_ (fun _ _ _ h => h) ?_ ?_ ?_; kernel_rfl; kernel_rfl; kernel_rfl; exact Or.inr ⟨by rfl, rfl⟩; exact hH) | (refine wpAnyH_take (i := 1) (v := ?_) rfl ?_ ?_ ?_ (fun _ _ _ h => h) ?_ ?_ ?_; rotate_left; kernel_rfl; kernel_rfl; kernel_rfl; (focus (refine Or.inl ⟨by rfl, ?_⟩; intro w' hSw; (try dsimp only at hSw); go_simp)); exact hH) | (refine wpAnyH_take (i := 1) (v := ?_) rfl ?_ ?_ ?_ (fun _ _ _ h => h) ?_ ?_ ?_; rotate_left; kernel_rfl; kernel_rfl; kernel_rfl; (focus (refine Or.inl ⟨by rfl, ?_⟩; intro w' hSw; (try dsimp only at hSw); go_simp; with_reducible rfl)); exact hH)
    try simp only [Act.put, List.getElem_toArray, List.getElem_cons_succ, List.getElem_cons_zero, List.setIfInBounds_toArray, List.set_cons_zero, List.set_cons_succ]
    first | (refine wpAnyH_take (i := 2) (v := undef) rfl ?_ ?_ ?_ (fun _ _ _ h => h) ?_ ?_ ?_; kernel_rfl; kernel_rfl; kernel_rfl; exact Or.inr ⟨by rfl, rfl⟩; exact hH) | (refine wpAnyH_take (i := 2) (v := ?_) rfl ?_ ?_ ?_ (fun _ _ _ h => h) ?_ ?_ ?_; rotate_left; kernel_rfl; kernel_rfl; kernel_rfl; (focus (refine Or.inl ⟨by rfl, ?_⟩; intro w' hSw; (try dsimp only at hSw); go_simp)); exact hH) | (refine wpAnyH_take (i := 2) (v := ?_) rfl ?_ ?_ ?_ (fun _ _ _ h => h) ?_ ?_ ?_; rotate_left; kernel_rfl; kernel_rfl; kernel_rfl; (focus (refine Or.inl ⟨by rfl, ?_⟩; intro w' hSw; (try dsimp only at hSw); go_simp; with_reducible rfl)); exact hH)
    try simp only [Act.put, List.getElem_toArray, List.getElem_cons_succ, List.getElem_cons_zero, List.setIfInBounds_toArray, List.set_cons_zero, List.set_cons_succ]
    first | (refine wpAnyH_take (i := 3) (v := undef) rfl ?_ ?_ ?_ (fun _ _ _ h => h) ?_ ?_ ?_; kernel_rfl; kernel_rfl; kernel_rfl; exact Or.inr ⟨by rfl, rfl⟩; exact hH) | (refine wpAnyH_take (i := 3) (v := ?_) rfl ?_ ?_ ?_ (fun _ _ _ h => h) ?_ ?_ ?_; rotate_left; kernel_rfl; kernel_rfl; kernel_rfl; (focus (refine Or.inl ⟨by rfl, ?_⟩; intro w' hSw; (try dsimp only at hSw); go_simp)); exact hH) | (refine wpAnyH_take (i := 3) (v := ?_) rfl ?_ ?_ ?_ (fun _ _ _ h => h) ?_ ?_ ?_; rotate_left; kernel_rfl; kernel_rfl; kernel_rfl; (focus (refine Or.inl ⟨by rfl, ?_⟩; intro w' hSw; (try dsimp only at hSw); go_simp; with_reducible rfl)); exact hH)
    try simp only [Act.put, List.getElem_toArray, List.getElem_cons_succ, List.getElem_cons_zero, List.setIfInBounds_toArray, List.set_cons_zero, List.set_cons_succ]
    first | (refine wpAnyH_take (i := 5) (v := undef) rfl ?_ ?_ ?_ (fun _ _ _ h => h) ?_ ?_ ?_; kernel_rfl; kernel_rfl; kernel_rfl; exact Or.inr ⟨by rfl, rfl⟩; exact hH) | (refine wpAnyH_take (i := 5) (v := ?_) rfl ?_ ?_ ?_ (fun _ _ _ h => h) ?_ ?_ ?_; rotate_left; kernel_rfl; kernel_rfl; kernel_rfl; (focus (refine Or.inl ⟨by rfl, ?_⟩; intro w' hSw; (try dsimp only at hSw); go_simp)); exact hH) | (refine wpAnyH_take (i := 5) (v := ?_) rfl ?_ ?_ ?_ (fun _ _ _ h => h) ?_ ?_ ?_; rotate_left; kernel_rfl; kernel_rfl; kernel_rfl; (focus (refine Or.inl ⟨by rfl, ?_⟩; intro w' hSw; (try dsimp only at hSw); go_simp; with_reducible rfl)); exact hH)
    try simp only [Act.put, List.getElem_toArray, List.getElem_cons_succ, List.getElem_cons_zero, List.setIfInBounds_toArray, List.set_cons_zero, List.set_cons_succ]
    first | (refine wpAnyH_take (i := 6) (v := undef) rfl ?_ ?_ ?_ (fun _ _ _ h => h) ?_ ?_ ?_; kernel_rfl; kernel_rfl; kernel_rfl; exact Or.inr ⟨by rfl, rfl⟩; exact hH) | (refine wpAnyH_take (i := 6) (v := ?_) rfl ?_ ?_ ?_ (fun _ _ _ h => h) ?_ ?_ ?_; rotate_left; kernel_rfl; kernel_rfl; kernel_rfl; (focus (refine Or.inl ⟨by rfl, ?_⟩; intro w' hSw; (try dsimp only at hSw); go_simp)); exact hH) | (refine wpAnyH_take (i := 6) (v := ?_) rfl ?_ ?_ ?_ (fun _ _ _ h => h) ?_ ?_ ?_; rotate_left; kernel_rfl; kernel_rfl; kernel_rfl; (focus (refine Or.inl ⟨by rfl, ?_⟩; intro w' hSw; (try dsimp only at hSw); go_simp; with_reducible rfl)); exact hH)
    try simp only [Act.put, List.getElem_toArray, List.getElem_cons_succ, List.getElem_cons_zero, List.setIfInBounds_toArray, List.set_cons_zero, List.set_cons_succ]
    first | (refine wpAnyH_take (i := 7) (v := undef) rfl ?_ ?_ ?_ (fun _ _ _ h => h) ?_ ?_ ?_; kernel_rfl; kernel_rfl; kernel_rfl; exact Or.inr ⟨by rfl, rfl⟩; exact hH) | (refine wpAnyH_take (i := 7) (v := ?_) rfl ?_ ?_ ?_ (fun _ _ _ h => h) ?_ ?_ ?_; rotate_left; kernel_rfl; kernel_rfl; kernel_rfl; (focus (refine Or.inl ⟨by rfl, ?_⟩; intro w' hSw; (try dsimp only at hSw); go_simp)); exact hH) | (refine wpAnyH_take (i := 7) (v := ?_) rfl ?_ ?_ ?_ (fun _ _ _ h => h) ?_ ?_ ?_; rotate_left; kernel_rfl; kernel_rfl; kernel_rfl; (focus (refine Or.inl ⟨by rfl, ?_⟩; intro w' hSw; (try dsimp only at hSw); go_simp; with_reducible rfl)); exact hH)
    try simp only [Act.put, List.getElem_toArray, List.getElem_cons_succ, List.getElem_cons_zero, List.setIfInBounds_toArray, List.set_cons_zero, List.set_cons_succ]
    first | (refine wpAnyH_take (i := 8) (v := undef) rfl ?_ ?_ ?_ (fun _ _ _ h => h) ?_ ?_ ?_; kernel_rfl; kernel_rfl; kernel_rfl; exact Or.inr ⟨by rfl, rfl⟩; exact hH) | (refine wpAnyH_take (i := 8) (v := ?_) rfl ?_ ?_ ?_ (fun _ _ _ h => h) ?_ ?_ ?_; rotate_left; kernel_rfl; kernel_rfl; kernel_rfl; (focus (refine Or.inl ⟨by rfl, ?_⟩; intro w' hSw; (try dsimp only at hSw); go_simp)); exact hH) | (refine wpAnyH_take (i := 8) (v := ?_) rfl ?_ ?_ ?_ (fun _ _ _ h => h) ?_ ?_ ?_; rotate_left; kernel_rfl; kernel_rfl; kernel_rfl; (focus (refine Or.inl ⟨by rfl, ?_⟩; intro w' hSw; (try dsimp only at hSw); go_simp; with_reducible rfl)); exact hH)
    try simp only [Act.put, List.getElem_toArray, List.getElem_cons_succ, List.getElem_cons_zero, List.setIfInBounds_toArray, List.set_cons_zero, List.set_cons_succ]
    first | (refine wpAnyH_take (i := 9) (v := undef) rfl ?_ ?_ ?_ (fun _ _ _ h => h) ?_ ?_ ?_; kernel_rfl; kernel_rfl; kernel_rfl; exact Or.inr ⟨by rfl, rfl⟩; exact hH) | (refine wpAnyH_take (i := 9) (v := ?_) rfl ?_ ?_ ?_ (fun _ _ _ h => h) ?_ ?_ ?_; rotate_left; kernel_rfl; kernel_rfl; kernel_rfl; (focus (refine Or.inl ⟨by rfl, ?_⟩; intro w' hSw; (try dsimp only at hSw); go_simp)); exact hH) | (refine wpAnyH_take (i := 9) (v := ?_) rfl ?_ ?_ ?_ (fun _ _ _ h => h) ?_ ?_ ?_; rotate_left; kernel_rfl; kernel_rfl; kernel_rfl; (focus (refine Or.inl ⟨by rfl, ?_⟩; intro w' hSw; (try dsimp only at hSw); go_simp; with_reducible rfl)); exact hH)
    try simp only [Act.put, List.getElem_toArray, List.getElem_cons_succ, List.getElem_cons_zero, List.setIfInBounds_toArray, List.set_cons_zero, List.set_cons_succ]
    first | (refine wpAnyH_take (i := 10) (v := undef) rfl ?_ ?_ ?_ (fun _ _ _ h => h) ?_ ?_ ?_; kernel_rfl; kernel_rfl; kernel_rfl; exact Or.inr ⟨by rfl, rfl⟩; exact hH) | (refine wpAnyH_take (i := 10) (v := ?_) rfl ?_ ?_ ?_ (fun _ _ _ h => h) ?_ ?_ ?_; rotate_left; kernel_rfl; kernel_rfl; kernel_rfl; (focus (refine Or.inl ⟨by rfl, ?_⟩; intro w' hSw; (try dsimp only at hSw); go_simp)); exact hH) | (refine wpAnyH_take (i := 10) (v := ?_) rfl ?_ ?_ ?_ (fun _ _ _ h => h) ?_ ?_ ?_; rotate_left; kernel_rfl; kernel_rfl; kernel_rfl; (focus (refine Or.inl ⟨by rfl, ?_⟩; intro w' hSw; (try dsimp only at hSw); go_simp; with_reducible rfl)); exact hH)
    try simp only [Act.put, List.getElem_toArray, List.getElem_cons_succ, List.getElem_cons_zero, List.setIfInBounds_toArray, List.set_cons_zero, List.set_cons_succ]
    first | (refine wpAnyH_take (i := 11) (v := undef) rfl ?_ ?_ ?_ (fun _ _ _ h => h) ?_ ?_ ?_; kernel_rfl; kernel_rfl; kernel_rfl; exact Or.inr ⟨by rfl, rfl⟩; exact hH) | (refine wpAnyH_take (i := 11) (v := ?_) rfl ?_ ?_ ?_ (fun _ _ _ h => h) ?_ ?_ ?_; rotate_left; kernel_rfl; kernel_rfl; kernel_rfl; (focus (refine Or.inl ⟨by rfl, ?_⟩; intro w' hSw; (try dsimp only at hSw); go_simp)); exact hH) | (refine wpAnyH_take (i := 11) (v := ?_) rfl ?_ ?_ ?_ (fun _ _ _ h => h) ?_ ?_ ?_; rotate_left; kernel_rfl; kernel_rfl; kernel_rfl; (focus (refine Or.inl ⟨by rfl, ?_⟩; intro w' hSw; (try dsimp only at hSw); go_simp; with_reducible rfl)); exact hH)
    try simp only [Act.put, List.getElem_toArray, List.getElem_cons_succ, List.getElem_cons_zero, List.setIfInBounds_toArray, List.set_cons_zero, List.set_cons_succ]
    first | (refine wpAnyH_take (i := 15) (v := undef) rfl ?_ ?_ ?_ (fun _ _ _ h => h) ?_ ?_ ?_; kernel_rfl; kernel_rfl; kernel_rfl; exact Or.inr ⟨by rfl, rfl⟩; exact hH) | (refine wpAnyH_take (i := 15) (v := ?_) rfl ?_ ?_ ?_ (fun _ _ _ h => h) ?_ ?_ ?_; rotate_left; kernel_rfl; kernel_rfl; kernel_rfl; (focus (refine Or.inl ⟨by rfl, ?_⟩; intro w' hSw; (try dsimp only at hSw); go_simp)); exact hH) | (refine wpAnyH_take (i := 15) (v := ?_) rfl ?_ ?_ ?_ (fun _ _ _ h => h) ?_ ?_ ?_; rotate_left; kernel_rfl; kernel_rfl; kernel_rfl; (focus (refine Or.inl ⟨by rfl, ?_⟩; intro w' hSw; (try dsimp only at hSw); go_simp; with_reducible rfl)); exact hH)
    try simp only [Act.put, List.getElem_toArray, List.getElem_cons_succ, List.getElem_cons_zero, List.setIfInBounds_toArray, List.set_cons_zero, List.set_cons_succ]
    refine wpAnyH_ready (rs := [4, 12]) (by kernel_rfl) (by simp) ?_
    refine (AllReadyH.cons rfl (fun K hK => ?_) (AllReadyH.cons rfl (fun K hK => ?_) AllReadyH.nil))
    · skip
      go_simp
      with_reducible refine (sclone_any kv C0 0 _ (HK3.out.next hH.2) HKN.out).mono ?_
      rintro e w1 ⟨v1, rfl, ho1, hb1'⟩
      have hz1 : Below wa.heap.size wa w1 := below_next hH.2 hb1'
      have hs1 := ho1.mono (Below.size hH.2)
      have ORh1 := hs1
      refine hK.out _ _ (KP.out _ hz1) (fun hH1 => ?_)
      clear hK K hH
      have hH := hH1
      clear hH1
      try simp only [Act.put, List.getElem_toArray, List.getElem_cons_succ, List.getElem_cons_zero, List.setIfInBounds_toArray, List.set_cons_zero, List.set_cons_succ]
      refine wpAnyH_ready (rs := [12]) (by kernel_rfl) (by simp) ?_
      refine (AllReadyH.cons rfl (fun K hK => ?_) AllReadyH.nil)
      go_simp
      have ORh2 := (ORh1).next ((Below.refl (w1).heap.size (w1)).alloc (Nat.le_refl _) (.cells #[.int .u64 x', .int .u64 y'] 192))
      have NBb2 : Blk (w1.alloc (.cells #[.int .u64 x', .int .u64 y'] 192)) (w1.heap.size) 192 #[.int .u64 x', .int .u64 y'] := Blk.new_at (by simp)
      have QGNB : wa.heap.size ≤ w1.heap.size := Nat.le_trans (Below.size (hz1)) (Nat.le_of_eq (by simp))
      have hb2 := Below.alloc (hz1) (Below.size (hz1)) (.cells #[.int .u64 x', .int .u64 y'] 192)
      refine hK.out _ _ (KP.out _ hb2) (fun hH2 => ?_)
      clear hK K hH
      have hH := hH2
      clear hH2
      try simp only [Act.put, List.getElem_toArray, List.getElem_cons_succ, List.getElem_cons_zero, List.setIfInBounds_toArray, List.set_cons_zero, List.set_cons_succ]
      refine wpAnyH_ready (rs := [13]) (by kernel_rfl) (by simp) ?_
      refine (AllReadyH.cons rfl (fun K hK => ?_) AllReadyH.nil)
      obtain ⟨i0, hi, hz0, hz1, hz2⟩ := start_info
      have hm1 : C0.length + 1 ≤ maxLen := by (unfold maxLen; have := HKN.out; omega)
      refine want_yes (by rfl) ?_
      refine wp_append_two _ _ 121 rfl wa.heap.size 192 i0 (.agg #[.int .u64 0, .int .u64 0]) 16 Tryz.underlying121 hi hz0 hz1 hz2 rfl _ _ _ (by rfl) ORh2 (w1.heap.size) _ _ _ (by rfl) ((NBb2).get 0 rfl) ((NBb2).get 1 rfl) rfl rfl hm1 (by have := HKN.out; omega) (Below.size hb2) ?_
      intro v3 w3 hown3 hgrow3 hat3
      obtain ⟨g3, c3, rfl, hp3⟩ := OwnK.push hown3 HEK.out HEN.out
      have ORh3 := hp3
      refine hK.out _ _ (KP.out _ (below_grown hb2 hgrow3 (Below.size hb2) (fun k hk => ((ORh2).lt k hk).1))) (fun hH3 => ?_)
      clear hK K hH
      have hH := hH3
      clear hH3
      try simp only [Act.put, List.getElem_toArray, List.getElem_cons_succ, List.getElem_cons_zero, List.setIfInBounds_toArray, List.set_cons_zero, List.set_cons_succ]
      first | (refine wpAnyH_take (i := 14) (v := undef) rfl ?_ ?_ ?_ (fun _ _ _ h => h) ?_ ?_ ?_; kernel_rfl; kernel_rfl; kernel_rfl; exact Or.inr ⟨by rfl, rfl⟩; exact hH) | (refine wpAnyH_take (i := 14) (v := ?_) rfl ?_ ?_ ?_ (fun _ _ _ h => h) ?_ ?_ ?_; rotate_left; kernel_rfl; kernel_rfl; kernel_rfl; (focus (refine Or.inl ⟨by rfl, ?_⟩; intro w' hSw; (try dsimp only at hSw); go_simp)); exact hH) | (refine wpAnyH_take (i := 14) (v := ?_) rfl ?_ ?_ ?_ (fun _ _ _ h => h) ?_ ?_ ?_; rotate_left; kernel_rfl; kernel_rfl; kernel_rfl; (focus (refine Or.inl ⟨by rfl, ?_⟩; intro w' hSw; (try dsimp only at hSw); go_simp; with_reducible rfl)); exact hH)
      try simp only [Act.put, List.getElem_toArray, List.getElem_cons_succ, List.getElem_cons_zero, List.setIfInBounds_toArray, List.set_cons_zero, List.set_cons_succ]
      refine wpAnyH_done (by kernel_rfl) ?_ _
      refine NoPanic.normal ?_
      go_wp2_with fail
      go_meet
      exact ⟨_, _, rfl, rfl, rfl, ORh3, (below_grown hb2 hgrow3 (Below.size hb2) (fun k hk => ((ORh2).lt k hk).1))⟩
    · skip
      go_simp
      have NBb4 : Blk (wa.drew.alloc (.cells #[.int .u64 x', .int .u64 y'] 192)) (wa.heap.size) 192 #[.int .u64 x', .int .u64 y'] := Blk.new_at (by simp)
      have QGNB : wa.heap.size ≤ wa.heap.size := Nat.le_trans (Below.size (hbR)) (Nat.le_of_eq (by simp))
      have hb4 := Below.alloc (hbR) (Below.size (hbR)) (.cells #[.int .u64 x', .int .u64 y'] 192)
      refine hK.out _ _ (KP.out _ hb4) (fun hH4 => ?_)
      clear hK K hH
      have hH := hH4
      clear hH4
      try simp only [Act.put, List.getElem_toArray, List.getElem_cons_succ, List.getElem_cons_zero, List.setIfInBounds_toArray, List.set_cons_zero, List.set_cons_succ]
      refine wpAnyH_ready (rs := [4]) (by kernel_rfl) (by simp) ?_
      refine (AllReadyH.cons rfl (fun K hK => ?_) AllReadyH.nil)
      go_simp
      with_reducible refine (sclone_any kv C0 0 _ (HK3.out.next hH.2) HKN.out).mono ?_
      rintro e w5 ⟨v5, rfl, ho5, hb5'⟩
      have hz5 : Below wa.heap.size wa w5 := below_next hH.2 hb5'
      have hs5 := ho5.mono (Below.size hH.2)
      have ORh5 := hs5
      have NBb5 := Blk.next NBb4 hb5'
      refine hK.out _ _ (KP.out _ hz5) (fun hH5 => ?_)
      clear hK K hH
      have hH := hH5
      clear hH5
      try simp only [Act.put, List.getElem_toArray, List.getElem_cons_succ, List.getElem_cons_zero, List.setIfInBounds_toArray, List.set_cons_zero, List.set_cons_succ]
      refine wpAnyH_ready (rs := [13]) (by kernel_rfl) (by simp) ?_
      refine (AllReadyH.cons rfl (fun K hK => ?_) AllReadyH.nil)
      obtain ⟨i0, hi, hz0, hz1, hz2⟩ := start_info
      have hm1 : C0.length + 1 ≤ maxLen := by (unfold maxLen; have := HKN.out; omega)
      refine want_yes (by rfl) ?_
      refine wp_append_two _ _ 121 rfl wa.heap.size 192 i0 (.agg #[.int .u64 0, .int .u64 0]) 16 Tryz.underlying121 hi hz0 hz1 hz2 rfl _ _ _ (by rfl) ORh5 (wa.heap.size) _ _ _ (by rfl) ((NBb5).get 0 rfl) ((NBb5).get 1 rfl) rfl rfl hm1 (by have := HKN.out; omega) (Below.size hz5) ?_
      intro v6 w6 hown6 hgrow6 hat6
      obtain ⟨g6, c6, rfl, hp6⟩ := OwnK.push hown6 HEK.out HEN.out
      have ORh6 := hp6
      refine hK.out _ _ (KP.out _ (below_grown hz5 hgrow6 (Below.size hz5) (fun k hk => ((ORh5).lt k hk).1))) (fun hH6 => ?_)
      clear hK K hH
      have hH := hH6
      clear hH6
      try simp only [Act.put, List.getElem_toArray, List.getElem_cons_succ, List.getElem_cons_zero, List.setIfInBounds_toArray, List.set_cons_zero, List.set_cons_succ]
      first | (refine wpAnyH_take (i := 14) (v := undef) rfl ?_ ?_ ?_ (fun _ _ _ h => h) ?_ ?_ ?_; kernel_rfl; kernel_rfl; kernel_rfl; exact Or.inr ⟨by rfl, rfl⟩; exact hH) | (refine wpAnyH_take (i := 14) (v := ?_) rfl ?_ ?_ ?_ (fun _ _ _ h => h) ?_ ?_ ?_; rotate_left; kernel_rfl; kernel_rfl; kernel_rfl; (focus (refine Or.inl ⟨by rfl, ?_⟩; intro w' hSw; (try dsimp only at hSw); go_simp)); exact hH) | (refine wpAnyH_take (i := 14) (v := ?_) rfl ?_ ?_ ?_ (fun _ _ _ h => h) ?_ ?_ ?_; rotate_left; kernel_rfl; kernel_rfl; kernel_rfl; (focus (refine Or.inl ⟨by rfl, ?_⟩; intro w' hSw; (try dsimp only at hSw); go_simp; with_reducible rfl)); exact hH)
      try simp only [Act.put, List.getElem_toArray, List.getElem_cons_succ, List.getElem_cons_zero, List.setIfInBounds_toArray, List.set_cons_zero, List.set_cons_succ]
      refine wpAnyH_done (by kernel_rfl) ?_ _
      refine NoPanic.normal ?_
      go_wp2_with fail
      go_meet
      exact ⟨_, _, rfl, rfl, rfl, ORh6, (below_grown hz5 hgrow6 (Below.size hz5) (fun k hk => ((ORh5).lt k hk).1))⟩
  case rest =>
    obtain ⟨g, c, rfl, rfl, rfl, hR, hB4⟩ := hcut
    obtain ⟨wb, rfl⟩ : ∃ z : World, z = wc := ⟨_, rfl⟩
    have HR := Lib.hid hR
    have HB4 := Lib.hid hB4
    have hg4 := (hR.lt g rfl).2
    have HG4 := Lib.hid hg4
    clear hR hB4 KP hg4
    go_wp2_with fail
    go_loopg [6, 52] N (fun gk ov ix wr => ∃ (i : Nat) (O : List (Int × Int)), i + gk = N ∧ ix = .int .i64 i ∧ O = (K'.take i).foldl (sPush F L R x') [] ∧ OwnK wr wb.heap.size ov O.reverse ∧ Below wb.heap.size wb wr)
    case atStart => exact ⟨0, [], by omega, rfl, rfl, OwnK.nil _ _, Below.refl _ _⟩
    case round =>
      obtain ⟨i, O, hi, rfl, hO, hown, hb⟩ := hrel
      obtain ⟨wo, rfl⟩ : ∃ z : World, z = wr := ⟨_, rfl⟩
      obtain ⟨go, rfl⟩ : ∃ z : Nat, z = gk := ⟨_, rfl⟩
      have HOE := Lib.hid hO
      have HB := Lib.hid hb
      by_cases hlt : i < N
      · obtain ⟨gm, rfl⟩ : ∃ z, go = z + 1 := ⟨go - 1, by omega⟩
        obtain ⟨k, hk⟩ : ∃ k, K'[i]? = some k := ⟨K'[i]'(by rw [HEN.out]; exact hlt), List.getElem?_eq_getElem _⟩
        obtain ⟨kx, ky⟩ := k
        have kb : KBnd x' (kx, ky) := HKB.out _ (List.mem_of_getElem? hk)
        have OB : ∀ c ∈ O, KBnd x' c := by
          intro c hc
          rw [hO] at hc
          rcases mem_sFold hc with hc | hc
          · cases hc
          · exact HKB.out _ (List.mem_of_mem_take hc)
        have e := OwnK.cellN (HR.out.next (hb.mono (Nat.le_refl _))) HEN.out hk
        obtain ⟨r0, r1⟩ := e
        obtain ⟨A, c2, rfl⟩ := hown.len' (m := O.length) (by simp)
        have p0 : (0 : Int) ≤ (i : Int) := by omega
        have p1 : (i : Int) < (N : Int) := by omega
        have e8 : wrap64 ((i : Int) + 1) = ((i + 1 : Nat) : Int) := by have := HN1.out; unfold wrap64; omega
        obtain ⟨wx, hwx⟩ : ∃ z, wo.alloc (.cells #[.int .u64 kx, .int .u64 ky] 192) = z := ⟨_, rfl⟩
        have b5 : Blk wx wo.heap.size 192 #[.int .u64 kx, .int .u64 ky] := by rw [← hwx]; exact Blk.new _ _ _
        have hb5 : Below wo.heap.size wo wx := by rw [← hwx]; go_grown
        have HOW5 := Lib.hid (hown.next hb5)
        have HB5 := Lib.hid (below_next hb hb5)
        have HBX5 := Lib.hid b5
        have HW5 := Lib.hid hwx
        have HKI := Lib.hid hk
        have HKX := Lib.hid kb
        have HOB := Lib.hid OB
        have HI := Lib.hid hi
        have HON := Lib.hid (show O.length ≤ 1000001 from by
          rw [hO]
          have h1 := sFold_len (F := F) (L := L) (R := R) (x := x') (K'.take i) []
          have h2 := List.length_take_le i K'
          have h3 := HN1.out
          simp only [List.length_nil] at h1
          omega)
        clear hO hown hb hlt hk kb OB hwx b5 hb5 hi
        go_upto_region 7 with (fail)
        rw [HW5.out]
        clear r0 r1
        go_wp2_with fail
        go_loopg [6, 9] O.length (fun gj ov nv wr => ∃ (m : Nat) (P : List (Int × Int)), P.length = m ∧ m = gj ∧ m ≤ 1000001 ∧ nv = .int .i64 (m : Int) ∧ sPop (sHas F L R x') (sHas F L R x' (kx, ky)) P = sPop (sHas F L R x') (sHas F L R x' (kx, ky)) O ∧ (∀ c ∈ P, KBnd x' c) ∧ OwnK wr wb.heap.size ov P.reverse ∧ Below wb.heap.size wb wr ∧ Blk wr wo.heap.size 192 #[.int .u64 kx, .int .u64 ky])
        case atStart => exact ⟨O.length, O, rfl, rfl, HON.out, rfl, rfl, HOB.out, HOW5.out, HB5.out, HBX5.out⟩
        case round =>
          obtain ⟨m, P, hm, hmg, hm1, rfl, hP, hPB, ho, hbw, hbx⟩ := hrel
          obtain ⟨wi, rfl⟩ : ∃ z : World, z = wr := ⟨_, rfl⟩
          obtain ⟨gi, rfl⟩ : ∃ z : Nat, z = gk := ⟨_, rfl⟩
          have HBW := Lib.hid hbw
          have HBX := Lib.hid hbx
          have HO := Lib.hid ho
          have HP := Lib.hid hP
          have HPB := Lib.hid hPB
          cases P with
          | nil =>
            obtain rfl : m = 0 := hm.symm
            obtain rfl : gi = 0 := hmg.symm
            obtain ⟨A, c2, rfl⟩ := ho.len' (m := 0) rfl
            have x0 := hbx.get 0 rfl
            have x1 := hbx.get 1 rfl
            clear hm hmg hP hPB ho hbw hbx
            go_upto_region 8 with (fail)
            go_quiet (fail)
            go_upto_region 12 with (fail)
            go_quiet (fail)
            go_upto_region 13 with (fail)
            obtain ⟨i0, hi0, hz0, hz1, hz2⟩ := start_info
            go_wp2_with (at_builtin; refine wpList_append_own _ rfl (.tmp 114) (.tmp 116) 121 rfl wb.heap.size 192 i0 (.agg #[.int .u64 0, .int .u64 0]) 2 16 Tryz.underlying121 hi0 hz0 hz1 hz2 rfl (by decide) _ 0 (encK []) rfl (OwnK.next (K := []) HO.out (below_drewN' ((Below.refl _ wi).alloc (Nat.le_refl _) _) _)) ⟨wi.heap.size, 0, none⟩ 1 1 [.int .u64 kx, .int .u64 ky] rfl rfl ?c1 ?c2 (by decide) (by decide) ?c3 ?_)
            case c1 =>
              intro j u hj
              rw [Addr.add_lit]
              match j, hj with
              | 0, hj => exact (Blk.get (Blk.drewN (Blk.new wi 192 #[.int .u64 kx, .int .u64 ky]) _) 0 rfl).trans hj
              | 1, hj => exact (Blk.get (Blk.drewN (Blk.new wi 192 #[.int .u64 kx, .int .u64 ky]) _) 1 rfl).trans hj
            case c2 => simp [Value.oneCell']
            case c3 => exact Nat.le_trans HBW.out.size (below_drewN' ((Below.refl wi.heap.size wi).alloc (Nat.le_refl _) _) _).size
            intro v' w' hown' hgrow' _
            obtain ⟨ga, ca, -, hpush⟩ := OwnK.push (K := []) (k := (kx, ky)) hown' rfl rfl
            have hb' : Below wb.heap.size wb w' := below_grown (below_drewN' (HBW.out.alloc HBW.out.size _) _) hgrow' (Nat.le_trans HBW.out.size (below_drewN' ((Below.refl wi.heap.size wi).alloc (Nat.le_refl _) _) _).size) (fun k hk => (HO.out.lt k hk).1)
            have HPU := Lib.hid hpush
            have HBN := Lib.hid hb'
            clear hown' hgrow' hpush hb'
            go_wp2
            go_roundg gm
            case rel => exact ⟨i + 1, [(kx, ky)], by have := HI.out; omega, by first | rfl | go_num | (rw [e8]), fold_at HKI.out HOE.out (push_nil HP.out), HPU.out, HBN.out⟩
            case measure => omega
          | cons c P' =>
            obtain ⟨cx, cy⟩ := c
            obtain ⟨m', rfl⟩ : ∃ z, m = z + 1 := ⟨P'.length, hm.symm⟩
            have hm' : P'.length = m' := by simpa using hm
            obtain rfl : gi = m' + 1 := hmg.symm
            have hrev : ((cx, cy) :: P').reverse = P'.reverse ++ [(cx, cy)] := List.reverse_cons
            have ho2 := ho
            rw [hrev] at ho2
            obtain ⟨g2, c2, rfl, hcap, hg2, hl2, s0, s1⟩ := OwnK.last ho2 (m := m') (by simp [hm'])
            have cb : KBnd x' (cx, cy) := hPB _ (List.mem_cons_self ..)
            have kb := HKX.out
            obtain ⟨V1, e1⟩ : ∃ z, sHas F L R x' (cx, cy) = z := ⟨_, rfl⟩
            obtain ⟨V2, e2⟩ : ∃ z, sHas F L R x' (kx, ky) = z := ⟨_, rfl⟩
            obtain ⟨L1, l1⟩ : ∃ z, sLine R x' (cx, cy) = z := ⟨_, rfl⟩
            obtain ⟨L2, l2⟩ : ∃ z, sLine R x' (kx, ky) = z := ⟨_, rfl⟩
            have HA := Lib.hid (fun W (hW : IsSag W q F L R (n + 1) x' kv) => shas_any q F L R (n + 1) x' kv cx cy x' V1 W hW HMY.out cb.1 cb.2.1 gX1 cb.2.2.1 cb.2.2.2 e1)
            have HK := Lib.hid (fun W (hW : IsSag W q F L R (n + 1) x' kv) => shas_any q F L R (n + 1) x' kv kx ky x' V2 W hW HMY.out kb.1 kb.2.1 gX1 kb.2.2.1 kb.2.2.2 e2)
            have HLA := Lib.hid (fun W (hW : IsSag W q F L R (n + 1) x' kv) => sline_any q F L R (n + 1) x' kv cx cy x' L1 W hW HMY.out cb.1 cb.2.1 gX1 cb.2.2.1 cb.2.2.2 l1)
            have HLK := Lib.hid (fun W (hW : IsSag W q F L R (n + 1) x' kv) => sline_any q F L R (n + 1) x' kv kx ky x' L2 W hW HMY.out kb.1 kb.2.1 gX1 kb.2.2.1 kb.2.2.2 l2)
            have hc1 := cmp_ge V1 V2
            have hc2 := cmp_le L1 L2
            obtain ⟨r, er⟩ : ∃ z, cmpN V1 V2 = z := ⟨_, rfl⟩
            obtain ⟨r2, er2⟩ : ∃ z, cmpN L1 L2 = z := ⟨_, rfl⟩
            have CM := Lib.hid (fun W => wcmp_w V1 V2 r W er)
            have CM2 := Lib.hid (fun W => wcmp_w L1 L2 r2 W er2)
            rw [er] at hc1
            rw [er2] at hc2
            obtain ⟨rb, erb⟩ : ∃ b : Bool, decide (0 ≤ r) = b := ⟨_, rfl⟩
            obtain ⟨rb2, erb2⟩ : ∃ b : Bool, decide (r2 ≤ 0) = b := ⟨_, rfl⟩
            rw [erb, ← e1, ← e2] at hc1
            rw [erb2, ← l1, ← l2] at hc2
            have HC1 := Lib.hid hc1
            have HC2 := Lib.hid hc2
            have HL2 := Lib.hid hl2
            have HS0 := Lib.hid s0
            have HS1 := Lib.hid s1
            have HM' := Lib.hid hm'
            have HM1 := Lib.hid hm1
            have HO2 := Lib.hid ho2
            have HCAP := Lib.hid hcap
            have HG2 := Lib.hid hg2
            have HQi : Hid (IsSag wi q F L R (n + 1) x' kv) := Blk.below HQ.out (HB4.out.trans (hbw.mono HB4.out.size)) HQ.out.lt
            have m0 : (0 : Int) ≤ (m' : Int) := by omega
            have m1 : (m' : Int) ≤ 1000001 := by omega
            have m2 : (0 : Int) < (m' : Int) + 1 := by omega
            have m3 : (m' : Int) < (m' : Int) + 1 := by omega
            have e5 : IntKind.i64.wrap ((m' : Int) + 1 - 1) = (m' : Int) := by rw [IntKind.wrap_i64]; omega
            have e6 : (m' : Int) + 1 - 1 = (m' : Int) := by omega
            have e7 : IntKind.i64.wrap (m' : Int) = (m' : Int) := by rw [IntKind.wrap_i64]; omega
            clear hm hmg hm1 hP hPB ho hbw hbx ho2 hcap hg2 hl2 s0 s1 cb kb e1 e2 l1 l2 hc1 hc2 er er2 hrev hm'
            have KP2 : Hid (∀ w', Below (wi.heap.size) wi w' → (w'.cell? ⟨q, 5, none⟩ = some (.int .u64 x') ∧ w'.cell? ⟨g2, m' * 2, none⟩ = some (.int .u64 cx) ∧ w'.cell? ⟨g2, m' * 2 + 1, none⟩ = some (.int .u64 cy) ∧ w'.cell? ⟨wo.heap.size, 0, none⟩ = some (.int .u64 kx) ∧ w'.cell? ⟨wo.heap.size, 1, none⟩ = some (.int .u64 ky)) ∧ Below (wi.heap.size) wi w') := fun w' hb => ⟨⟨((Blk.next HQi.out hb).get 5 rfl), ((hb.cell (p := ⟨g2, m' * 2, none⟩) HL2.out).trans HS0.out), ((hb.cell (p := ⟨g2, m' * 2 + 1, none⟩) HL2.out).trans HS1.out), ((Blk.next HBX.out hb).get 0 rfl), ((Blk.next HBX.out hb).get 1 rfl)⟩, hb⟩
            go_upto_region 8 with (fail)
            refine wp_region_noPanic ?_
            refine wp_region_held_drew (S := fun w' => (w'.cell? ⟨q, 5, none⟩ = some (.int .u64 x') ∧ w'.cell? ⟨g2, m' * 2, none⟩ = some (.int .u64 cx) ∧ w'.cell? ⟨g2, m' * 2 + 1, none⟩ = some (.int .u64 cy) ∧ w'.cell? ⟨wo.heap.size, 0, none⟩ = some (.int .u64 kx) ∧ w'.cell? ⟨wo.heap.size, 1, none⟩ = some (.int .u64 ky)) ∧ Below (wi.heap.size) wi w') (by kernel_rfl) (KP2.out _ (below_of_drew ((Below.refl wi.heap.size wi)))) (fun hH => ?_)
            have hbR := below_of_drew ((Below.refl wi.heap.size wi))
            first | (refine wpAnyH_take (i := 0) (v := undef) rfl ?_ ?_ ?_ (fun _ _ _ h => h) ?_ ?_ ?_; kernel_rfl; kernel_rfl; kernel_rfl; exact Or.inr ⟨by rfl, rfl⟩; exact hH) | (refine wpAnyH_take (i := 0) (v := ?_) rfl ?_ ?_ ?_ (fun _ _ _ h => h) ?_ ?_ ?_; rotate_left; kernel_rfl; kernel_rfl; kernel_rfl; (focus (refine Or.inl ⟨by rfl, ?_⟩; intro w' hSw; (try dsimp only at hSw); go_simp)); exact hH) | (refine wpAnyH_take (i := 0) (v := ?_) rfl ?_ ?_ ?_ (fun _ _ _ h => h) ?_ ?_ ?_; rotate_left; kernel_rfl; kernel_rfl; kernel_rfl; (focus (refine Or.inl ⟨by rfl, ?_⟩; intro w' hSw; (try dsimp only at hSw); go_simp; with_reducible rfl)); exact hH)
            try simp only [Act.put, List.getElem_toArray, List.getElem_cons_succ, List.getElem_cons_zero, List.setIfInBounds_toArray, List.set_cons_zero, List.set_cons_succ]
            first | (refine wpAnyH_take (i := 1) (v := undef) rfl ?_ ?_ ?_ (fun _ _ _ h => h) ?_ ?_ ?_; kernel_rfl; kernel_rfl; kernel_rfl; exact Or.inr ⟨by rfl, rfl⟩; exact hH) | (refine wpAnyH_take (i := 1) (v := ?_) rfl ?_ ?_ ?_ (fun _ _ _ h => h) ?_ ?_ ?_; rotate_left; kernel_rfl; kernel_rfl; kernel_rfl; (focus (refine Or.inl ⟨by rfl, ?_⟩; intro w' hSw; (try dsimp only at hSw); go_simp)); exact hH) | (refine wpAnyH_take (i := 1) (v := ?_) rfl ?_ ?_ ?_ (fun _ _ _ h => h) ?_ ?_ ?_; rotate_left; kernel_rfl; kernel_rfl; kernel_rfl; (focus (refine Or.inl ⟨by rfl, ?_⟩; intro w' hSw; (try dsimp only at hSw); go_simp; with_reducible rfl)); exact hH)
            try simp only [Act.put, List.getElem_toArray, List.getElem_cons_succ, List.getElem_cons_zero, List.setIfInBounds_toArray, List.set_cons_zero, List.set_cons_succ]
            first | (refine wpAnyH_take (i := 2) (v := undef) rfl ?_ ?_ ?_ (fun _ _ _ h => h) ?_ ?_ ?_; kernel_rfl; kernel_rfl; kernel_rfl; exact Or.inr ⟨by rfl, rfl⟩; exact hH) | (refine wpAnyH_take (i := 2) (v := ?_) rfl ?_ ?_ ?_ (fun _ _ _ h => h) ?_ ?_ ?_; rotate_left; kernel_rfl; kernel_rfl; kernel_rfl; (focus (refine Or.inl ⟨by rfl, ?_⟩; intro w' hSw; (try dsimp only at hSw); go_simp)); exact hH) | (refine wpAnyH_take (i := 2) (v := ?_) rfl ?_ ?_ ?_ (fun _ _ _ h => h) ?_ ?_ ?_; rotate_left; kernel_rfl; kernel_rfl; kernel_rfl; (focus (refine Or.inl ⟨by rfl, ?_⟩; intro w' hSw; (try dsimp only at hSw); go_simp; with_reducible rfl)); exact hH)
            try simp only [Act.put, List.getElem_toArray, List.getElem_cons_succ, List.getElem_cons_zero, List.setIfInBounds_toArray, List.set_cons_zero, List.set_cons_succ]
            first | (refine wpAnyH_take (i := 3) (v := undef) rfl ?_ ?_ ?_ (fun _ _ _ h => h) ?_ ?_ ?_; kernel_rfl; kernel_rfl; kernel_rfl; exact Or.inr ⟨by rfl, rfl⟩; exact hH) | (refine wpAnyH_take (i := 3) (v := ?_) rfl ?_ ?_ ?_ (fun _ _ _ h => h) ?_ ?_ ?_; rotate_left; kernel_rfl; kernel_rfl; kernel_rfl; (focus (refine Or.inl ⟨by rfl, ?_⟩; intro w' hSw; (try dsimp only at hSw); go_simp)); exact hH) | (refine wpAnyH_take (i := 3) (v := ?_) rfl ?_ ?_ ?_ (fun _ _ _ h => h) ?_ ?_ ?_; rotate_left; kernel_rfl; kernel_rfl; kernel_rfl; (focus (refine Or.inl ⟨by rfl, ?_⟩; intro w' hSw; (try dsimp only at hSw); go_simp; with_reducible rfl)); exact hH)
            try simp only [Act.put, List.getElem_toArray, List.getElem_cons_succ, List.getElem_cons_zero, List.setIfInBounds_toArray, List.set_cons_zero, List.set_cons_succ]
            first | (refine wpAnyH_take (i := 4) (v := undef) rfl ?_ ?_ ?_ (fun _ _ _ h => h) ?_ ?_ ?_; kernel_rfl; kernel_rfl; kernel_rfl; exact Or.inr ⟨by rfl, rfl⟩; exact hH) | (refine wpAnyH_take (i := 4) (v := ?_) rfl ?_ ?_ ?_ (fun _ _ _ h => h) ?_ ?_ ?_; rotate_left; kernel_rfl; kernel_rfl; kernel_rfl; (focus (refine Or.inl ⟨by rfl, ?_⟩; intro w' hSw; (try dsimp only at hSw); go_simp)); exact hH) | (refine wpAnyH_take (i := 4) (v := ?_) rfl ?_ ?_ ?_ (fun _ _ _ h => h) ?_ ?_ ?_; rotate_left; kernel_rfl; kernel_rfl; kernel_rfl; (focus (refine Or.inl ⟨by rfl, ?_⟩; intro w' hSw; (try dsimp only at hSw); go_simp; with_reducible rfl)); exact hH)
            try simp only [Act.put, List.getElem_toArray, List.getElem_cons_succ, List.getElem_cons_zero, List.setIfInBounds_toArray, List.set_cons_zero, List.set_cons_succ]
            first | (refine wpAnyH_take (i := 5) (v := undef) rfl ?_ ?_ ?_ (fun _ _ _ h => h) ?_ ?_ ?_; kernel_rfl; kernel_rfl; kernel_rfl; exact Or.inr ⟨by rfl, rfl⟩; exact hH) | (refine wpAnyH_take (i := 5) (v := ?_) rfl ?_ ?_ ?_ (fun _ _ _ h => h) ?_ ?_ ?_; rotate_left; kernel_rfl; kernel_rfl; kernel_rfl; (focus (refine Or.inl ⟨by rfl, ?_⟩; intro w' hSw; (try dsimp only at hSw); go_simp)); exact hH) | (refine wpAnyH_take (i := 5) (v := ?_) rfl ?_ ?_ ?_ (fun _ _ _ h => h) ?_ ?_ ?_; rotate_left; kernel_rfl; kernel_rfl; kernel_rfl; (focus (refine Or.inl ⟨by rfl, ?_⟩; intro w' hSw; (try dsimp only at hSw); go_simp; with_reducible rfl)); exact hH)
            try simp only [Act.put, List.getElem_toArray, List.getElem_cons_succ, List.getElem_cons_zero, List.setIfInBounds_toArray, List.set_cons_zero, List.set_cons_succ]
            first | (refine wpAnyH_take (i := 6) (v := undef) rfl ?_ ?_ ?_ (fun _ _ _ h => h) ?_ ?_ ?_; kernel_rfl; kernel_rfl; kernel_rfl; exact Or.inr ⟨by rfl, rfl⟩; exact hH) | (refine wpAnyH_take (i := 6) (v := ?_) rfl ?_ ?_ ?_ (fun _ _ _ h => h) ?_ ?_ ?_; rotate_left; kernel_rfl; kernel_rfl; kernel_rfl; (focus (refine Or.inl ⟨by rfl, ?_⟩; intro w' hSw; (try dsimp only at hSw); go_simp)); exact hH) | (refine wpAnyH_take (i := 6) (v := ?_) rfl ?_ ?_ ?_ (fun _ _ _ h => h) ?_ ?_ ?_; rotate_left; kernel_rfl; kernel_rfl; kernel_rfl; (focus (refine Or.inl ⟨by rfl, ?_⟩; intro w' hSw; (try dsimp only at hSw); go_simp; with_reducible rfl)); exact hH)
            try simp only [Act.put, List.getElem_toArray, List.getElem_cons_succ, List.getElem_cons_zero, List.setIfInBounds_toArray, List.set_cons_zero, List.set_cons_succ]
            first | (refine wpAnyH_take (i := 7) (v := undef) rfl ?_ ?_ ?_ (fun _ _ _ h => h) ?_ ?_ ?_; kernel_rfl; kernel_rfl; kernel_rfl; exact Or.inr ⟨by rfl, rfl⟩; exact hH) | (refine wpAnyH_take (i := 7) (v := ?_) rfl ?_ ?_ ?_ (fun _ _ _ h => h) ?_ ?_ ?_; rotate_left; kernel_rfl; kernel_rfl; kernel_rfl; (focus (refine Or.inl ⟨by rfl, ?_⟩; intro w' hSw; (try dsimp only at hSw); go_simp)); exact hH) | (refine wpAnyH_take (i := 7) (v := ?_) rfl ?_ ?_ ?_ (fun _ _ _ h => h) ?_ ?_ ?_; rotate_left; kernel_rfl; kernel_rfl; kernel_rfl; (focus (refine Or.inl ⟨by rfl, ?_⟩; intro w' hSw; (try dsimp only at hSw); go_simp; with_reducible rfl)); exact hH)
            try simp only [Act.put, List.getElem_toArray, List.getElem_cons_succ, List.getElem_cons_zero, List.setIfInBounds_toArray, List.set_cons_zero, List.set_cons_succ]
            first | (refine wpAnyH_take (i := 8) (v := undef) rfl ?_ ?_ ?_ (fun _ _ _ h => h) ?_ ?_ ?_; kernel_rfl; kernel_rfl; kernel_rfl; exact Or.inr ⟨by rfl, rfl⟩; exact hH) | (refine wpAnyH_take (i := 8) (v := ?_) rfl ?_ ?_ ?_ (fun _ _ _ h => h) ?_ ?_ ?_; rotate_left; kernel_rfl; kernel_rfl; kernel_rfl; (focus (refine Or.inl ⟨by rfl, ?_⟩; intro w' hSw; (try dsimp only at hSw); go_simp)); exact hH) | (refine wpAnyH_take (i := 8) (v := ?_) rfl ?_ ?_ ?_ (fun _ _ _ h => h) ?_ ?_ ?_; rotate_left; kernel_rfl; kernel_rfl; kernel_rfl; (focus (refine Or.inl ⟨by rfl, ?_⟩; intro w' hSw; (try dsimp only at hSw); go_simp; with_reducible rfl)); exact hH)
            try simp only [Act.put, List.getElem_toArray, List.getElem_cons_succ, List.getElem_cons_zero, List.setIfInBounds_toArray, List.set_cons_zero, List.set_cons_succ]
            first | (refine wpAnyH_take (i := 9) (v := undef) rfl ?_ ?_ ?_ (fun _ _ _ h => h) ?_ ?_ ?_; kernel_rfl; kernel_rfl; kernel_rfl; exact Or.inr ⟨by rfl, rfl⟩; exact hH) | (refine wpAnyH_take (i := 9) (v := ?_) rfl ?_ ?_ ?_ (fun _ _ _ h => h) ?_ ?_ ?_; rotate_left; kernel_rfl; kernel_rfl; kernel_rfl; (focus (refine Or.inl ⟨by rfl, ?_⟩; intro w' hSw; (try dsimp only at hSw); go_simp)); exact hH) | (refine wpAnyH_take (i := 9) (v := ?_) rfl ?_ ?_ ?_ (fun _ _ _ h => h) ?_ ?_ ?_; rotate_left; kernel_rfl; kernel_rfl; kernel_rfl; (focus (refine Or.inl ⟨by rfl, ?_⟩; intro w' hSw; (try dsimp only at hSw); go_simp; with_reducible rfl)); exact hH)
            try simp only [Act.put, List.getElem_toArray, List.getElem_cons_succ, List.getElem_cons_zero, List.setIfInBounds_toArray, List.set_cons_zero, List.set_cons_succ]
            first | (refine wpAnyH_take (i := 10) (v := undef) rfl ?_ ?_ ?_ (fun _ _ _ h => h) ?_ ?_ ?_; kernel_rfl; kernel_rfl; kernel_rfl; exact Or.inr ⟨by rfl, rfl⟩; exact hH) | (refine wpAnyH_take (i := 10) (v := ?_) rfl ?_ ?_ ?_ (fun _ _ _ h => h) ?_ ?_ ?_; rotate_left; kernel_rfl; kernel_rfl; kernel_rfl; (focus (refine Or.inl ⟨by rfl, ?_⟩; intro w' hSw; (try dsimp only at hSw); go_simp)); exact hH) | (refine wpAnyH_take (i := 10) (v := ?_) rfl ?_ ?_ ?_ (fun _ _ _ h => h) ?_ ?_ ?_; rotate_left; kernel_rfl; kernel_rfl; kernel_rfl; (focus (refine Or.inl ⟨by rfl, ?_⟩; intro w' hSw; (try dsimp only at hSw); go_simp; with_reducible rfl)); exact hH)
            try simp only [Act.put, List.getElem_toArray, List.getElem_cons_succ, List.getElem_cons_zero, List.setIfInBounds_toArray, List.set_cons_zero, List.set_cons_succ]
            first | (refine wpAnyH_take (i := 11) (v := undef) rfl ?_ ?_ ?_ (fun _ _ _ h => h) ?_ ?_ ?_; kernel_rfl; kernel_rfl; kernel_rfl; exact Or.inr ⟨by rfl, rfl⟩; exact hH) | (refine wpAnyH_take (i := 11) (v := ?_) rfl ?_ ?_ ?_ (fun _ _ _ h => h) ?_ ?_ ?_; rotate_left; kernel_rfl; kernel_rfl; kernel_rfl; (focus (refine Or.inl ⟨by rfl, ?_⟩; intro w' hSw; (try dsimp only at hSw); go_simp)); exact hH) | (refine wpAnyH_take (i := 11) (v := ?_) rfl ?_ ?_ ?_ (fun _ _ _ h => h) ?_ ?_ ?_; rotate_left; kernel_rfl; kernel_rfl; kernel_rfl; (focus (refine Or.inl ⟨by rfl, ?_⟩; intro w' hSw; (try dsimp only at hSw); go_simp; with_reducible rfl)); exact hH)
            try simp only [Act.put, List.getElem_toArray, List.getElem_cons_succ, List.getElem_cons_zero, List.setIfInBounds_toArray, List.set_cons_zero, List.set_cons_succ]
            first | (refine wpAnyH_take (i := 12) (v := undef) rfl ?_ ?_ ?_ (fun _ _ _ h => h) ?_ ?_ ?_; kernel_rfl; kernel_rfl; kernel_rfl; exact Or.inr ⟨by rfl, rfl⟩; exact hH) | (refine wpAnyH_take (i := 12) (v := ?_) rfl ?_ ?_ ?_ (fun _ _ _ h => h) ?_ ?_ ?_; rotate_left; kernel_rfl; kernel_rfl; kernel_rfl; (focus (refine Or.inl ⟨by rfl, ?_⟩; intro w' hSw; (try dsimp only at hSw); go_simp)); exact hH) | (refine wpAnyH_take (i := 12) (v := ?_) rfl ?_ ?_ ?_ (fun _ _ _ h => h) ?_ ?_ ?_; rotate_left; kernel_rfl; kernel_rfl; kernel_rfl; (focus (refine Or.inl ⟨by rfl, ?_⟩; intro w' hSw; (try dsimp only at hSw); go_simp; with_reducible rfl)); exact hH)
            try simp only [Act.put, List.getElem_toArray, List.getElem_cons_succ, List.getElem_cons_zero, List.setIfInBounds_toArray, List.set_cons_zero, List.set_cons_succ]
            first | (refine wpAnyH_take (i := 14) (v := undef) rfl ?_ ?_ ?_ (fun _ _ _ h => h) ?_ ?_ ?_; kernel_rfl; kernel_rfl; kernel_rfl; exact Or.inr ⟨by rfl, rfl⟩; exact hH) | (refine wpAnyH_take (i := 14) (v := ?_) rfl ?_ ?_ ?_ (fun _ _ _ h => h) ?_ ?_ ?_; rotate_left; kernel_rfl; kernel_rfl; kernel_rfl; (focus (refine Or.inl ⟨by rfl, ?_⟩; intro w' hSw; (try dsimp only at hSw); go_simp)); exact hH) | (refine wpAnyH_take (i := 14) (v := ?_) rfl ?_ ?_ ?_ (fun _ _ _ h => h) ?_ ?_ ?_; rotate_left; kernel_rfl; kernel_rfl; kernel_rfl; (focus (refine Or.inl ⟨by rfl, ?_⟩; intro w' hSw; (try dsimp only at hSw); go_simp; with_reducible rfl)); exact hH)
            try simp only [Act.put, List.getElem_toArray, List.getElem_cons_succ, List.getElem_cons_zero, List.setIfInBounds_toArray, List.set_cons_zero, List.set_cons_succ]
            first | (refine wpAnyH_take (i := 15) (v := undef) rfl ?_ ?_ ?_ (fun _ _ _ h => h) ?_ ?_ ?_; kernel_rfl; kernel_rfl; kernel_rfl; exact Or.inr ⟨by rfl, rfl⟩; exact hH) | (refine wpAnyH_take (i := 15) (v := ?_) rfl ?_ ?_ ?_ (fun _ _ _ h => h) ?_ ?_ ?_; rotate_left; kernel_rfl; kernel_rfl; kernel_rfl; (focus (refine Or.inl ⟨by rfl, ?_⟩; intro w' hSw; (try dsimp only at hSw); go_simp)); exact hH) | (refine wpAnyH_take (i := 15) (v := ?_) rfl ?_ ?_ ?_ (fun _ _ _ h => h) ?_ ?_ ?_; rotate_left; kernel_rfl; kernel_rfl; kernel_rfl; (focus (refine Or.inl ⟨by rfl, ?_⟩; intro w' hSw; (try dsimp only at hSw); go_simp; with_reducible rfl)); exact hH)
            try simp only [Act.put, List.getElem_toArray, List.getElem_cons_succ, List.getElem_cons_zero, List.setIfInBounds_toArray, List.set_cons_zero, List.set_cons_succ]
            first | (refine wpAnyH_take (i := 16) (v := undef) rfl ?_ ?_ ?_ (fun _ _ _ h => h) ?_ ?_ ?_; kernel_rfl; kernel_rfl; kernel_rfl; exact Or.inr ⟨by rfl, rfl⟩; exact hH) | (refine wpAnyH_take (i := 16) (v := ?_) rfl ?_ ?_ ?_ (fun _ _ _ h => h) ?_ ?_ ?_; rotate_left; kernel_rfl; kernel_rfl; kernel_rfl; (focus (refine Or.inl ⟨by rfl, ?_⟩; intro w' hSw; (try dsimp only at hSw); go_simp)); exact hH) | (refine wpAnyH_take (i := 16) (v := ?_) rfl ?_ ?_ ?_ (fun _ _ _ h => h) ?_ ?_ ?_; rotate_left; kernel_rfl; kernel_rfl; kernel_rfl; (focus (refine Or.inl ⟨by rfl, ?_⟩; intro w' hSw; (try dsimp only at hSw); go_simp; with_reducible rfl)); exact hH)
            try simp only [Act.put, List.getElem_toArray, List.getElem_cons_succ, List.getElem_cons_zero, List.setIfInBounds_toArray, List.set_cons_zero, List.set_cons_succ]
            first | (refine wpAnyH_take (i := 17) (v := undef) rfl ?_ ?_ ?_ (fun _ _ _ h => h) ?_ ?_ ?_; kernel_rfl; kernel_rfl; kernel_rfl; exact Or.inr ⟨by rfl, rfl⟩; exact hH) | (refine wpAnyH_take (i := 17) (v := ?_) rfl ?_ ?_ ?_ (fun _ _ _ h => h) ?_ ?_ ?_; rotate_left; kernel_rfl; kernel_rfl; kernel_rfl; (focus (refine Or.inl ⟨by rfl, ?_⟩; intro w' hSw; (try dsimp only at hSw); go_simp)); exact hH) | (refine wpAnyH_take (i := 17) (v := ?_) rfl ?_ ?_ ?_ (fun _ _ _ h => h) ?_ ?_ ?_; rotate_left; kernel_rfl; kernel_rfl; kernel_rfl; (focus (refine Or.inl ⟨by rfl, ?_⟩; intro w' hSw; (try dsimp only at hSw); go_simp; with_reducible rfl)); exact hH)
            try simp only [Act.put, List.getElem_toArray, List.getElem_cons_succ, List.getElem_cons_zero, List.setIfInBounds_toArray, List.set_cons_zero, List.set_cons_succ]
            first | (refine wpAnyH_take (i := 18) (v := undef) rfl ?_ ?_ ?_ (fun _ _ _ h => h) ?_ ?_ ?_; kernel_rfl; kernel_rfl; kernel_rfl; exact Or.inr ⟨by rfl, rfl⟩; exact hH) | (refine wpAnyH_take (i := 18) (v := ?_) rfl ?_ ?_ ?_ (fun _ _ _ h => h) ?_ ?_ ?_; rotate_left; kernel_rfl; kernel_rfl; kernel_rfl; (focus (refine Or.inl ⟨by rfl, ?_⟩; intro w' hSw; (try dsimp only at hSw); go_simp)); exact hH) | (refine wpAnyH_take (i := 18) (v := ?_) rfl ?_ ?_ ?_ (fun _ _ _ h => h) ?_ ?_ ?_; rotate_left; kernel_rfl; kernel_rfl; kernel_rfl; (focus (refine Or.inl ⟨by rfl, ?_⟩; intro w' hSw; (try dsimp only at hSw); go_simp; with_reducible rfl)); exact hH)
            try simp only [Act.put, List.getElem_toArray, List.getElem_cons_succ, List.getElem_cons_zero, List.setIfInBounds_toArray, List.set_cons_zero, List.set_cons_succ]
            first | (refine wpAnyH_take (i := 19) (v := undef) rfl ?_ ?_ ?_ (fun _ _ _ h => h) ?_ ?_ ?_; kernel_rfl; kernel_rfl; kernel_rfl; exact Or.inr ⟨by rfl, rfl⟩; exact hH) | (refine wpAnyH_take (i := 19) (v := ?_) rfl ?_ ?_ ?_ (fun _ _ _ h => h) ?_ ?_ ?_; rotate_left; kernel_rfl; kernel_rfl; kernel_rfl; (focus (refine Or.inl ⟨by rfl, ?_⟩; intro w' hSw; (try dsimp only at hSw); go_simp)); exact hH) | (refine wpAnyH_take (i := 19) (v := ?_) rfl ?_ ?_ ?_ (fun _ _ _ h => h) ?_ ?_ ?_; rotate_left; kernel_rfl; kernel_rfl; kernel_rfl; (focus (refine Or.inl ⟨by rfl, ?_⟩; intro w' hSw; (try dsimp only at hSw); go_simp; with_reducible rfl)); exact hH)
            try simp only [Act.put, List.getElem_toArray, List.getElem_cons_succ, List.getElem_cons_zero, List.setIfInBounds_toArray, List.set_cons_zero, List.set_cons_succ]
            refine wpAnyH_ready (rs := [13]) (by kernel_rfl) (by simp) ?_
            refine (AllReadyH.cons rfl (fun K hK => ?_) AllReadyH.nil)
            go_simp
            with_reducible refine (HA.out _ (HQi.out.next hH.2)).mono ?_
            rintro e w1 ⟨rfl, hb1'⟩
            have hb1 : Below (wi.heap.size) wi w1 := below_next hH.2 hb1'
            try go_wp2_with fail
            refine hK.out _ _ (KP2.out _ hb1) (fun hH1 => ?_)
            clear hK K hH
            have hH := hH1
            clear hH1
            try simp only [Act.put, List.getElem_toArray, List.getElem_cons_succ, List.getElem_cons_zero, List.setIfInBounds_toArray, List.set_cons_zero, List.set_cons_succ]
            refine wpAnyH_ready (rs := [20]) (by kernel_rfl) (by simp) ?_
            refine (AllReadyH.cons rfl (fun K hK => ?_) AllReadyH.nil)
            go_simp
            with_reducible refine (HK.out _ (HQi.out.next hH.2)).mono ?_
            rintro e w2 ⟨rfl, hb2'⟩
            have hb2 : Below (wi.heap.size) wi w2 := below_next hH.2 hb2'
            try go_wp2_with fail
            refine hK.out _ _ (KP2.out _ hb2) (fun hH2 => ?_)
            clear hK K hH
            have hH := hH2
            clear hH2
            try simp only [Act.put, List.getElem_toArray, List.getElem_cons_succ, List.getElem_cons_zero, List.setIfInBounds_toArray, List.set_cons_zero, List.set_cons_succ]
            refine wpAnyH_ready (rs := [21]) (by kernel_rfl) (by simp) ?_
            refine (AllReadyH.cons rfl (fun K hK => ?_) AllReadyH.nil)
            go_simp
            with_reducible refine (CM.out _).mono ?_
            rintro e w3 ⟨rfl, hb3'⟩
            have hb3 : Below (wi.heap.size) wi w3 := below_next hH.2 hb3'
            try go_wp2_with fail
            refine hK.out _ _ (KP2.out _ hb3) (fun hH3 => ?_)
            clear hK K hH
            have hH := hH3
            clear hH3
            try simp only [Act.put, List.getElem_toArray, List.getElem_cons_succ, List.getElem_cons_zero, List.setIfInBounds_toArray, List.set_cons_zero, List.set_cons_succ]
            first | (refine wpAnyH_take (i := 22) (v := undef) rfl ?_ ?_ ?_ (fun _ _ _ h => h) ?_ ?_ ?_; kernel_rfl; kernel_rfl; kernel_rfl; exact Or.inr ⟨by rfl, rfl⟩; exact hH) | (refine wpAnyH_take (i := 22) (v := ?_) rfl ?_ ?_ ?_ (fun _ _ _ h => h) ?_ ?_ ?_; rotate_left; kernel_rfl; kernel_rfl; kernel_rfl; (focus (refine Or.inl ⟨by rfl, ?_⟩; intro w' hSw; (try dsimp only at hSw); go_simp)); exact hH) | (refine wpAnyH_take (i := 22) (v := ?_) rfl ?_ ?_ ?_ (fun _ _ _ h => h) ?_ ?_ ?_; rotate_left; kernel_rfl; kernel_rfl; kernel_rfl; (focus (refine Or.inl ⟨by rfl, ?_⟩; intro w' hSw; (try dsimp only at hSw); go_simp; with_reducible rfl)); exact hH)
            try simp only [Act.put, List.getElem_toArray, List.getElem_cons_succ, List.getElem_cons_zero, List.setIfInBounds_toArray, List.set_cons_zero, List.set_cons_succ]
            first | (refine wpAnyH_take (i := 23) (v := undef) rfl ?_ ?_ ?_ (fun _ _ _ h => h) ?_ ?_ ?_; kernel_rfl; kernel_rfl; kernel_rfl; exact Or.inr ⟨by rfl, rfl⟩; exact hH) | (refine wpAnyH_take (i := 23) (v := ?_) rfl ?_ ?_ ?_ (fun _ _ _ h => h) ?_ ?_ ?_; rotate_left; kernel_rfl; kernel_rfl; kernel_rfl; (focus (refine Or.inl ⟨by rfl, ?_⟩; intro w' hSw; (try dsimp only at hSw); go_simp)); exact hH) | (refine wpAnyH_take (i := 23) (v := ?_) rfl ?_ ?_ ?_ (fun _ _ _ h => h) ?_ ?_ ?_; rotate_left; kernel_rfl; kernel_rfl; kernel_rfl; (focus (refine Or.inl ⟨by rfl, ?_⟩; intro w' hSw; (try dsimp only at hSw); go_simp; with_reducible rfl)); exact hH)
            try simp only [Act.put, List.getElem_toArray, List.getElem_cons_succ, List.getElem_cons_zero, List.setIfInBounds_toArray, List.set_cons_zero, List.set_cons_succ]
            refine wpAnyH_done (by kernel_rfl) ?_ _
            refine NoPanic.normal ?_
            clear hH
            have hbG := hb3
            clear KP2
            cases rb with
            | true =>
              have hle : sHas F L R x' (kx, ky) ≤ sHas F L R x' (cx, cy) := by
                rcases HC1.out with h | h
                · exact h.2
                · cases h.1
              have HP3 := Lib.hid ((pop_on hle).symm.trans HP.out)
              have HB3 := Lib.hid hbG
              clear hle hbG
              have hmc : m' ≤ c2 := by have := HCAP.out; omega
              have hmc0 : c2 ≠ 0 := by have := HCAP.out; omega
              go_upto_region 10 with (fail)
              go_wp2_with fail
              go_roundg m'
              case rel => exact ⟨m', P', HM'.out, rfl, by have := HM1.out; omega, by first | rfl | go_num, HP3.out, fun c hc => HPB.out c (List.mem_cons_of_mem _ hc), (OwnK.strike HO2.out (by simp [HM'.out])).next HB3.out, below_next HBW.out HB3.out, Blk.next HBX.out HB3.out⟩
              case measure => omega
            | false =>
              have hle : ¬ sHas F L R x' (kx, ky) ≤ sHas F L R x' (cx, cy) := by
                rcases HC1.out with h | h
                · exact absurd h.1 (by simp)
                · have := h.2
                  omega
              have HP3 := Lib.hid ((pop_off hle).symm.trans HP.out)
              have HB3 := Lib.hid hbG
              have HQ3 := Lib.hid (HQi.out.next hbG)
              have HBX3 := Lib.hid (Blk.next HBX.out hbG)
              have HS3 := Lib.hid ((hbG.cell (p := ⟨g2, m' * 2, none⟩) HL2.out).trans HS0.out)
              have HS4 := Lib.hid ((hbG.cell (p := ⟨g2, m' * 2 + 1, none⟩) HL2.out).trans HS1.out)
              have HL3 := Lib.hid (Nat.lt_of_lt_of_le HL2.out hbG.size)
              have HBW3 := Lib.hid (below_next HBW.out hbG)
              clear hle hbG
              have KP3 : Hid (∀ w', Below (w3.heap.size) w3 w' → (w'.cell? ⟨q, 5, none⟩ = some (.int .u64 x') ∧ w'.cell? ⟨g2, m' * 2, none⟩ = some (.int .u64 cx) ∧ w'.cell? ⟨g2, m' * 2 + 1, none⟩ = some (.int .u64 cy) ∧ w'.cell? ⟨wo.heap.size, 0, none⟩ = some (.int .u64 kx) ∧ w'.cell? ⟨wo.heap.size, 1, none⟩ = some (.int .u64 ky)) ∧ Below (w3.heap.size) w3 w') := fun w' hb => ⟨⟨((Blk.next HQ3.out hb).get 5 rfl), ((hb.cell (p := ⟨g2, m' * 2, none⟩) HL3.out).trans HS3.out), ((hb.cell (p := ⟨g2, m' * 2 + 1, none⟩) HL3.out).trans HS4.out), ((Blk.next HBX3.out hb).get 0 rfl), ((Blk.next HBX3.out hb).get 1 rfl)⟩, hb⟩
              go_upto_region 12 with (fail)
              refine wp_region_noPanic ?_
              refine wp_region_held_drew (S := fun w' => (w'.cell? ⟨q, 5, none⟩ = some (.int .u64 x') ∧ w'.cell? ⟨g2, m' * 2, none⟩ = some (.int .u64 cx) ∧ w'.cell? ⟨g2, m' * 2 + 1, none⟩ = some (.int .u64 cy) ∧ w'.cell? ⟨wo.heap.size, 0, none⟩ = some (.int .u64 kx) ∧ w'.cell? ⟨wo.heap.size, 1, none⟩ = some (.int .u64 ky)) ∧ Below (w3.heap.size) w3 w') (by kernel_rfl) (KP3.out _ (below_of_drew ((Below.refl w3.heap.size w3)))) (fun hH => ?_)
              have hbR := below_of_drew ((Below.refl w3.heap.size w3))
              first | (refine wpAnyH_take (i := 0) (v := undef) rfl ?_ ?_ ?_ (fun _ _ _ h => h) ?_ ?_ ?_; kernel_rfl; kernel_rfl; kernel_rfl; exact Or.inr ⟨by rfl, rfl⟩; exact hH) | (refine wpAnyH_take (i := 0) (v := ?_) rfl ?_ ?_ ?_ (fun _ _ _ h => h) ?_ ?_ ?_; rotate_left; kernel_rfl; kernel_rfl; kernel_rfl; (focus (refine Or.inl ⟨by rfl, ?_⟩; intro w' hSw; (try dsimp only at hSw); go_simp)); exact hH) | (refine wpAnyH_take (i := 0) (v := ?_) rfl ?_ ?_ ?_ (fun _ _ _ h => h) ?_ ?_ ?_; rotate_left; kernel_rfl; kernel_rfl; kernel_rfl; (focus (refine Or.inl ⟨by rfl, ?_⟩; intro w' hSw; (try dsimp only at hSw); go_simp; with_reducible rfl)); exact hH)
              try simp only [Act.put, List.getElem_toArray, List.getElem_cons_succ, List.getElem_cons_zero, List.setIfInBounds_toArray, List.set_cons_zero, List.set_cons_succ]
              first | (refine wpAnyH_take (i := 1) (v := undef) rfl ?_ ?_ ?_ (fun _ _ _ h => h) ?_ ?_ ?_; kernel_rfl; kernel_rfl; kernel_rfl; exact Or.inr ⟨by rfl, rfl⟩; exact hH) | (refine wpAnyH_take (i := 1) (v := ?_) rfl ?_ ?_ ?_ (fun _ _ _ h => h) ?_ ?_ ?_; rotate_left; kernel_rfl; kernel_rfl; kernel_rfl; (focus (refine Or.inl ⟨by rfl, ?_⟩; intro w' hSw; (try dsimp only at hSw); go_simp)); exact hH) | (refine wpAnyH_take (i := 1) (v := ?_) rfl ?_ ?_ ?_ (fun _ _ _ h => h) ?_ ?_ ?_; rotate_left; kernel_rfl; kernel_rfl; kernel_rfl; (focus (refine Or.inl ⟨by rfl, ?_⟩; intro w' hSw; (try dsimp only at hSw); go_simp; with_reducible rfl)); exact hH)
              try simp only [Act.put, List.getElem_toArray, List.getElem_cons_succ, List.getElem_cons_zero, List.setIfInBounds_toArray, List.set_cons_zero, List.set_cons_succ]
              first | (refine wpAnyH_take (i := 2) (v := undef) rfl ?_ ?_ ?_ (fun _ _ _ h => h) ?_ ?_ ?_; kernel_rfl; kernel_rfl; kernel_rfl; exact Or.inr ⟨by rfl, rfl⟩; exact hH) | (refine wpAnyH_take (i := 2) (v := ?_) rfl ?_ ?_ ?_ (fun _ _ _ h => h) ?_ ?_ ?_; rotate_left; kernel_rfl; kernel_rfl; kernel_rfl; (focus (refine Or.inl ⟨by rfl, ?_⟩; intro w' hSw; (try dsimp only at hSw); go_simp)); exact hH) | (refine wpAnyH_take (i := 2) (v := ?_) rfl ?_ ?_ ?_ (fun _ _ _ h => h) ?_ ?_ ?_; rotate_left; kernel_rfl; kernel_rfl; kernel_rfl; (focus (refine Or.inl ⟨by rfl, ?_⟩; intro w' hSw; (try dsimp only at hSw); go_simp; with_reducible rfl)); exact hH)
              try simp only [Act.put, List.getElem_toArray, List.getElem_cons_succ, List.getElem_cons_zero, List.setIfInBounds_toArray, List.set_cons_zero, List.set_cons_succ]
              first | (refine wpAnyH_take (i := 3) (v := undef) rfl ?_ ?_ ?_ (fun _ _ _ h => h) ?_ ?_ ?_; kernel_rfl; kernel_rfl; kernel_rfl; exact Or.inr ⟨by rfl, rfl⟩; exact hH) | (refine wpAnyH_take (i := 3) (v := ?_) rfl ?_ ?_ ?_ (fun _ _ _ h => h) ?_ ?_ ?_; rotate_left; kernel_rfl; kernel_rfl; kernel_rfl; (focus (refine Or.inl ⟨by rfl, ?_⟩; intro w' hSw; (try dsimp only at hSw); go_simp)); exact hH) | (refine wpAnyH_take (i := 3) (v := ?_) rfl ?_ ?_ ?_ (fun _ _ _ h => h) ?_ ?_ ?_; rotate_left; kernel_rfl; kernel_rfl; kernel_rfl; (focus (refine Or.inl ⟨by rfl, ?_⟩; intro w' hSw; (try dsimp only at hSw); go_simp; with_reducible rfl)); exact hH)
              try simp only [Act.put, List.getElem_toArray, List.getElem_cons_succ, List.getElem_cons_zero, List.setIfInBounds_toArray, List.set_cons_zero, List.set_cons_succ]
              first | (refine wpAnyH_take (i := 4) (v := undef) rfl ?_ ?_ ?_ (fun _ _ _ h => h) ?_ ?_ ?_; kernel_rfl; kernel_rfl; kernel_rfl; exact Or.inr ⟨by rfl, rfl⟩; exact hH) | (refine wpAnyH_take (i := 4) (v := ?_) rfl ?_ ?_ ?_ (fun _ _ _ h => h) ?_ ?_ ?_; rotate_left; kernel_rfl; kernel_rfl; kernel_rfl; (focus (refine Or.inl ⟨by rfl, ?_⟩; intro w' hSw; (try dsimp only at hSw); go_simp)); exact hH) | (refine wpAnyH_take (i := 4) (v := ?_) rfl ?_ ?_ ?_ (fun _ _ _ h => h) ?_ ?_ ?_; rotate_left; kernel_rfl; kernel_rfl; kernel_rfl; (focus (refine Or.inl ⟨by rfl, ?_⟩; intro w' hSw; (try dsimp only at hSw); go_simp; with_reducible rfl)); exact hH)
              try simp only [Act.put, List.getElem_toArray, List.getElem_cons_succ, List.getElem_cons_zero, List.setIfInBounds_toArray, List.set_cons_zero, List.set_cons_succ]
              first | (refine wpAnyH_take (i := 5) (v := undef) rfl ?_ ?_ ?_ (fun _ _ _ h => h) ?_ ?_ ?_; kernel_rfl; kernel_rfl; kernel_rfl; exact Or.inr ⟨by rfl, rfl⟩; exact hH) | (refine wpAnyH_take (i := 5) (v := ?_) rfl ?_ ?_ ?_ (fun _ _ _ h => h) ?_ ?_ ?_; rotate_left; kernel_rfl; kernel_rfl; kernel_rfl; (focus (refine Or.inl ⟨by rfl, ?_⟩; intro w' hSw; (try dsimp only at hSw); go_simp)); exact hH) | (refine wpAnyH_take (i := 5) (v := ?_) rfl ?_ ?_ ?_ (fun _ _ _ h => h) ?_ ?_ ?_; rotate_left; kernel_rfl; kernel_rfl; kernel_rfl; (focus (refine Or.inl ⟨by rfl, ?_⟩; intro w' hSw; (try dsimp only at hSw); go_simp; with_reducible rfl)); exact hH)
              try simp only [Act.put, List.getElem_toArray, List.getElem_cons_succ, List.getElem_cons_zero, List.setIfInBounds_toArray, List.set_cons_zero, List.set_cons_succ]
              first | (refine wpAnyH_take (i := 6) (v := undef) rfl ?_ ?_ ?_ (fun _ _ _ h => h) ?_ ?_ ?_; kernel_rfl; kernel_rfl; kernel_rfl; exact Or.inr ⟨by rfl, rfl⟩; exact hH) | (refine wpAnyH_take (i := 6) (v := ?_) rfl ?_ ?_ ?_ (fun _ _ _ h => h) ?_ ?_ ?_; rotate_left; kernel_rfl; kernel_rfl; kernel_rfl; (focus (refine Or.inl ⟨by rfl, ?_⟩; intro w' hSw; (try dsimp only at hSw); go_simp)); exact hH) | (refine wpAnyH_take (i := 6) (v := ?_) rfl ?_ ?_ ?_ (fun _ _ _ h => h) ?_ ?_ ?_; rotate_left; kernel_rfl; kernel_rfl; kernel_rfl; (focus (refine Or.inl ⟨by rfl, ?_⟩; intro w' hSw; (try dsimp only at hSw); go_simp; with_reducible rfl)); exact hH)
              try simp only [Act.put, List.getElem_toArray, List.getElem_cons_succ, List.getElem_cons_zero, List.setIfInBounds_toArray, List.set_cons_zero, List.set_cons_succ]
              first | (refine wpAnyH_take (i := 7) (v := undef) rfl ?_ ?_ ?_ (fun _ _ _ h => h) ?_ ?_ ?_; kernel_rfl; kernel_rfl; kernel_rfl; exact Or.inr ⟨by rfl, rfl⟩; exact hH) | (refine wpAnyH_take (i := 7) (v := ?_) rfl ?_ ?_ ?_ (fun _ _ _ h => h) ?_ ?_ ?_; rotate_left; kernel_rfl; kernel_rfl; kernel_rfl; (focus (refine Or.inl ⟨by rfl, ?_⟩; intro w' hSw; (try dsimp only at hSw); go_simp)); exact hH) | (refine wpAnyH_take (i := 7) (v := ?_) rfl ?_ ?_ ?_ (fun _ _ _ h => h) ?_ ?_ ?_; rotate_left; kernel_rfl; kernel_rfl; kernel_rfl; (focus (refine Or.inl ⟨by rfl, ?_⟩; intro w' hSw; (try dsimp only at hSw); go_simp; with_reducible rfl)); exact hH)
              try simp only [Act.put, List.getElem_toArray, List.getElem_cons_succ, List.getElem_cons_zero, List.setIfInBounds_toArray, List.set_cons_zero, List.set_cons_succ]
              first | (refine wpAnyH_take (i := 8) (v := undef) rfl ?_ ?_ ?_ (fun _ _ _ h => h) ?_ ?_ ?_; kernel_rfl; kernel_rfl; kernel_rfl; exact Or.inr ⟨by rfl, rfl⟩; exact hH) | (refine wpAnyH_take (i := 8) (v := ?_) rfl ?_ ?_ ?_ (fun _ _ _ h => h) ?_ ?_ ?_; rotate_left; kernel_rfl; kernel_rfl; kernel_rfl; (focus (refine Or.inl ⟨by rfl, ?_⟩; intro w' hSw; (try dsimp only at hSw); go_simp)); exact hH) | (refine wpAnyH_take (i := 8) (v := ?_) rfl ?_ ?_ ?_ (fun _ _ _ h => h) ?_ ?_ ?_; rotate_left; kernel_rfl; kernel_rfl; kernel_rfl; (focus (refine Or.inl ⟨by rfl, ?_⟩; intro w' hSw; (try dsimp only at hSw); go_simp; with_reducible rfl)); exact hH)
              try simp only [Act.put, List.getElem_toArray, List.getElem_cons_succ, List.getElem_cons_zero, List.setIfInBounds_toArray, List.set_cons_zero, List.set_cons_succ]
              first | (refine wpAnyH_take (i := 9) (v := undef) rfl ?_ ?_ ?_ (fun _ _ _ h => h) ?_ ?_ ?_; kernel_rfl; kernel_rfl; kernel_rfl; exact Or.inr ⟨by rfl, rfl⟩; exact hH) | (refine wpAnyH_take (i := 9) (v := ?_) rfl ?_ ?_ ?_ (fun _ _ _ h => h) ?_ ?_ ?_; rotate_left; kernel_rfl; kernel_rfl; kernel_rfl; (focus (refine Or.inl ⟨by rfl, ?_⟩; intro w' hSw; (try dsimp only at hSw); go_simp)); exact hH) | (refine wpAnyH_take (i := 9) (v := ?_) rfl ?_ ?_ ?_ (fun _ _ _ h => h) ?_ ?_ ?_; rotate_left; kernel_rfl; kernel_rfl; kernel_rfl; (focus (refine Or.inl ⟨by rfl, ?_⟩; intro w' hSw; (try dsimp only at hSw); go_simp; with_reducible rfl)); exact hH)
              try simp only [Act.put, List.getElem_toArray, List.getElem_cons_succ, List.getElem_cons_zero, List.setIfInBounds_toArray, List.set_cons_zero, List.set_cons_succ]
              first | (refine wpAnyH_take (i := 10) (v := undef) rfl ?_ ?_ ?_ (fun _ _ _ h => h) ?_ ?_ ?_; kernel_rfl; kernel_rfl; kernel_rfl; exact Or.inr ⟨by rfl, rfl⟩; exact hH) | (refine wpAnyH_take (i := 10) (v := ?_) rfl ?_ ?_ ?_ (fun _ _ _ h => h) ?_ ?_ ?_; rotate_left; kernel_rfl; kernel_rfl; kernel_rfl; (focus (refine Or.inl ⟨by rfl, ?_⟩; intro w' hSw; (try dsimp only at hSw); go_simp)); exact hH) | (refine wpAnyH_take (i := 10) (v := ?_) rfl ?_ ?_ ?_ (fun _ _ _ h => h) ?_ ?_ ?_; rotate_left; kernel_rfl; kernel_rfl; kernel_rfl; (focus (refine Or.inl ⟨by rfl, ?_⟩; intro w' hSw; (try dsimp only at hSw); go_simp; with_reducible rfl)); exact hH)
              try simp only [Act.put, List.getElem_toArray, List.getElem_cons_succ, List.getElem_cons_zero, List.setIfInBounds_toArray, List.set_cons_zero, List.set_cons_succ]
              first | (refine wpAnyH_take (i := 11) (v := undef) rfl ?_ ?_ ?_ (fun _ _ _ h => h) ?_ ?_ ?_; kernel_rfl; kernel_rfl; kernel_rfl; exact Or.inr ⟨by rfl, rfl⟩; exact hH) | (refine wpAnyH_take (i := 11) (v := ?_) rfl ?_ ?_ ?_ (fun _ _ _ h => h) ?_ ?_ ?_; rotate_left; kernel_rfl; kernel_rfl; kernel_rfl; (focus (refine Or.inl ⟨by rfl, ?_⟩; intro w' hSw; (try dsimp only at hSw); go_simp)); exact hH) | (refine wpAnyH_take (i := 11) (v := ?_) rfl ?_ ?_ ?_ (fun _ _ _ h => h) ?_ ?_ ?_; rotate_left; kernel_rfl; kernel_rfl; kernel_rfl; (focus (refine Or.inl ⟨by rfl, ?_⟩; intro w' hSw; (try dsimp only at hSw); go_simp; with_reducible rfl)); exact hH)
              try simp only [Act.put, List.getElem_toArray, List.getElem_cons_succ, List.getElem_cons_zero, List.setIfInBounds_toArray, List.set_cons_zero, List.set_cons_succ]
              first | (refine wpAnyH_take (i := 12) (v := undef) rfl ?_ ?_ ?_ (fun _ _ _ h => h) ?_ ?_ ?_; kernel_rfl; kernel_rfl; kernel_rfl; exact Or.inr ⟨by rfl, rfl⟩; exact hH) | (refine wpAnyH_take (i := 12) (v := ?_) rfl ?_ ?_ ?_ (fun _ _ _ h => h) ?_ ?_ ?_; rotate_left; kernel_rfl; kernel_rfl; kernel_rfl; (focus (refine Or.inl ⟨by rfl, ?_⟩; intro w' hSw; (try dsimp only at hSw); go_simp)); exact hH) | (refine wpAnyH_take (i := 12) (v := ?_) rfl ?_ ?_ ?_ (fun _ _ _ h => h) ?_ ?_ ?_; rotate_left; kernel_rfl; kernel_rfl; kernel_rfl; (focus (refine Or.inl ⟨by rfl, ?_⟩; intro w' hSw; (try dsimp only at hSw); go_simp; with_reducible rfl)); exact hH)
              try simp only [Act.put, List.getElem_toArray, List.getElem_cons_succ, List.getElem_cons_zero, List.setIfInBounds_toArray, List.set_cons_zero, List.set_cons_succ]
              first | (refine wpAnyH_take (i := 14) (v := undef) rfl ?_ ?_ ?_ (fun _ _ _ h => h) ?_ ?_ ?_; kernel_rfl; kernel_rfl; kernel_rfl; exact Or.inr ⟨by rfl, rfl⟩; exact hH) | (refine wpAnyH_take (i := 14) (v := ?_) rfl ?_ ?_ ?_ (fun _ _ _ h => h) ?_ ?_ ?_; rotate_left; kernel_rfl; kernel_rfl; kernel_rfl; (focus (refine Or.inl ⟨by rfl, ?_⟩; intro w' hSw; (try dsimp only at hSw); go_simp)); exact hH) | (refine wpAnyH_take (i := 14) (v := ?_) rfl ?_ ?_ ?_ (fun _ _ _ h => h) ?_ ?_ ?_; rotate_left; kernel_rfl; kernel_rfl; kernel_rfl; (focus (refine Or.inl ⟨by rfl, ?_⟩; intro w' hSw; (try dsimp only at hSw); go_simp; with_reducible rfl)); exact hH)
              try simp only [Act.put, List.getElem_toArray, List.getElem_cons_succ, List.getElem_cons_zero, List.setIfInBounds_toArray, List.set_cons_zero, List.set_cons_succ]
              first | (refine wpAnyH_take (i := 15) (v := undef) rfl ?_ ?_ ?_ (fun _ _ _ h => h) ?_ ?_ ?_; kernel_rfl; kernel_rfl; kernel_rfl; exact Or.inr ⟨by rfl, rfl⟩; exact hH) | (refine wpAnyH_take (i := 15) (v := ?_) rfl ?_ ?_ ?_ (fun _ _ _ h => h) ?_ ?_ ?_; rotate_left; kernel_rfl; kernel_rfl; kernel_rfl; (focus (refine Or.inl ⟨by rfl, ?_⟩; intro w' hSw; (try dsimp only at hSw); go_simp)); exact hH) | (refine wpAnyH_take (i := 15) (v := ?_) rfl ?_ ?_ ?_ (fun _ _ _ h => h) ?_ ?_ ?_; rotate_left; kernel_rfl; kernel_rfl; kernel_rfl; (focus (refine Or.inl ⟨by rfl, ?_⟩; intro w' hSw; (try dsimp only at hSw); go_simp; with_reducible rfl)); exact hH)
              try simp only [Act.put, List.getElem_toArray, List.getElem_cons_succ, List.getElem_cons_zero, List.setIfInBounds_toArray, List.set_cons_zero, List.set_cons_succ]
              first | (refine wpAnyH_take (i := 16) (v := undef) rfl ?_ ?_ ?_ (fun _ _ _ h => h) ?_ ?_ ?_; kernel_rfl; kernel_rfl; kernel_rfl; exact Or.inr ⟨by rfl, rfl⟩; exact hH) | (refine wpAnyH_take (i := 16) (v := ?_) rfl ?_ ?_ ?_ (fun _ _ _ h => h) ?_ ?_ ?_; rotate_left; kernel_rfl; kernel_rfl; kernel_rfl; (focus (refine Or.inl ⟨by rfl, ?_⟩; intro w' hSw; (try dsimp only at hSw); go_simp)); exact hH) | (refine wpAnyH_take (i := 16) (v := ?_) rfl ?_ ?_ ?_ (fun _ _ _ h => h) ?_ ?_ ?_; rotate_left; kernel_rfl; kernel_rfl; kernel_rfl; (focus (refine Or.inl ⟨by rfl, ?_⟩; intro w' hSw; (try dsimp only at hSw); go_simp; with_reducible rfl)); exact hH)
              try simp only [Act.put, List.getElem_toArray, List.getElem_cons_succ, List.getElem_cons_zero, List.setIfInBounds_toArray, List.set_cons_zero, List.set_cons_succ]
              first | (refine wpAnyH_take (i := 17) (v := undef) rfl ?_ ?_ ?_ (fun _ _ _ h => h) ?_ ?_ ?_; kernel_rfl; kernel_rfl; kernel_rfl; exact Or.inr ⟨by rfl, rfl⟩; exact hH) | (refine wpAnyH_take (i := 17) (v := ?_) rfl ?_ ?_ ?_ (fun _ _ _ h => h) ?_ ?_ ?_; rotate_left; kernel_rfl; kernel_rfl; kernel_rfl; (focus (refine Or.inl ⟨by rfl, ?_⟩; intro w' hSw; (try dsimp only at hSw); go_simp)); exact hH) | (refine wpAnyH_take (i := 17) (v := ?_) rfl ?_ ?_ ?_ (fun _ _ _ h => h) ?_ ?_ ?_; rotate_left; kernel_rfl; kernel_rfl; kernel_rfl; (focus (refine Or.inl ⟨by rfl, ?_⟩; intro w' hSw; (try dsimp only at hSw); go_simp; with_reducible rfl)); exact hH)
              try simp only [Act.put, List.getElem_toArray, List.getElem_cons_succ, List.getElem_cons_zero, List.setIfInBounds_toArray, List.set_cons_zero, List.set_cons_succ]
              first | (refine wpAnyH_take (i := 18) (v := undef) rfl ?_ ?_ ?_ (fun _ _ _ h => h) ?_ ?_ ?_; kernel_rfl; kernel_rfl; kernel_rfl; exact Or.inr ⟨by rfl, rfl⟩; exact hH) | (refine wpAnyH_take (i := 18) (v := ?_) rfl ?_ ?_ ?_ (fun _ _ _ h => h) ?_ ?_ ?_; rotate_left; kernel_rfl; kernel_rfl; kernel_rfl; (focus (refine Or.inl ⟨by rfl, ?_⟩; intro w' hSw; (try dsimp only at hSw); go_simp)); exact hH) | (refine wpAnyH_take (i := 18) (v := ?_) rfl ?_ ?_ ?_ (fun _ _ _ h => h) ?_ ?_ ?_; rotate_left; kernel_rfl; kernel_rfl; kernel_rfl; (focus (refine Or.inl ⟨by rfl, ?_⟩; intro w' hSw; (try dsimp only at hSw); go_simp; with_reducible rfl)); exact hH)
              try simp only [Act.put, List.getElem_toArray, List.getElem_cons_succ, List.getElem_cons_zero, List.setIfInBounds_toArray, List.set_cons_zero, List.set_cons_succ]
              first | (refine wpAnyH_take (i := 19) (v := undef) rfl ?_ ?_ ?_ (fun _ _ _ h => h) ?_ ?_ ?_; kernel_rfl; kernel_rfl; kernel_rfl; exact Or.inr ⟨by rfl, rfl⟩; exact hH) | (refine wpAnyH_take (i := 19) (v := ?_) rfl ?_ ?_ ?_ (fun _ _ _ h => h) ?_ ?_ ?_; rotate_left; kernel_rfl; kernel_rfl; kernel_rfl; (focus (refine Or.inl ⟨by rfl, ?_⟩; intro w' hSw; (try dsimp only at hSw); go_simp)); exact hH) | (refine wpAnyH_take (i := 19) (v := ?_) rfl ?_ ?_ ?_ (fun _ _ _ h => h) ?_ ?_ ?_; rotate_left; kernel_rfl; kernel_rfl; kernel_rfl; (focus (refine Or.inl ⟨by rfl, ?_⟩; intro w' hSw; (try dsimp only at hSw); go_simp; with_reducible rfl)); exact hH)
              try simp only [Act.put, List.getElem_toArray, List.getElem_cons_succ, List.getElem_cons_zero, List.setIfInBounds_toArray, List.set_cons_zero, List.set_cons_succ]
              refine wpAnyH_ready (rs := [13]) (by kernel_rfl) (by simp) ?_
              refine (AllReadyH.cons rfl (fun K hK => ?_) AllReadyH.nil)
              go_simp
              with_reducible refine (HLA.out _ (HQ3.out.next hH.2)).mono ?_
              rintro e w4 ⟨rfl, hb4'⟩
              have hb4 : Below (w3.heap.size) w3 w4 := below_next hH.2 hb4'
              try go_wp2_with fail
              refine hK.out _ _ (KP3.out _ hb4) (fun hH4 => ?_)
              clear hK K hH
              have hH := hH4
              clear hH4
              try simp only [Act.put, List.getElem_toArray, List.getElem_cons_succ, List.getElem_cons_zero, List.setIfInBounds_toArray, List.set_cons_zero, List.set_cons_succ]
              refine wpAnyH_ready (rs := [20]) (by kernel_rfl) (by simp) ?_
              refine (AllReadyH.cons rfl (fun K hK => ?_) AllReadyH.nil)
              go_simp
              with_reducible refine (HLK.out _ (HQ3.out.next hH.2)).mono ?_
              rintro e w5 ⟨rfl, hb5'⟩
              have hb5 : Below (w3.heap.size) w3 w5 := below_next hH.2 hb5'
              try go_wp2_with fail
              refine hK.out _ _ (KP3.out _ hb5) (fun hH5 => ?_)
              clear hK K hH
              have hH := hH5
              clear hH5
              try simp only [Act.put, List.getElem_toArray, List.getElem_cons_succ, List.getElem_cons_zero, List.setIfInBounds_toArray, List.set_cons_zero, List.set_cons_succ]
              refine wpAnyH_ready (rs := [21]) (by kernel_rfl) (by simp) ?_
              refine (AllReadyH.cons rfl (fun K hK => ?_) AllReadyH.nil)
              go_simp
              with_reducible refine (CM2.out _).mono ?_
              rintro e w6 ⟨rfl, hb6'⟩
              have hb6 : Below (w3.heap.size) w3 w6 := below_next hH.2 hb6'
              try go_wp2_with fail
              refine hK.out _ _ (KP3.out _ hb6) (fun hH6 => ?_)
              clear hK K hH
              have hH := hH6
              clear hH6
              try simp only [Act.put, List.getElem_toArray, List.getElem_cons_succ, List.getElem_cons_zero, List.setIfInBounds_toArray, List.set_cons_zero, List.set_cons_succ]
              first | (refine wpAnyH_take (i := 22) (v := undef) rfl ?_ ?_ ?_ (fun _ _ _ h => h) ?_ ?_ ?_; kernel_rfl; kernel_rfl; kernel_rfl; exact Or.inr ⟨by rfl, rfl⟩; exact hH) | (refine wpAnyH_take (i := 22) (v := ?_) rfl ?_ ?_ ?_ (fun _ _ _ h => h) ?_ ?_ ?_; rotate_left; kernel_rfl; kernel_rfl; kernel_rfl; (focus (refine Or.inl ⟨by rfl, ?_⟩; intro w' hSw; (try dsimp only at hSw); go_simp)); exact hH) | (refine wpAnyH_take (i := 22) (v := ?_) rfl ?_ ?_ ?_ (fun _ _ _ h => h) ?_ ?_ ?_; rotate_left; kernel_rfl; kernel_rfl; kernel_rfl; (focus (refine Or.inl ⟨by rfl, ?_⟩; intro w' hSw; (try dsimp only at hSw); go_simp; with_reducible rfl)); exact hH)
              try simp only [Act.put, List.getElem_toArray, List.getElem_cons_succ, List.getElem_cons_zero, List.setIfInBounds_toArray, List.set_cons_zero, List.set_cons_succ]
              first | (refine wpAnyH_take (i := 23) (v := undef) rfl ?_ ?_ ?_ (fun _ _ _ h => h) ?_ ?_ ?_; kernel_rfl; kernel_rfl; kernel_rfl; exact Or.inr ⟨by rfl, rfl⟩; exact hH) | (refine wpAnyH_take (i := 23) (v := ?_) rfl ?_ ?_ ?_ (fun _ _ _ h => h) ?_ ?_ ?_; rotate_left; kernel_rfl; kernel_rfl; kernel_rfl; (focus (refine Or.inl ⟨by rfl, ?_⟩; intro w' hSw; (try dsimp only at hSw); go_simp)); exact hH) | (refine wpAnyH_take (i := 23) (v := ?_) rfl ?_ ?_ ?_ (fun _ _ _ h => h) ?_ ?_ ?_; rotate_left; kernel_rfl; kernel_rfl; kernel_rfl; (focus (refine Or.inl ⟨by rfl, ?_⟩; intro w' hSw; (try dsimp only at hSw); go_simp; with_reducible rfl)); exact hH)
              try simp only [Act.put, List.getElem_toArray, List.getElem_cons_succ, List.getElem_cons_zero, List.setIfInBounds_toArray, List.set_cons_zero, List.set_cons_succ]
              refine wpAnyH_done (by kernel_rfl) ?_ _
              refine NoPanic.normal ?_
              clear hH
              have hbG := hb6
              clear KP3
              have HO6 := Lib.hid ((HO.out.next HB3.out).next hbG)
              have HBW6 := Lib.hid (below_next HBW3.out hbG)
              have HBX6 := Lib.hid (Blk.next HBX3.out hbG)
              clear hbG
              cases rb2 with
              | true =>
                have hle : sLine R x' (cx, cy) ≤ sLine R x' (kx, ky) := by
                  rcases HC2.out with h | h
                  · exact h.2
                  · cases h.1
                have HPF := Lib.hid (push_keep HP3.out hle)
                clear hle
                go_wp2_with fail
                go_roundg gm
                case rel => exact ⟨i + 1, (cx, cy) :: P', by have := HI.out; omega, by first | rfl | go_num | (rw [e8]), fold_at HKI.out HOE.out HPF.out, HO6.out, HBW6.out⟩
                case measure => omega
              | false =>
                have hle : ¬ sLine R x' (cx, cy) ≤ sLine R x' (kx, ky) := by
                  rcases HC2.out with h | h
                  · exact absurd h.1 (by simp)
                  · have := h.2
                    omega
                have HPF := Lib.hid (push_put HP3.out hle)
                have HLEN2 := Lib.hid (show (P'.reverse ++ [(cx, cy)]).length = m' + 1 by simp [HM'.out])
                have HLEN := Lib.hid (show (((cx, cy) :: P').reverse).length = m' + 1 by simp [HM'.out])
                have x0 := HBX6.out.get 0 rfl
                have x1 := HBX6.out.get 1 rfl
                clear hle
                go_upto_region 13 with (fail)
                obtain ⟨i0, hi0, hz0, hz1, hz2⟩ := start_info
                go_wp2_with (at_builtin; refine wpList_append_own _ rfl (.tmp 114) (.tmp 116) 121 rfl wb.heap.size 192 i0 (.agg #[.int .u64 0, .int .u64 0]) 2 16 Tryz.underlying121 hi0 hz0 hz1 hz2 rfl (by decide) _ (m' + 1) (encK ((cx, cy) :: P').reverse) rfl (OwnK.alloc' HO6.out HLEN.out) ⟨w6.heap.size, 0, none⟩ 1 1 [.int .u64 kx, .int .u64 ky] rfl rfl ?c1 ?c2 (by unfold maxLen; have := HM1.out; omega) (by have := HM1.out; omega) ?c3 ?_)
                case c2 => simp [Value.oneCell']
                case c3 => exact Nat.le_succ_of_le HBW6.out.size
                intro v' w' hown' hgrow' _
                obtain ⟨ga, ca, -, hpush⟩ := OwnK.push (K := P'.reverse ++ [(cx, cy)]) (k := (kx, ky)) (by rw [HLEN2.out]; exact hown') rfl rfl
                have hb' : Below wb.heap.size wb w' := below_grown (HBW6.out.alloc HBW6.out.size _) hgrow' (Nat.le_trans HBW6.out.size ((Below.refl w6.heap.size w6).alloc (Nat.le_refl _) _).size) (fun k hk => (HO.out.lt k hk).1)
                have HPU := Lib.hid hpush
                have HBN := Lib.hid hb'
                clear hown' hgrow' hpush hb'
                go_wp2
                go_roundg gm
                case rel => exact ⟨i + 1, (kx, ky) :: (cx, cy) :: P', by have := HI.out; omega, by first | rfl | go_num | (rw [e8]), fold_at HKI.out HOE.out HPF.out, by rw [List.reverse_cons, List.reverse_cons]; exact HPU.out, HBN.out⟩
                case measure => omega
      · obtain rfl : go = 0 := by omega
        obtain rfl : i = N := by omega
        have hlt2 : ((i : Int) < (i : Int)) = False := by simp
        obtain ⟨A, c2, rfl⟩ := hown.len' (m := O.length) (by simp)
        have bq := Blk.below HQ.out (HB4.out.trans (hb.mono HB4.out.size)) HQ.out.lt
        have c6 : World.cell? wo ⟨q, 6, none⟩ = some kv := bq.get 6 rfl
        have f6 := bq.frozen 6
        have HBQ := Lib.hid bq
        have HOW := Lib.hid hown
        clear hO hown hb hlt bq hi
        go_wp2_with fail
        rw [Exit.noGoto_normal]
        first | go_ret | go_end0
        have hO := HOE.out
        rw [← HEN.out, List.take_length] at hO
        have hfr : Fr (fun k => k = q) w wo := HF3.out.then (Fr.of_belowAll (S := fun _ => False) (HB4.out.trans (HB.out.mono HB4.out.size))) (fun _ _ h => h.elim)
        have hq := HBQ.out.lt
        refine ⟨rfl, .slice A O.length c2, Blk.put HBQ.out 6 _, ?_, Fr.setCell (S := fun k => k = q) (p := ⟨q, 6, none⟩) hfr (fun _ => rfl) _⟩
        rw [← hO]
        have hqb : q < wb.heap.size := Nat.lt_of_lt_of_le HQ.out.lt HB4.out.size
        exact (HOW.out.fr (S := fun k => k = q) (Fr.setCell (S := fun k => k = q) (p := ⟨q, 6, none⟩) (Fr.refl _ wo) (fun _ => rfl) _) (fun k e h => by have := (HOW.out.lt k e).1; omega)).mono (Nat.zero_le _)

end Go.Proofs.YtjhffbhjiflfeaaGreat
