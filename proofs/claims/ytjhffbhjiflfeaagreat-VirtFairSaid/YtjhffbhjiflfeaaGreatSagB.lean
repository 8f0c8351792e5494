/-
  Rows of copies in memory: append, clone, the last one struck.
-/
import Derived.Test.YtjhffbhjiflfeaaGreatSagA
import Derived.Test.YtjhffbhjiflfeaaGreatRegionZ
import Derived.Laws.OwnMore
import Derived.Lib.SliceRun
namespace Go.Proofs.YtjhffbhjiflfeaaGreat
set_option linter.unusedVariables false
set_option linter.unusedSimpArgs false
set_option maxRecDepth 100000
open Go.RowKit Go.Shelf

def encK : List (Int × Int) → List Value
  | [] => []
  | k :: K => .int .u64 k.1 :: .int .u64 k.2 :: encK K
theorem encK_len : ∀ K : List (Int × Int), (encK K).length = K.length * 2
  | [] => rfl
  | k :: K => by
    show (encK K).length + 1 + 1 = (K.length + 1) * 2
    rw [encK_len K]; omega
theorem encK_append : ∀ K L : List (Int × Int), encK (K ++ L) = encK K ++ encK L
  | [], _ => rfl
  | k :: K, L => by
    show Value.int .u64 k.1 :: .int .u64 k.2 :: encK (K ++ L) = _
    rw [encK_append K L]; rfl
theorem encK_at : ∀ (K : List (Int × Int)) (i : Nat) (k : Int × Int), K[i]? = some k → (encK K)[i * 2]? = some (.int .u64 k.1) ∧ (encK K)[i * 2 + 1]? = some (.int .u64 k.2)
  | [], i, k, h => by cases h
  | k' :: K, 0, k, h => by
    obtain rfl : k' = k := by simpa using h
    exact ⟨rfl, rfl⟩
  | k' :: K, i + 1, k, h => by
    have := encK_at K i k (by simpa using h)
    rw [Nat.add_mul]
    exact this
theorem encK_one : ∀ (K : List (Int × Int)) (u : Value), u ∈ encK K → u.oneCell' = true
  | [], u, h => by cases h
  | k :: K, u, h => by
    rcases List.mem_cons.1 h with rfl | h
    · rfl
    · rcases List.mem_cons.1 h with rfl | h
      · rfl
      · exact encK_one K u h
/-- A row of copies that owns its cells. -/
def OwnK (w : World) (B : Nat) (v : Value) (K : List (Int × Int)) : Prop := w.ownsRow B 192 2 v K.length (encK K)
section
variable {w w' : World} {B : Nat} {v : Value} {K : List (Int × Int)}
theorem OwnK.next (h : OwnK w B v K) (hb : Below w.heap.size w w') : OwnK w' B v K := own_next h hb
theorem OwnK.fr {S : Nat → Prop} (h : OwnK w B v K) (hf : Fr S w w') (hn : ∀ k, v.ownBlock = some k → ¬ S k) : OwnK w' B v K := ownsRow_fr h hf hn
theorem OwnK.nil (w : World) (B : Nat) : OwnK w B (.slice none 0 0) [] := World.ownsRow_nil w B _ _
theorem OwnK.mono {B' : Nat} (h : OwnK w B v K) (hb : B' ≤ B) : OwnK w B' v K := by
  refine ⟨h.1, ?_⟩
  rcases h.2 with h2 | ⟨g, cap, cur, rfl, hg, r⟩
  · exact .inl h2
  · exact .inr ⟨g, cap, cur, rfl, Nat.le_trans hb hg, r⟩
theorem OwnK.lt (h : OwnK w B v K) (g : Nat) (hg : v.ownBlock = some g) : B ≤ g ∧ g < w.heap.size := World.ownsRow.lt h g hg
/-- A row's block is of the copies' type. -/
theorem OwnK.far {b : Nat} {t : TypeId} {cs : Array Value} (h : OwnK w B v K) (hb : Blk w b t cs) (hne : 192 ≠ t) (g : Nat) (hg : v.ownBlock = some g) : g ≠ b := by
  rcases h.2 with ⟨rfl, _⟩ | ⟨g', cap, cur, rfl, _, hc, _⟩
  · cases hg
  · cases hg
    exact Blk.ne_of_type (show Blk w g' _ cur from hc) hb hne
theorem OwnK.form (h : OwnK w B v K) (hn : K ≠ []) : ∃ g c, v = .slice (some ⟨g, 0, none⟩) K.length c ∧ B ≤ g ∧ g < w.heap.size := by
  rcases h.2 with ⟨_, h0⟩ | ⟨g, cap, cur, rfl, hb, hc, _⟩
  · exact absurd (List.eq_nil_of_length_eq_zero h0) hn
  · exact ⟨g, cap, rfl, hb, lt_of_block hc⟩
theorem OwnK.len (h : OwnK w B v K) : ∃ A c, v = .slice A K.length c := by
  rcases h.2 with ⟨rfl, h0⟩ | ⟨g, cap, cur, rfl, _⟩
  · rw [h0]; exact ⟨_, _, rfl⟩
  · exact ⟨_, _, rfl⟩
theorem OwnK.cell {g c i : Nat} {k : Int × Int} (h : OwnK w B (.slice (some ⟨g, 0, none⟩) K.length c) K) (hk : K[i]? = some k) :
    w.cell? ⟨g, i * 2, none⟩ = some (.int .u64 k.1) ∧ w.cell? ⟨g, i * 2 + 1, none⟩ = some (.int .u64 k.2) := by
  have hi : i < K.length := (List.getElem?_eq_some_iff.1 hk).1
  have e := encK_at K i k hk
  exact ⟨(World.ownsRow.cellAt h (i * 2) (by omega)).trans e.1, (World.ownsRow.cellAt h (i * 2 + 1) (by omega)).trans e.2⟩
/-- The last one struck. -/
theorem OwnK.strike {g c m : Nat} {k : Int × Int} (h : OwnK w B (.slice (some ⟨g, 0, none⟩) (m + 1) c) (K ++ [k])) (hm : K.length = m) : OwnK w B (.slice (some ⟨g, 0, none⟩) m c) K := by
  refine ⟨encK_len K, Or.inr ?_⟩
  rcases h.2 with ⟨h0, _⟩ | ⟨g', cap, cur, e, hb, hc, hl, hmx, hs, ht⟩
  · cases h0
  · injection e with ea eb ec
    injection ea with ea
    injection ea with ea
    subst ea ec
    refine ⟨g, c, cur, by rw [hm], hb, hc, by omega, hmx, hs, ?_⟩
    rw [encK_append] at ht
    have e1 : (encK K).length = K.length * 2 := encK_len K
    have := congrArg (List.take (K.length * 2)) ht
    rw [List.take_take, List.take_left' e1] at this
    rw [← this]
    congr 1
    simp
end
/-- append of one copy. -/
theorem wp_append_two {P : Program} {Q : Exit → Act → World → Prop} {w : World} {o : Oper} {a : Act} {K : Act → World → Prop} (s x : Operand) (t : TypeId) (ho : o.op = .call { callee := .builtin .append, args := #[s, x], argTypes := #[t, t] })
    (base : Nat) (e : TypeId) (i : TypeInfo) (z : Value) (bytes : Nat) (ht : P.underlying t = some (.slice e)) (hi : P.info? e = some i) (hz : i.zero = some z)
    (hsize : i.size = 2) (hby : i.bytes = bytes) (hzs : z.cells.size = 2) (v : Value) (n : Nat) (xs : List Value) (hs : a.eval s = v) (hown : w.ownsRow base e 2 v n xs)
    (b c : Nat) (u1 u2 : Value) (hx : a.eval x = .slice (some ⟨b, 0, none⟩) 1 c) (hu1 : w.cell? ⟨b, 0, none⟩ = some u1) (hu2 : w.cell? ⟨b, 1, none⟩ = some u2) (h1 : u1.oneCell' = true) (h2 : u2.oneCell' = true)
    (h63 : n + 1 ≤ maxLen) (hbytes : (n + 1) * bytes ≤ 140737488355328) (hbase : base ≤ w.heap.size)
    (h : ∀ v' w', w'.ownsRow base e 2 v' (n + 1) (xs ++ [u1, u2]) → w.grownBy w' v.ownBlock → (v'.ownBlock = v.ownBlock ∨ v'.ownBlock = some w.heap.size) → K (a.put o.dst v') w') : o.wp P a w K Q := by
  obtain ⟨v', w', hr, h3, h4, -, h5⟩ := run_append_own_at (P := P) w base t o.type e i z 2 bytes ht hi hz hsize hby hzs (by omega) v n xs hown ⟨b, 0, none⟩ 1 c [u1, u2] rfl
    (fun j y hj => by
      match j, hj with
      | 0, hj =>
        simp only [List.getElem?_cons_zero, Option.some.injEq] at hj
        subst hj
        rw [Addr.add_lit]; exact hu1
      | 1, hj =>
        simp only [List.getElem?_cons_zero, List.getElem?_cons_succ, Option.some.injEq] at hj
        subst hj
        rw [Addr.add_lit]; exact hu2)
    (fun y hy => by
      rcases List.mem_cons.1 hy with rfl | hy
      · exact h1
      · rw [List.mem_singleton] at hy; subst hy; exact h2) h63 hbytes hbase
  unfold Oper.wp execOp
  simp only [ho, resolve, invoke, builtin, Sem.run_bind, Sem.run_pure, Result.andThen_ok, List.map_toArray, List.map_cons, List.map_nil, hs, hx, hr]
  exact h v' w' h3 h4 h5
theorem start_info : ∃ i0, Tryz.prog.info? 192 = some i0 ∧ i0.zero = some (.agg #[.int .u64 0, .int .u64 0]) ∧ i0.size = 2 ∧ i0.bytes = 16 :=
  info_parts (show (Tryz.prog.info? 192).map (fun i => (i.zero, i.size, i.bytes)) = some (some (.agg #[.int .u64 0, .int .u64 0]), 2, 16) by kernel_rfl)

set_option maxHeartbeats 2000000 in
theorem sclone_any (v : Value) (K : List (Int × Int)) (B : Nat) (w : World) (h : OwnK w B v K) (hn : K.length ≤ 1000000) :
    Calls Tryz.prog 140 #[v] w fun e w' => ∃ v', e = .returned v' ∧ OwnK w' w.heap.size v' K ∧ Below w.heap.size w w' := by
  have q22 : ∀ (w : World) (a : Option Addr) (n c n' c' : Nat), (binOp .eql 121 (.slice a n c) (.slice none n' c')).run Tryz.prog w = .ok (.bool a.isNone) w := fun w a n c n' c' => Lib.run_eql_slice_nil w _ _ a n c n' c' Tryz.underlying121
  have u22 : ∀ w, Sem.run Tryz.prog (underlying 121) w = .ok (TypeDesc.slice 192) w := run_underlying Tryz.underlying121
  obtain ⟨hl, h2⟩ := id h
  rcases h2 with ⟨rfl, h0⟩ | ⟨g, cap, cur, rfl, hb, hc, -⟩
  · obtain rfl : K = [] := List.eq_nil_of_length_eq_zero h0
    clear hl h0 h
    go_enter Tryz.func140, Tryz.ntmps140
    go_wp2_with fail
    go_ret
    exact ⟨_, rfl, OwnK.nil _ _, Below.refl _ _⟩
  · obtain ⟨i0, hi, hz0, hz1, hz2⟩ := start_info
    have A : Hid (∀ j u, (encK K)[j]? = some u → w.cell? ⟨g, j, none⟩ = some u) := by
      intro j u hj
      have hlt : j < K.length * 2 := by
        have := (List.getElem?_eq_some_iff.1 hj).1
        omega
      exact (World.ownsRow.cellAt h j hlt).trans hj
    clear h hb hc
    go_enter Tryz.func140, Tryz.ntmps140
    go_wp2_with (at_builtin; refine wpList_append_own _ rfl _ _ 121 rfl w.heap.size 192 i0 (.agg #[.int .u64 0, .int .u64 0]) 2 16 Tryz.underlying121 hi hz0 hz1 hz2 rfl (by decide) _ _ _ rfl (World.ownsRow_made w #[] 0 (Nat.le_refl _) (Nat.zero_le _) (by simp)) ⟨g, 0, none⟩ K.length cap (encK K) rfl ?qc1 ?qc2 ?qc3 ?qc4 ?qc5 ?qc6 ?_)
    case qc1 => exact hl
    case qc2 =>
      intro j u hj
      rw [Addr.add_lit]
      rw [Nat.zero_add]
      exact Lib.cell?_alloc_some _ (A.out j u hj)
    case qc3 => exact encK_one K
    case qc4 => rw [Nat.zero_add]; unfold maxLen; omega
    case qc5 => rw [Nat.zero_add]; omega
    case qc6 => simp
    intro v' w1 hown hgrow hnil
    have HF : OwnK w1 w.heap.size v' K ∧ Below w.heap.size w w1 := by
      refine ⟨by unfold OwnK; simpa using hown, ?_⟩
      exact ((Below.refl _ w).alloc (Nat.le_refl _) _).grown hgrow (by simp) (by intro k hk; simp [Value.ownBlock] at hk; omega)
    have HF := Lib.hid HF
    clear hown hgrow hnil
    go_wp2_with fail
    go_ret
    exact ⟨_, rfl, HF.out.1, HF.out.2⟩

end Go.Proofs.YtjhffbhjiflfeaaGreat
