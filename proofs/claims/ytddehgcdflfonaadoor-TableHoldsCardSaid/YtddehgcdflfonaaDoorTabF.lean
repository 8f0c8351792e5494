/-
  A table's methods, whole; the iterator over all.
-/
import Derived.Test.YtddehgcdflfonaaDoorProg
import Derived.Test.YtddehgcdflfonaaDoorTabE
import Derived.Test.YtddehgcdflfonaaDoorRange
namespace Go.Proofs.YtddehgcdflfonaaDoor
set_option linter.unusedVariables false
set_option linter.unusedSimpArgs false
set_option maxRecDepth 100000
open Go.RowKit Go.Shelf

attribute [local go_sem] Oper.semAt_some

/-- A table, the library's bits beside it. -/
def Tb (w : World) (T : Nat) (S : Nat → Prop) (N : Nat) (L : TRow) : Prop := TabAt w T S N L ∧ (∀ k, S k → 0 < k) ∧ BrAt w
def tput (id v : Int) (L : TRow) : TRow := if 1 ≤ id ∧ id ≤ 65535 ∧ tget id L = none then tins id v L else L
theorem tset_none {id v : Int} {L : TRow} (h : tget id L = none) : tset id v L = L := by
  unfold tset
  have h2 := tget_none.1 h
  conv => rhs; rw [← List.map_id L]
  refine List.map_congr_left fun p hp => ?_
  rw [if_neg (h2 p hp)]
  rfl
section
variable {w w' : World} {T N : Nat} {S : Nat → Prop} {L : TRow}
theorem Tb.next (h : Tb w T S N L) (hb : Below w.heap.size w w') : Tb w' T S N L := ⟨h.1.next hb, h.2.1, h.2.2.next hb⟩
theorem Tb.fr {S' : Nat → Prop} (h : Tb w T S N L) (hf : Fr S' w w') (hd : ∀ k, S k → ¬ S' k) (hg : ∀ k, S' k → 0 < k) : Tb w' T S N L :=
  ⟨h.1.fr hf hd, h.2.1, h.2.2.fr hf (fun e => Nat.lt_irrefl _ (hg _ e))⟩
theorem Tb.mono (h : Tb w T S N L) {N' : Nat} (hn : N ≤ N') : Tb w T S N' L := ⟨h.1.mono hn, h.2⟩
theorem Tb.br (h : Tb w T S N L) : BrAt w := h.2.2
theorem Tb.big (h : Tb w T S N L) : ∀ k, S k → 0 < k := h.2.1
theorem Tb.ok (h : Tb w T S N L) : TOk L := h.1.ok
theorem Tb.lt (h : Tb w T S N L) : ∀ k, S k → k < w.heap.size := h.1.lt
theorem MapAt.stays {m n B : Nat} {f : Nat → Option Nat} (h : MapAt w m n f) (hs : Stays B w w') : MapAt w' m n f := by
  obtain ⟨D, ⟨es, clock, hb, F, hs', hD⟩, h2⟩ := h
  exact ⟨D, ⟨es, clock, hs.kept _ _ hb rfl, F, hs', hD⟩, h2⟩
theorem Tb.stays {B : Nat} (h : Tb w T S N L) (hs : Stays B w w') : Tb w' T S N L := by
  obtain ⟨⟨m, n, pg, h1, h2, h3, h4, h5, h6, h7, h8⟩, h9, h10⟩ := h
  exact ⟨⟨m, n, pg, ⟨h1.head.stays hs, h1.map.stays hs, fun i p e => (h1.pages i p e).stays hs, h1.apart⟩, h2, h3, h4, h5, h6, h7, fun k hk => Nat.lt_of_lt_of_le (h8 k hk) hs.size⟩, h9, fun j hj => cell_stays (h10.1 j hj) hs, Nat.lt_of_lt_of_le h10.2 hs.size⟩
end

theorem tb_new (w : World) (hB : BrAt w) : Calls Tryd.prog 10 #[] w fun e w' => e = .returned (.pointer (some ⟨w.heap.size + 1, 0, none⟩)) ∧ Tb w' (w.heap.size + 1) (fun k => k = w.heap.size ∨ k = w.heap.size + 1) 0 [] ∧ Below w.heap.size w w' :=
  (tab_new w (by have := hB.2; omega)).mono fun e w' ⟨h1, h2, h3⟩ => ⟨h1, ⟨h2, fun k hk => by have := hB.2; omega, hB.next h3⟩, h3⟩
theorem tb_get (T N : Nat) (S : Nat → Prop) (L : TRow) (id : Int) (w : World) (h : Tb w T S N L) :
    Calls Tryd.prog 11 #[.pointer (some ⟨T, 0, none⟩), .int .i64 id] w fun e w' => e = .returned (.tuple #[.int .u64 ((tget id L).getD 0), .bool (tget id L).isSome]) ∧ Below w.heap.size w w' :=
  (tab_get T N S L id w h.1).mono fun e w' ⟨h1, h2⟩ => ⟨h1, below_drewN_k h2⟩
theorem tb_len (T N : Nat) (S : Nat → Prop) (L : TRow) (w : World) (h : Tb w T S N L) : Calls Tryd.prog 12 #[.pointer (some ⟨T, 0, none⟩)] w fun e w' => e = .returned (.int .i64 (L.length : Int)) ∧ w = w' := tab_len T N S L w h.1
theorem tb_next (T N : Nat) (S : Nat → Prop) (L : TRow) (id : Int) (w : World) (h : Tb w T S N L) (h64 : -9223372036854775808 ≤ id) :
    Calls Tryd.prog 18 #[.pointer (some ⟨T, 0, none⟩), .int .i64 id] w fun e w' => e = .returned (.tuple #[.int .i64 ((tnext id L).getD 0), .bool (tnext id L).isSome]) ∧ w = w' := tab_next T N S L id w h.1 h.2.2 h64
theorem tb_set (T N : Nat) (S : Nat → Prop) (L : TRow) (id v : Int) (w : World) (h : Tb w T S N L) (hv : Word v) :
    Calls Tryd.prog 14 #[.pointer (some ⟨T, 0, none⟩), .int .i64 id, .int .u64 v] w fun e w' => e = .returned (.int .i64 (askE L id true)) ∧ Tb w' T S N (tset id v L) ∧ Fr S w w' := by
  rcases hg : tget id L with _ | v0
  · rw [tset_none hg]
    exact (tab_set_refused _ id v _ w (askE_none hg) (tabat_asked T N S L id true w h.1)).mono fun e w' ⟨h1, h2⟩ => ⟨h1, h.next (below_drewN_k h2), Fr.of_new (below_drewN_k h2)⟩
  · rw [askE_some h.ok hg]
    exact (tab_set_there T N S L id v v0 w h.1 hg hv).mono fun e w' ⟨h1, h2, h3⟩ => ⟨h1, ⟨h2, h.2.1, h.2.2.fr h3 (fun e => Nat.lt_irrefl _ (h.2.1 _ e))⟩, h3⟩
theorem tb_drop (T N : Nat) (S : Nat → Prop) (L : TRow) (id : Int) (w : World) (h : Tb w T S N L) :
    Calls Tryd.prog 15 #[.pointer (some ⟨T, 0, none⟩), .int .i64 id] w fun e w' => e = .returned (.int .i64 (askE L id true)) ∧ Tb w' T S N (tdel id L) ∧ Fr S w w' := by
  rcases hg : tget id L with _ | v0
  · rw [tdel_none hg]
    exact (tab_drop_refused _ id _ w (askE_none hg) (tabat_asked T N S L id true w h.1)).mono fun e w' ⟨h1, h2⟩ => ⟨h1, h.next (below_drewN_k h2), Fr.of_new (below_drewN_k h2)⟩
  · rw [askE_some h.ok hg]
    exact (tab_drop_there T N S L id v0 w h.1 hg).mono fun e w' ⟨h1, h2, h3⟩ => ⟨h1, ⟨h2, h.2.1, h.2.2.fr h3 (fun e => Nat.lt_irrefl _ (h.2.1 _ e))⟩, h3⟩
theorem tb_put (T N : Nat) (S : Nat → Prop) (L : TRow) (id v : Int) (w : World) (h : Tb w T S N L) (hv : Word v) (hN : N < 1000000) :
    Calls Tryd.prog 13 #[.pointer (some ⟨T, 0, none⟩), .int .i64 id, .int .u64 v] w fun e w' => e = .returned (.int .i64 (askE L id false)) ∧ ∃ S', Tb w' T S' (N + 1) (tput id v L) ∧ Fr S w w' ∧ ∀ k, S' k → S k ∨ w.heap.size ≤ k := by
  unfold tput
  by_cases hc : 1 ≤ id ∧ id ≤ 65535 ∧ tget id L = none
  · rw [if_pos hc, askE_free hc.1 hc.2.1 hc.2.2]
    refine (tab_put_free T N S L id v w h.1 hc.1 hc.2.1 hc.2.2 hv hN).mono ?_
    rintro e w' ⟨h1, S', h2, h3, h4⟩
    refine ⟨h1, S', ⟨h2, fun k hk => ?_, h.2.2.fr h3 (fun e => Nat.lt_irrefl _ (h.2.1 _ e))⟩, h3, h4⟩
    rcases h4 k hk with hk | hk
    · exact h.2.1 k hk
    · have := h.2.2.2; omega
  · rw [if_neg hc]
    have hE : askE L id false ≠ 0 := by
      unfold askE askIn
      split
      · rename_i hr
        rcases hg : tget id L with _ | v0
        · exact absurd ⟨hr.1, hr.2, hg⟩ hc
        · simp
      · decide
    exact (tab_put_refused _ id v _ w hE (tabat_asked T N S L id false w h.1)).mono fun e w' ⟨h1, h2⟩ => ⟨h1, S, (h.next (below_drewN_k h2)).mono (by omega), Fr.of_new (below_drewN_k h2), fun k hk => Or.inl hk⟩

/-! ### The iterator -/
theorem tab_each (p : Value) (hp : p.oneCell' = true) (w : World) : Calls Tryd.prog 19 #[p] w fun e w' => e = .returned (.func (.func 30) #[] #[.pointer (some ⟨w.heap.size, 0, none⟩)]) ∧ w' = w.alloc (.cells #[p] 24) := by
  go_enter Tryd.func19, Tryd.ntmps19
  go_wp2
  go_ret
  exact ⟨by simp, rfl⟩

def encRow (L : TRow) (k : Nat) : Array Value := #[.int .i64 ((L[k]?.getD (0, 0)).1), .int .u64 ((L[k]?.getD (0, 0)).2)]
def leftOf (i b : Value) : Nat := match b with | .bool true => (65536 - intOf i).toNat | _ => 0
theorem next_first {L : TRow} (h : TOk L) {k : Nat} (hk : k < L.length) (id : Int) (h1 : ∀ j, (hj : j < L.length) → j < k → (L[j]).1 ≤ id) (h2 : id < (L[k]).1) : (tnext id L).getD 0 = (L[k]).1 ∧ (tnext id L).isSome = true := by
  rw [tnext_at h.rises hk h1 h2]
  exact ⟨rfl, rfl⟩
/-- From item k - 1 (from 0 ahead of the first one) the next one is item k, or there is none. -/
theorem next_step {L : TRow} (h : TOk L) (k : Nat) (hk : k ≤ L.length) (id : Int) (hid : id = if k = 0 then 0 else (L[k - 1]?.getD (0, 0)).1) :
    (k < L.length → (tnext id L).getD 0 = (L[k]?.getD (0, 0)).1 ∧ (tnext id L).isSome = true) ∧ (k = L.length → (tnext id L).getD 0 = 0 ∧ (tnext id L).isSome = false) := by
  have hlow : ∀ j, (hj : j < L.length) → j < k → (L[j]).1 ≤ id := by
    intro j hj hjk
    rw [hid, if_neg (by omega)]
    rw [List.getElem?_eq_getElem (show k - 1 < L.length by omega)]
    show (L[j]).1 ≤ (L[k - 1]).1
    by_cases e : j = k - 1
    · subst e; exact Int.le_refl _
    · exact Int.le_of_lt (rises_at h.rises hj (by omega) (by omega))
  constructor
  · intro hlt
    have h2 : id < (L[k]).1 := by
      rw [hid]
      split
      · have := (h.ids _ (List.getElem_mem hlt)).1; omega
      · rw [List.getElem?_eq_getElem (show k - 1 < L.length by omega)]
        exact rises_at h.rises (by omega) hlt (by omega)
    rw [List.getElem?_eq_getElem hlt]
    exact next_first h hlt id hlow h2
  · intro he
    subst he
    have : tnext id L = none := tnext_none.2 fun p hp => by
      obtain ⟨j, hj, rfl⟩ := List.getElem_of_mem hp
      exact hlow j hj hj
    rw [this]
    exact ⟨rfl, rfl⟩

theorem row_at {L : TRow} (h : TRises L) {k : Nat} (hk : k < L.length) : ∃ i v, L[k]? = some (i, v) ∧ (i, v) ∈ L ∧ tget i L = some v :=
  ⟨(L[k]).1, (L[k]).2, List.getElem?_eq_getElem hk, List.getElem_mem hk, tget_at h hk⟩
theorem left_lt {L : TRow} (h : TOk L) {k : Nat} (hk : k < L.length) {i v i3 : Int} {b3 : Bool} (hq : L[k]? = some (i, v)) (h1 : k + 1 < L.length → i3 = (L[k + 1]?.getD (0, 0)).1 ∧ b3 = true) (h2 : k + 1 = L.length → i3 = 0 ∧ b3 = false) :
    leftOf (.int .i64 i3) (.bool b3) < leftOf (.int .i64 i) (.bool true) := by
  have hi : i = (L[k]).1 := by rw [List.getElem?_eq_getElem hk] at hq; exact (congrArg Prod.fst (Option.some.inj hq)).symm
  have b1 := h.ids _ (List.getElem_mem hk)
  by_cases c : k + 1 < L.length
  · obtain ⟨e1, rfl⟩ := h1 c
    rw [List.getElem?_eq_getElem c] at e1
    have e1 : i3 = (L[k + 1]).1 := e1
    have b2 := h.ids _ (List.getElem_mem c)
    have b3 := rises_at h.rises hk c (by omega)
    simp only [leftOf, intOf]
    omega
  · obtain ⟨rfl, rfl⟩ := h2 (by omega)
    simp only [leftOf, intOf]
    omega
set_option maxHeartbeats 2000000 in
theorem each_yields (T N B0 : Nat) (S : Nat → Prop) (L : TRow) : Yields Tryd.prog 30 #[.pointer (some ⟨B0, 0, none⟩)] L.length (encRow L)
    (fun W => Tb W T S N L ∧ Blk W B0 24 #[.pointer (some ⟨T, 0, none⟩)]) := by
  intro l J Jx W hJ hJx hS hY h0
  have HJ := Lib.hid hJ
  have HS := Lib.hid hS
  have HY := Lib.hid hY
  clear hJ hJx hS hY
  have H0 := Lib.hid h0
  clear h0
  refine callsIn_of_wp Tryd.func30 rfl trivial ?_ rfl
  simp only [Tryd.ntmps30, List.size_toArray, List.length_cons, List.length_nil, Nat.reduceAdd, Nat.reduceSub, Array.replicate_succ, Array.replicate_zero, List.push_toArray, List.append_toArray, List.nil_append, List.cons_append]
  have cB := (HS.out 0 W H0.out).2.get 0 rfl
  have NX := Lib.hid (fun (W : World) (h : Tb W T S N L) (id : Int) (h64 : -9223372036854775808 ≤ id) => tb_next T N S L id W h h64)
  have hd : 1 ≤ 6 := by omega
  gi_wp2_with (refine ⟨trivial, ?_⟩; gi_at_call 18; refine (callsIn_wide.2 (NX.out _ (HS.out 0 W H0.out).1 0 (by omega))).mono ?_; rintro e w' ⟨rfl, rfl⟩)
  have HOK := (HS.out 0 W H0.out).1.ok
  have HST := Lib.hid (fun (k : Nat) (hk : k ≤ L.length) (id : Int) hid => next_step HOK k hk id hid)
  have S0 := Lib.hid (HST.out 0 (Nat.zero_le _) 0 rfl)
  have HOKH := Lib.hid HOK
  clear HOK cB
  obtain ⟨i0, hi0⟩ : ∃ x, (tnext 0 L).getD 0 = x := ⟨_, rfl⟩
  obtain ⟨b0, hb0⟩ : ∃ x, (tnext 0 L).isSome = x := ⟨_, rfl⟩
  rw [hi0, hb0] at S0 ⊢
  clear hi0 hb0
  gi_loopw [3, 4] (fun iv bv wr => ∃ (k : Nat) (i : Int) (b : Bool), k ≤ L.length ∧ iv = .int .i64 i ∧ bv = .bool b ∧ (k < L.length → i = (L[k]?.getD (0, 0)).1 ∧ b = true) ∧ (k = L.length → i = 0 ∧ b = false) ∧ J k wr)
    (fun iv bv _ => leftOf iv bv)
  case atStart => exact ⟨0, i0, b0, Nat.zero_le _, rfl, rfl, S0.out.1, S0.out.2, H0.out⟩
  case round =>
    obtain ⟨k, i, b, hk, rfl, rfl, h1, h2, hj⟩ := hrel
    have HJK := Lib.hid hj
    clear hj S0 H0
    by_cases hlt : k < L.length
    · obtain ⟨hi, rfl⟩ := h1 hlt
      have hsx := HS.out k wr HJK.out
      have HTX := Lib.hid hsx.1
      have cB := hsx.2.get 0 rfl
      have fB := hsx.2.lt
      obtain ⟨i', v, q1, q2, q3⟩ := row_at HOKH.out.rises hlt
      obtain rfl : i = i' := by rw [hi, q1]; rfl
      have hids := HOKH.out.ids _ q2
      have GT := Lib.hid (fun (W : World) (h : Tb W T S N L) => tb_get T N S L i W h)
      rw [q3] at GT
      have hYk := Lib.hid (HY.out k)
      have HI := Lib.hid hids
      have HLT := Lib.hid hlt
      have he : encRow L k = #[.int .i64 i, .int .u64 v] := by
        unfold encRow
        rw [q1]
        rfl
      have HQ := Lib.hid q1
      clear h1 h2 hi q1 q2 q3 hids hsx hlt
      have HE := Lib.hid he
      clear he
      gi_wp2_with (refine ⟨trivial, ?_⟩; gi_at_call 11; refine (callsIn_wide.2 (GT.out _ HTX.out)).mono ?_; rintro e w1 ⟨rfl, hb1⟩; have HJ1 := Lib.hid (HJ.out k _ _ HJK.out hb1); clear hb1; obtain ⟨fn, tmps, assign, body, hy, hR⟩ := hYk.out w1 HLT.out HJ1.out; rw [HE.out] at hy)
      refine hR.mono ?_
      clear hy hR HJ1
      rintro e W3 (⟨rfl, hJ3⟩ | ⟨rfl, hx3⟩)
      · have HJ3 := Lib.hid hJ3
        have hs3 := HS.out _ _ hJ3
        have HT3 := Lib.hid hs3.1
        have cB3 := hs3.2.get 0 rfl
        have hi64 : -9223372036854775808 ≤ i := by have := HI.out; omega
        have S3 := Lib.hid (HST.out (k + 1) (by have := HLT.out; omega) i (by rw [if_neg (by omega), Nat.add_sub_cancel, HQ.out]; rfl))
        have HI64 := Lib.hid hi64
        clear hJ3 hs3 hi64 cB fB
        gi_wp2_with (refine ⟨trivial, ?_⟩; gi_at_call 18; refine (callsIn_wide.2 (NX.out _ HT3.out i HI64.out)).mono ?_; rintro e w' ⟨rfl, rfl⟩)
        obtain ⟨i3, hi3⟩ : ∃ x, (tnext i L).getD 0 = x := ⟨_, rfl⟩
        obtain ⟨b3, hb3⟩ : ∃ x, (tnext i L).isSome = x := ⟨_, rfl⟩
        rw [hi3, hb3] at S3 ⊢
        clear hi3 hb3
        go_roundw
        case rel => exact ⟨k + 1, i3, b3, by have := HLT.out; omega, rfl, rfl, S3.out.1, S3.out.2, HJ3.out⟩
        case measure => exact left_lt HOKH.out HLT.out HQ.out S3.out.1 S3.out.2
      · gi_wp2
        refine bodyPost_ret (results_none rfl _ _ _) rfl ?_
        exact ⟨⟨_, rfl⟩, .inr ⟨k + 1, HLT.out, hx3⟩⟩
    · obtain rfl : k = L.length := by omega
      obtain ⟨rfl, rfl⟩ := h2 rfl
      clear hlt h1 h2 hk
      gi_wp2
      go_end0
      exact ⟨⟨_, rfl⟩, .inl HJK.out⟩

end Go.Proofs.YtddehgcdflfonaaDoor
