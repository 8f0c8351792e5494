/-
  The document's ReadReply.
-/
import Derived.Test.YtbageagobalgbaaProg
import Derived.Test.YtbageagobalgbaaCmdZ0
import Derived.Test.YtbageagobalgbaaRegionZ
import Derived.StillTailTactics
namespace Go.Proofs.Ytbageagobalgbaa
set_option linter.unusedVariables false
set_option linter.unusedSimpArgs false
set_option maxRecDepth 100000
open Go.RowKit Go.Shelf

theorem code_reply (x : Int) : (#[.int .i64 x, .int .u64 0, .int .u64 0, .int .u64 0, .int .u64 0, .int .u64 0, .int .u64 0, .int .u64 0, .int .u64 0, .int .u64 0] : Array Value) = rowA replyT 10 (upd (fun _ => 0) 0 x) := rfl
/-- The words of a row from its third cell on. -/
def tailV (c : Nat → Int) (i : Nat) : List Value := (List.range i).map fun j => .int .u64 (c (j + 2))
theorem tailV_succ (c : Nat → Int) (i : Nat) : tailV c (i + 1) = tailV c i ++ [.int .u64 (c (i + 2))] := by simp [tailV, List.range_succ]
theorem tailV_upd (c : Nat → Int) (i : Nat) (x : Int) : tailV (upd c (i + 2) x) i = tailV c i := by
  unfold tailV
  refine List.map_congr_left fun j hj => ?_
  have h := List.mem_range.1 hj
  have e : upd c (i + 2) x (j + 2) = c (j + 2) := if_neg (by omega)
  rw [e]
theorem tailV_get {c : Nat → Int} {i j : Nat} (h : j < i) : (tailV c i)[j]? = some (.int .u64 (c (j + 2))) := by simp [tailV, h]
/-- A row that owns its cells: its block. -/
theorem own_blk {w : World} {base : Nat} {e : TypeId} {n : Nat} {v : Value} {xs : List Value} (h : w.ownsRow base e 1 v n xs) (hn : 0 < n) : ∃ (g c : Nat) (cur : Array Value), v = .slice (some ⟨g, 0, none⟩) n c ∧ base ≤ g ∧ Blk w g e cur ∧ ∀ (j : Nat) (u : Value), xs[j]? = some u → cur[j]? = some u := by
  obtain ⟨hl, h⟩ := h
  rcases h with ⟨_, h0⟩ | ⟨g, cap, cur, rfl, hb, hg, hc, hm, hs, ht⟩
  · omega
  · refine ⟨g, cap, cur, rfl, hb, hg, fun j u hu => ?_⟩
    rw [← ht, List.getElem?_take] at hu
    split at hu
    · rw [← Array.getElem?_toList]; exact hu
    · cases hu
theorem reply_tail {c d : Nat → Int} (h0 : d 0 = c 0) (h1 : d 1 = c 1) : splice (rowA replyT 10 d) 2 (#[.int .u64 (c 2), .int .u64 (c 3), .int .u64 (c 4), .int .u64 (c 5), .int .u64 (c 6), .int .u64 (c 7), .int .u64 (c 8), .int .u64 (c 9)] : Array Value).toList = rowA replyT 10 c := by
  have e : (#[.int .u64 (c 2), .int .u64 (c 3), .int .u64 (c 4), .int .u64 (c 5), .int .u64 (c 6), .int .u64 (c 7), .int .u64 (c 8), .int .u64 (c 9)] : Array Value).toList = partA replyT 2 8 c := rfl
  rw [e, rowA_over (by omega)]
  refine rowA_congr fun i hi => ?_
  unfold over
  split
  · rfl
  · match i, hi with
    | 0, _ => exact h0
    | 1, _ => exact h1
    | i + 2, hi => omega
theorem RRC.grown {T : TypeId} {Z cs : Array Value} {w W W' : World} {r g q : Nat} {l : List Nat} {f : Bool} {row : Option Nat} (h : RRC T Z w W r g q l f cs) (hg : W.grownBy W' row) (hq : g < q) (hr : ∀ k, row = some k → q + 1 ≤ k) : RRC T Z w W' r g q l f cs :=
  ⟨h.res.grown hg (fun e => by have := hr _ e.symm; have := h.rlq; omega), ⟨h.eye.1.grown hg (fun e => by have := hr _ e.symm; omega), h.eye.2⟩, h.blk.grown hg (fun e => by have := hr _ e.symm; omega), below_grown h.below hg (Nat.le_of_lt h.res.lt) (fun k hk => by have := hr k hk; have := h.rlq; omega), h.rg, h.rq, h.gq, h.rlg, h.rlq⟩
/-- A round of the eight numbers. -/
structure RRI (w W : World) (r g q : Nat) (v : Value) (i : Nat) (l : List Nat) (f : Bool) (d c : Nat → Int) (R : Array Value × List Nat × Bool) : Prop where
  rc : RRC 41 (rowA replyT 10 fun _ => 0) w W r g q l f (rowA replyT 10 d)
  own : W.ownsRow (q + 1) 22 1 v i (tailV c i)
  rd : reads (replySlots.drop (2 + i)) (rowA replyT 10 c) l f = R
  len : l.length ≤ 500
  h0 : d 0 = c 0
  h1 : d 1 = c 1
  gl : g < q
theorem RRI.nil {w W : World} {r g q : Nat} {l : List Nat} {f : Bool} {d : Nat → Int} {R : Array Value × List Nat × Bool} (rc : RRC 41 (rowA replyT 10 fun _ => 0) w W r g q l f (rowA replyT 10 d)) (rd : reads (replySlots.drop 2) (rowA replyT 10 d) l f = R) (hl : l.length ≤ 500) (gl : g < q) : RRI w W r g q (.slice none 0 0) 0 l f d d R :=
  ⟨rc, World.ownsRow_nil _ _ _ _, rd, hl, rfl, rfl, gl⟩
theorem RRI.own2 {w W W1 : World} {r g q : Nat} {v : Value} {i : Nat} {l l' : List Nat} {f f' : Bool} {d c : Nat → Int} {R : Array Value × List Nat × Bool} (h : RRI w W r g q v i l f d c R) (he : REyeTo g l' f' W W1) (x : Int) : (W1.alloc (.cells #[.int .u64 x] 22)).ownsRow (q + 1) 22 1 v i (tailV c i) :=
  own_next (ownsRow_fr h.own he.2 (fun k hk e => by have := (h.own.lt k hk).1; have := h.gl; omega)) ((Below.refl _ _).alloc (Nat.le_refl _) _)
theorem slot_drop : ∀ i, i < 8 → replySlots.drop (2 + i) = (0, i + 2) :: replySlots.drop (2 + (i + 1)) ∧ replyT (i + 2) = 0 := by decide
theorem RRI.step {w W W1 W2 : World} {r g q : Nat} {v v' : Value} {i : Nat} {l : List Nat} {f : Bool} {d c : Nat → Int} {R : Array Value × List Nat × Bool} (h : RRI w W r g q v i l f d c R) (hi : i < 8) (he : REyeTo g (numL l) (numF l) W W1) (hg : (W1.alloc (.cells #[.int .u64 ((numR l : Nat) : Int)] 22)).grownBy W2 v.ownBlock) (ho : W2.ownsRow (q + 1) 22 1 v' (i + 1) (tailV c i ++ [.int .u64 ((numR l : Nat) : Int)])) :
    RRI w W2 r g q v' (i + 1) (numL l) (numF l) d (upd c (i + 2) ((numR l : Nat) : Int)) R := by
  obtain ⟨s1, s2⟩ := slot_drop i hi
  refine ⟨((h.rc.look he).next ((Below.refl _ _).alloc (Nat.le_refl _) _)).grown hg h.gl (fun k hk => (h.own.lt k hk).1), ?_, ?_, Nat.le_trans (numL_len h.rc.eye.2.1) h.len, ?_, ?_, h.gl⟩
  · rw [tailV_succ, tailV_upd, show upd c (i + 2) ((numR l : Nat) : Int) (i + 2) = ((numR l : Nat) : Int) from if_pos rfl]
    exact ho
  · have := h.rd
    rw [s1] at this
    exact rstep (s := (0, i + 2)) s2 (by decide : 0 < 9) this
  · rw [h.h0]; exact (if_neg (by omega)).symm
  · rw [h.h1]; exact (if_neg (by omega)).symm

set_option maxHeartbeats 16000000 in
theorem ref_rep_bad (l : List Nat) (w : World) (R : Array Value × List Nat × Bool) (hl : Bytes l) (hl5 : l.length ≤ 500) (hRR : reads replySlots (rowA replyT 10 fun _ => 0) (byteL l) (byteF l false) = R) (hkk : byteR l ≠ 0) :
    Calls Try.prog 10 #[.string (bs l)] w fun e w' => e = .returned (.tuple #[.agg (rowA replyT 10 fun _ => 0), .int .i64 140]) ∧ Below w.heap.size w w' := by
  have HR := Lib.hid hRR
  clear hRR
  have HBY := Lib.hid (And.intro hl hl5)
  clear hl hl5
  obtain ⟨r, hr⟩ : ∃ r, w.heap.size = r := ⟨_, rfl⟩
  rw [hr]
  have HR_ := Lib.hid hr
  clear hr
  go_enter Try.func10, Try.ntmps10
  go_upto_region 2 with (fail)
  rw [zero_reply]
  try rw [HR_.out]
  have a0 := (Blk.new w 41 (rowA replyT 10 fun _ => 0)).alloc (.cells #[.string (bs l), .bool false] 66)
  have a1 : Blk ((w.alloc (.cells (rowA replyT 10 fun _ => 0) 41)).alloc (.cells #[.string (bs l), .bool false] 66)) (w.heap.size + 1) 66 #[.string (bs l), .bool false] := Blk.new_at (by simp)
  have ab : Below w.heap.size w ((w.alloc (.cells (rowA replyT 10 fun _ => 0) 41)).alloc (.cells #[.string (bs l), .bool false] 66)) := by go_grown
  have az : ((w.alloc (.cells (rowA replyT 10 fun _ => 0) 41)).alloc (.cells #[.string (bs l), .bool false] 66)).heap.size = w.heap.size + 2 := by simp
  rw [HR_.out] at a0 a1 ab az
  generalize (w.alloc (.cells (rowA replyT 10 fun _ => 0) 41)).alloc (.cells #[.string (bs l), .bool false] 66) = w1 at a0 a1 ab az ⊢
  have he : REyeAt w1 (r + 1) l false := ⟨a1, HBY.out.1, fun e => by cases e⟩
  have HA := Lib.hid (And.intro a0 (And.intro he (And.intro ab az)))
  clear a0 a1 ab az he
  go_wp2_with fail
  with_reducible refine (reyeByte (r + 1) l false w1 HA.out.2.1).mono ?_
  rintro e w3 ⟨rfl, he, hf⟩
  have H3 := Lib.hid (And.intro he hf)
  clear he hf
  obtain ⟨k, hk⟩ : ∃ k, byteR l = k := ⟨_, rfl⟩
  rw [hk] at hkk ⊢
  have HK := Lib.hid (And.intro hkk hk)
  clear hkk hk
  have HL : Hid ((byteL l).length ≤ 500) := Nat.le_trans (by cases l <;> simp [byteL]) HBY.out.2
  have HY : Hid (Bytes (byteL l)) := byteL_bytes HBY.out.1
  generalize byteL l = la0 at H3 HR HL HY
  generalize byteF l false = fa0 at H3 HR
  clear HBY
  go_wp2_with fail
  with_reducible refine (reyeInt (r + 1) la0 fa0 w3 H3.out.1 (Nat.le_trans HL.out (by decide))).mono ?_
  rintro e w4 ⟨rfl, he, hf⟩
  have H4 := Lib.hid (And.intro he (H3.out.2.trans hf))
  clear he hf H3
  go_upto_region 4 with (first | (refine wpList_store_part rfl 41 _ _ rfl _ 0 _ rfl rfl 41 _ (Blk.new_at (by simp)) (by simp) (by kernel_rfl) (by simp [Value.oneCell']) ?_; intro w5 hb5 hf5; rw [zero_reply, code_reply, rowA_whole] at hb5; rw [zero_reply] at hf5; rw [code_reply (unz (numR la0))]; have H5 := Lib.hid (And.intro hb5 hf5); clear hb5 hf5))
  obtain ⟨q, hq⟩ : ∃ q, w4.heap.size = q := ⟨_, rfl⟩
  obtain ⟨g, hg⟩ : ∃ g, r + 1 = g := ⟨_, rfl⟩
  rw [hq] at H5 ⊢
  rw [hg] at H4 HA ⊢
  have HG : Hid (g < q) := by
    have z1 := HA.out.2.2.2
    have z3 := H4.out.2.size
    show g < q
    omega
  have HC : Hid (RRC 41 (rowA replyT 10 fun _ => 0) w w5 r g q (numL la0) (numF la0) (rowA replyT 10 (upd (fun _ => 0) 0 (unz (numR la0))))) := by
    have z1 := HA.out.2.2.2
    have z3 := H4.out.2.size
    have b3 : Below r w w4 := HA.out.2.2.1.trans (H4.out.2.below (by omega) (fun j hj e => by omega))
    exact ⟨((HA.out.1.fr H4.out.2 (by omega)).alloc _).fr H5.out.2 (by omega), (H4.out.1.below ((Below.refl _ _).alloc (Nat.le_refl _) _)).fr H5.out.2 (by omega), H5.out.1, (b3.alloc (by omega) _).trans (H5.out.2.below (by rw [World.size_alloc]; omega) (fun j hj e => by omega)), by omega, by omega, by omega, by omega, by omega⟩
  clear hq hg H5 H4 HA
  have HR1 : Hid (reads (replySlots.drop 1) (rowA replyT 10 (upd (fun _ => 0) 0 (unz (numR la0)))) (numL la0) (numF la0) = R) := rstep (ty := replyT) (s := (2, 0)) rfl (by decide) HR.out
  have HL1 : Hid ((numL la0).length ≤ 500) := Nat.le_trans (numL_len HY.out) HL.out
  have HY1 : Hid (Bytes (numL la0)) := rdL_bytes (t := 0) HY.out
  clear HR HL HY
  generalize upd (fun _ => 0) 0 (unz (numR la0)) = c1 at HC HR1 ⊢
  generalize numL la0 = la1 at HC HR1 HL1 HY1
  generalize numF la0 = fa1 at HC HR1
  go_wp2_with fail
  with_reducible refine (reyeNum g la1 fa1 w5 HC.out.eye (Nat.le_trans HL1.out (by decide))).mono ?_
  rintro e w6 ⟨rfl, he⟩
  have HCa := Lib.hid (HC.out.look he)
  obtain ⟨u1, cq⟩ : ∃ u, w6.cell? ⟨q, 1, none⟩ = some u := ⟨_, HCa.out.blk.get 1 (rowA_get (by decide))⟩
  have fq : w6.frozen? ⟨q, 1, none⟩ = false := Blk.frozen HCa.out.blk 1
  have HCb : Hid (RRC 41 (rowA replyT 10 fun _ => 0) w (w6.setCell ⟨q, 1, none⟩ (.int .u64 ((numR la1 : Nat) : Int))) r g q (numL la1) (numF la1) (rowA replyT 10 (upd c1 1 ((numR la1 : Nat) : Int)))) := by
    have h := HCa.out.cell 1 (.int .u64 ((numR la1 : Nat) : Int))
    have e : (rowA replyT 10 c1).setIfInBounds 1 (.int .u64 ((numR la1 : Nat) : Int)) = rowA replyT 10 (upd c1 1 ((numR la1 : Nat) : Int)) := set_row (s := (0, 1)) rfl (by decide) c1 ((numR la1 : Nat) : Int)
    rw [e] at h
    exact h
  have HRb : Hid (reads (replySlots.drop 2) (rowA replyT 10 (upd c1 1 ((numR la1 : Nat) : Int))) (numL la1) (numF la1) = R) := rstep (ty := replyT) (s := (0, 1)) rfl (by decide) HR1.out
  have HLb : Hid ((numL la1).length ≤ 500) := Nat.le_trans (numL_len HY1.out) HL1.out
  clear HC HCa HR1 HL1 HY1 he
  go_upto_region 5 with (fail)
  clear cq fq
  generalize w6.setCell ⟨q, 1, none⟩ (.int .u64 ((numR la1 : Nat) : Int)) = w7 at HCb ⊢
  have HI0 := Lib.hid (RRI.nil HCb.out HRb.out HLb.out HG.out)
  clear HCb HRb HLb HG
  generalize numL la1 = la2 at HI0
  generalize numF la1 = fa2 at HI0
  generalize upd c1 1 ((numR la1 : Nat) : Int) = c2 at HI0
  obtain ⟨i0, hi, hz0, hz1, hz2⟩ := info_parts (show (Try.prog.info? 22).map (fun i => (i.zero, i.size, i.bytes)) = some (some (.int .u64 0), 1, 8) by kernel_rfl)
  have HIF := Lib.hid (And.intro hi (And.intro hz0 (And.intro hz1 hz2)))
  clear hi hz0 hz1 hz2
  go_wp2_with fail
  go_loopg [7, 8] 8 (fun gk lv ix wr => ∃ (v : Value) (i : Nat) (la : List Nat) (fa : Bool) (ca : Nat → Int), lv = v ∧ i + gk = 8 ∧ ix = .int .i64 i ∧ RRI w wr r g q v i la fa c2 ca R)
  case atStart => exact ⟨_, 0, la2, fa2, c2, rfl, by omega, rfl, HI0.out⟩
  case round =>
    obtain ⟨v, i, la, fa, ca, rfl, hi8, rfl, HI⟩ := hrel
    have HI := Lib.hid HI
    clear HI0
    by_cases hlt : i < 8
    · obtain ⟨gm, rfl⟩ : ∃ gm, gk = gm + 1 := ⟨gk - 1, by omega⟩
      have hlt' : (i : Int) < 8 := by omega
      go_wp2_with fail
      with_reducible refine (reyeNum g la fa wr HI.out.rc.eye (Nat.le_trans HI.out.len (by decide))).mono ?_
      rintro e wa ⟨rfl, he⟩
      have HE := Lib.hid he
      have hyH := Lib.hid (HI.out.own2 he ((numR la : Nat) : Int))
      have hnw : (wa.alloc (.cells #[.int .u64 ((numR la : Nat) : Int)] 22)).cell? ⟨wa.heap.size, 0, none⟩ = some (.int .u64 ((numR la : Nat) : Int)) := (Blk.new wa 22 #[.int .u64 ((numR la : Nat) : Int)]).get 0 rfl
      have HN := Lib.hid hnw
      have HQ : Hid (q + 1 ≤ wa.heap.size) := (HI.out.rc.look he).blk.lt
      have hm1 : i + 1 ≤ maxLen := by unfold maxLen; omega
      obtain ⟨hi, hz0, hz1, hz2⟩ := HIF.out
      clear he hnw
      go_wp2_with (at_builtin; refine wpList_append_own_at _ rfl _ _ 72 rfl (q + 1) 22 i0 (.int .u64 0) 1 8 Try.underlying72 hi hz0 hz1 hz2 rfl (by decide) _ i (tailV ca i) rfl hyH.out ⟨wa.heap.size, 0, none⟩ 1 1 [.int .u64 ((numR la : Nat) : Int)] rfl rfl ?c1 ?c2 hm1 (by omega) (by rw [World.size_alloc]; have := HQ.out; omega) ?_)
      case c1 =>
        intro j u hj
        match j, hj with
        | 0, hj => simp at hj; subst hj; exact HN.out
      case c2 => intro u hu; rw [List.mem_singleton] at hu; subst hu; rfl
      intro v2 wb hown3 hgrow3 _ hat3
      have HK2 := Lib.hid (HI.out.step hlt HE.out hgrow3 hown3)
      clear hown3 hgrow3 hat3 hyH HN HE HI
      go_wp2_with fail
      go_roundg gm
      case rel => exact ⟨v2, i + 1, _, _, _, rfl, by omega, by go_num, HK2.out⟩
      case measure => omega
    · obtain rfl : gk = 0 := by omega
      obtain rfl : i = 8 := by omega
      have hk0 : ((k : Int) == 0) = false := beq_eq_false_iff_ne.2 (by have := HK.out.1; omega)
      have hk1 : ((k : Int) != 0) = true := by unfold bne; rw [hk0]; rfl
      go_wp2_with (first | (refine wpList_store_part rfl 41 _ _ rfl r 0 _ rfl rfl 41 _ HI.out.rc.res (by simp [rowA_size]) (by first | (rw [rowA_size]; kernel_rfl) | kernel_rfl) (by first | exact rowA_one | simp [Value.oneCell']) ?_; intro w9 hb9 hf9; rw [zero_reply, rowA_whole] at hb9; have H9 := Lib.hid (HI.out.rc.put hb9 hf9); clear hb9 hf9))
      refine result_blk2 (k := 2) (j := 3) rfl rfl rfl H9.out.res Try.underlying41 rfl (by rw [rowA_size]; kernel_rfl) rfl ?_
      exact ⟨rfl, H9.out.below⟩

set_option maxHeartbeats 16000000 in
theorem ref_rep_end (l : List Nat) (w : World) (R : Array Value × List Nat × Bool) (hl : Bytes l) (hl5 : l.length ≤ 500) (hRR : reads replySlots (rowA replyT 10 fun _ => 0) (byteL l) (byteF l false) = R) (hkk : byteR l = 0) (hD : doneB R.2.1 R.2.2 = false) :
    Calls Try.prog 10 #[.string (bs l)] w fun e w' => e = .returned (.tuple #[.agg (rowA replyT 10 fun _ => 0), .int .i64 140]) ∧ Below w.heap.size w w' := by
  have HR := Lib.hid hRR
  clear hRR
  have HBY := Lib.hid (And.intro hl hl5)
  clear hl hl5
  have HD := Lib.hid hD
  clear hD
  obtain ⟨r, hr⟩ : ∃ r, w.heap.size = r := ⟨_, rfl⟩
  rw [hr]
  have HR_ := Lib.hid hr
  clear hr
  go_enter Try.func10, Try.ntmps10
  go_upto_region 2 with (fail)
  rw [zero_reply]
  try rw [HR_.out]
  have a0 := (Blk.new w 41 (rowA replyT 10 fun _ => 0)).alloc (.cells #[.string (bs l), .bool false] 66)
  have a1 : Blk ((w.alloc (.cells (rowA replyT 10 fun _ => 0) 41)).alloc (.cells #[.string (bs l), .bool false] 66)) (w.heap.size + 1) 66 #[.string (bs l), .bool false] := Blk.new_at (by simp)
  have ab : Below w.heap.size w ((w.alloc (.cells (rowA replyT 10 fun _ => 0) 41)).alloc (.cells #[.string (bs l), .bool false] 66)) := by go_grown
  have az : ((w.alloc (.cells (rowA replyT 10 fun _ => 0) 41)).alloc (.cells #[.string (bs l), .bool false] 66)).heap.size = w.heap.size + 2 := by simp
  rw [HR_.out] at a0 a1 ab az
  generalize (w.alloc (.cells (rowA replyT 10 fun _ => 0) 41)).alloc (.cells #[.string (bs l), .bool false] 66) = w1 at a0 a1 ab az ⊢
  have he : REyeAt w1 (r + 1) l false := ⟨a1, HBY.out.1, fun e => by cases e⟩
  have HA := Lib.hid (And.intro a0 (And.intro he (And.intro ab az)))
  clear a0 a1 ab az he
  go_wp2_with fail
  with_reducible refine (reyeByte (r + 1) l false w1 HA.out.2.1).mono ?_
  rintro e w3 ⟨rfl, he, hf⟩
  have H3 := Lib.hid (And.intro he hf)
  clear he hf
  obtain ⟨k, hk⟩ : ∃ k, byteR l = k := ⟨_, rfl⟩
  rw [hk] at hkk ⊢
  have HK := Lib.hid (And.intro hkk hk)
  clear hkk hk
  have HL : Hid ((byteL l).length ≤ 500) := Nat.le_trans (by cases l <;> simp [byteL]) HBY.out.2
  have HY : Hid (Bytes (byteL l)) := byteL_bytes HBY.out.1
  generalize byteL l = la0 at H3 HR HL HY
  generalize byteF l false = fa0 at H3 HR
  clear HBY
  go_wp2_with fail
  with_reducible refine (reyeInt (r + 1) la0 fa0 w3 H3.out.1 (Nat.le_trans HL.out (by decide))).mono ?_
  rintro e w4 ⟨rfl, he, hf⟩
  have H4 := Lib.hid (And.intro he (H3.out.2.trans hf))
  clear he hf H3
  go_upto_region 4 with (first | (refine wpList_store_part rfl 41 _ _ rfl _ 0 _ rfl rfl 41 _ (Blk.new_at (by simp)) (by simp) (by kernel_rfl) (by simp [Value.oneCell']) ?_; intro w5 hb5 hf5; rw [zero_reply, code_reply, rowA_whole] at hb5; rw [zero_reply] at hf5; rw [code_reply (unz (numR la0))]; have H5 := Lib.hid (And.intro hb5 hf5); clear hb5 hf5))
  obtain ⟨q, hq⟩ : ∃ q, w4.heap.size = q := ⟨_, rfl⟩
  obtain ⟨g, hg⟩ : ∃ g, r + 1 = g := ⟨_, rfl⟩
  rw [hq] at H5 ⊢
  rw [hg] at H4 HA ⊢
  have HG : Hid (g < q) := by
    have z1 := HA.out.2.2.2
    have z3 := H4.out.2.size
    show g < q
    omega
  have HC : Hid (RRC 41 (rowA replyT 10 fun _ => 0) w w5 r g q (numL la0) (numF la0) (rowA replyT 10 (upd (fun _ => 0) 0 (unz (numR la0))))) := by
    have z1 := HA.out.2.2.2
    have z3 := H4.out.2.size
    have b3 : Below r w w4 := HA.out.2.2.1.trans (H4.out.2.below (by omega) (fun j hj e => by omega))
    exact ⟨((HA.out.1.fr H4.out.2 (by omega)).alloc _).fr H5.out.2 (by omega), (H4.out.1.below ((Below.refl _ _).alloc (Nat.le_refl _) _)).fr H5.out.2 (by omega), H5.out.1, (b3.alloc (by omega) _).trans (H5.out.2.below (by rw [World.size_alloc]; omega) (fun j hj e => by omega)), by omega, by omega, by omega, by omega, by omega⟩
  clear hq hg H5 H4 HA
  have HR1 : Hid (reads (replySlots.drop 1) (rowA replyT 10 (upd (fun _ => 0) 0 (unz (numR la0)))) (numL la0) (numF la0) = R) := rstep (ty := replyT) (s := (2, 0)) rfl (by decide) HR.out
  have HL1 : Hid ((numL la0).length ≤ 500) := Nat.le_trans (numL_len HY.out) HL.out
  have HY1 : Hid (Bytes (numL la0)) := rdL_bytes (t := 0) HY.out
  clear HR HL HY
  generalize upd (fun _ => 0) 0 (unz (numR la0)) = c1 at HC HR1 ⊢
  generalize numL la0 = la1 at HC HR1 HL1 HY1
  generalize numF la0 = fa1 at HC HR1
  go_wp2_with fail
  with_reducible refine (reyeNum g la1 fa1 w5 HC.out.eye (Nat.le_trans HL1.out (by decide))).mono ?_
  rintro e w6 ⟨rfl, he⟩
  have HCa := Lib.hid (HC.out.look he)
  obtain ⟨u1, cq⟩ : ∃ u, w6.cell? ⟨q, 1, none⟩ = some u := ⟨_, HCa.out.blk.get 1 (rowA_get (by decide))⟩
  have fq : w6.frozen? ⟨q, 1, none⟩ = false := Blk.frozen HCa.out.blk 1
  have HCb : Hid (RRC 41 (rowA replyT 10 fun _ => 0) w (w6.setCell ⟨q, 1, none⟩ (.int .u64 ((numR la1 : Nat) : Int))) r g q (numL la1) (numF la1) (rowA replyT 10 (upd c1 1 ((numR la1 : Nat) : Int)))) := by
    have h := HCa.out.cell 1 (.int .u64 ((numR la1 : Nat) : Int))
    have e : (rowA replyT 10 c1).setIfInBounds 1 (.int .u64 ((numR la1 : Nat) : Int)) = rowA replyT 10 (upd c1 1 ((numR la1 : Nat) : Int)) := set_row (s := (0, 1)) rfl (by decide) c1 ((numR la1 : Nat) : Int)
    rw [e] at h
    exact h
  have HRb : Hid (reads (replySlots.drop 2) (rowA replyT 10 (upd c1 1 ((numR la1 : Nat) : Int))) (numL la1) (numF la1) = R) := rstep (ty := replyT) (s := (0, 1)) rfl (by decide) HR1.out
  have HLb : Hid ((numL la1).length ≤ 500) := Nat.le_trans (numL_len HY1.out) HL1.out
  clear HC HCa HR1 HL1 HY1 he
  go_upto_region 5 with (fail)
  clear cq fq
  generalize w6.setCell ⟨q, 1, none⟩ (.int .u64 ((numR la1 : Nat) : Int)) = w7 at HCb ⊢
  have HI0 := Lib.hid (RRI.nil HCb.out HRb.out HLb.out HG.out)
  clear HCb HRb HLb HG
  generalize numL la1 = la2 at HI0
  generalize numF la1 = fa2 at HI0
  generalize upd c1 1 ((numR la1 : Nat) : Int) = c2 at HI0
  obtain ⟨i0, hi, hz0, hz1, hz2⟩ := info_parts (show (Try.prog.info? 22).map (fun i => (i.zero, i.size, i.bytes)) = some (some (.int .u64 0), 1, 8) by kernel_rfl)
  have HIF := Lib.hid (And.intro hi (And.intro hz0 (And.intro hz1 hz2)))
  clear hi hz0 hz1 hz2
  go_wp2_with fail
  go_loopg [7, 8] 8 (fun gk lv ix wr => ∃ (v : Value) (i : Nat) (la : List Nat) (fa : Bool) (ca : Nat → Int), lv = v ∧ i + gk = 8 ∧ ix = .int .i64 i ∧ RRI w wr r g q v i la fa c2 ca R)
  case atStart => exact ⟨_, 0, la2, fa2, c2, rfl, by omega, rfl, HI0.out⟩
  case round =>
    obtain ⟨v, i, la, fa, ca, rfl, hi8, rfl, HI⟩ := hrel
    have HI := Lib.hid HI
    clear HI0
    by_cases hlt : i < 8
    · obtain ⟨gm, rfl⟩ : ∃ gm, gk = gm + 1 := ⟨gk - 1, by omega⟩
      have hlt' : (i : Int) < 8 := by omega
      go_wp2_with fail
      with_reducible refine (reyeNum g la fa wr HI.out.rc.eye (Nat.le_trans HI.out.len (by decide))).mono ?_
      rintro e wa ⟨rfl, he⟩
      have HE := Lib.hid he
      have hyH := Lib.hid (HI.out.own2 he ((numR la : Nat) : Int))
      have hnw : (wa.alloc (.cells #[.int .u64 ((numR la : Nat) : Int)] 22)).cell? ⟨wa.heap.size, 0, none⟩ = some (.int .u64 ((numR la : Nat) : Int)) := (Blk.new wa 22 #[.int .u64 ((numR la : Nat) : Int)]).get 0 rfl
      have HN := Lib.hid hnw
      have HQ : Hid (q + 1 ≤ wa.heap.size) := (HI.out.rc.look he).blk.lt
      have hm1 : i + 1 ≤ maxLen := by unfold maxLen; omega
      obtain ⟨hi, hz0, hz1, hz2⟩ := HIF.out
      clear he hnw
      go_wp2_with (at_builtin; refine wpList_append_own_at _ rfl _ _ 72 rfl (q + 1) 22 i0 (.int .u64 0) 1 8 Try.underlying72 hi hz0 hz1 hz2 rfl (by decide) _ i (tailV ca i) rfl hyH.out ⟨wa.heap.size, 0, none⟩ 1 1 [.int .u64 ((numR la : Nat) : Int)] rfl rfl ?c1 ?c2 hm1 (by omega) (by rw [World.size_alloc]; have := HQ.out; omega) ?_)
      case c1 =>
        intro j u hj
        match j, hj with
        | 0, hj => simp at hj; subst hj; exact HN.out
      case c2 => intro u hu; rw [List.mem_singleton] at hu; subst hu; rfl
      intro v2 wb hown3 hgrow3 _ hat3
      have HK2 := Lib.hid (HI.out.step hlt HE.out hgrow3 hown3)
      clear hown3 hgrow3 hat3 hyH HN HE HI
      go_wp2_with fail
      go_roundg gm
      case rel => exact ⟨v2, i + 1, _, _, _, rfl, by omega, by go_num, HK2.out⟩
      case measure => omega
    · obtain rfl : gk = 0 := by omega
      obtain rfl : i = 8 := by omega
      have hk0 : ((k : Int) == 0) = true := beq_iff_eq.2 (by have := HK.out.1; omega)
      have hk1 : ((k : Int) != 0) = false := by unfold bne; rw [hk0]; rfl
      obtain rfl : (rowA replyT 10 ca, la, fa) = R := HI.out.rd
      go_wp2_with fail
      with_reducible refine (reyeDone g la fa _ HI.out.rc.eye).mono ?_
      rintro e wx ⟨rfl, rfl⟩
      have hd : doneB la fa = false := HD.out
      rw [hd]
      clear hd
      go_wp2_with (first | (refine wpList_store_part rfl 41 _ _ rfl r 0 _ rfl rfl 41 _ HI.out.rc.res (by simp [rowA_size]) (by first | (rw [rowA_size]; kernel_rfl) | kernel_rfl) (by first | exact rowA_one | simp [Value.oneCell']) ?_; intro w9 hb9 hf9; rw [zero_reply, rowA_whole] at hb9; have H9 := Lib.hid (HI.out.rc.put hb9 hf9); clear hb9 hf9))
      refine result_blk2 (k := 2) (j := 3) rfl rfl rfl H9.out.res Try.underlying41 rfl (by rw [rowA_size]; kernel_rfl) rfl ?_
      exact ⟨rfl, H9.out.below⟩

set_option maxHeartbeats 16000000 in
theorem ref_rep_ok (l : List Nat) (w : World) (R : Array Value × List Nat × Bool) (hl : Bytes l) (hl5 : l.length ≤ 500) (hRR : reads replySlots (rowA replyT 10 fun _ => 0) (byteL l) (byteF l false) = R) (hkk : byteR l = 0) (hD : doneB R.2.1 R.2.2 = true) :
    Calls Try.prog 10 #[.string (bs l)] w fun e w' => e = .returned (.tuple #[.agg R.1, .int .i64 0]) ∧ Below w.heap.size w w' := by
  have HR := Lib.hid hRR
  clear hRR
  have HBY := Lib.hid (And.intro hl hl5)
  clear hl hl5
  have HD := Lib.hid hD
  clear hD
  obtain ⟨r, hr⟩ : ∃ r, w.heap.size = r := ⟨_, rfl⟩
  rw [hr]
  have HR_ := Lib.hid hr
  clear hr
  go_enter Try.func10, Try.ntmps10
  go_upto_region 2 with (fail)
  rw [zero_reply]
  try rw [HR_.out]
  have a0 := (Blk.new w 41 (rowA replyT 10 fun _ => 0)).alloc (.cells #[.string (bs l), .bool false] 66)
  have a1 : Blk ((w.alloc (.cells (rowA replyT 10 fun _ => 0) 41)).alloc (.cells #[.string (bs l), .bool false] 66)) (w.heap.size + 1) 66 #[.string (bs l), .bool false] := Blk.new_at (by simp)
  have ab : Below w.heap.size w ((w.alloc (.cells (rowA replyT 10 fun _ => 0) 41)).alloc (.cells #[.string (bs l), .bool false] 66)) := by go_grown
  have az : ((w.alloc (.cells (rowA replyT 10 fun _ => 0) 41)).alloc (.cells #[.string (bs l), .bool false] 66)).heap.size = w.heap.size + 2 := by simp
  rw [HR_.out] at a0 a1 ab az
  generalize (w.alloc (.cells (rowA replyT 10 fun _ => 0) 41)).alloc (.cells #[.string (bs l), .bool false] 66) = w1 at a0 a1 ab az ⊢
  have he : REyeAt w1 (r + 1) l false := ⟨a1, HBY.out.1, fun e => by cases e⟩
  have HA := Lib.hid (And.intro a0 (And.intro he (And.intro ab az)))
  clear a0 a1 ab az he
  go_wp2_with fail
  with_reducible refine (reyeByte (r + 1) l false w1 HA.out.2.1).mono ?_
  rintro e w3 ⟨rfl, he, hf⟩
  have H3 := Lib.hid (And.intro he hf)
  clear he hf
  obtain ⟨k, hk⟩ : ∃ k, byteR l = k := ⟨_, rfl⟩
  rw [hk] at hkk ⊢
  have HK := Lib.hid (And.intro hkk hk)
  clear hkk hk
  have HL : Hid ((byteL l).length ≤ 500) := Nat.le_trans (by cases l <;> simp [byteL]) HBY.out.2
  have HY : Hid (Bytes (byteL l)) := byteL_bytes HBY.out.1
  generalize byteL l = la0 at H3 HR HL HY
  generalize byteF l false = fa0 at H3 HR
  clear HBY
  go_wp2_with fail
  with_reducible refine (reyeInt (r + 1) la0 fa0 w3 H3.out.1 (Nat.le_trans HL.out (by decide))).mono ?_
  rintro e w4 ⟨rfl, he, hf⟩
  have H4 := Lib.hid (And.intro he (H3.out.2.trans hf))
  clear he hf H3
  go_upto_region 4 with (first | (refine wpList_store_part rfl 41 _ _ rfl _ 0 _ rfl rfl 41 _ (Blk.new_at (by simp)) (by simp) (by kernel_rfl) (by simp [Value.oneCell']) ?_; intro w5 hb5 hf5; rw [zero_reply, code_reply, rowA_whole] at hb5; rw [zero_reply] at hf5; rw [code_reply (unz (numR la0))]; have H5 := Lib.hid (And.intro hb5 hf5); clear hb5 hf5))
  obtain ⟨q, hq⟩ : ∃ q, w4.heap.size = q := ⟨_, rfl⟩
  obtain ⟨g, hg⟩ : ∃ g, r + 1 = g := ⟨_, rfl⟩
  rw [hq] at H5 ⊢
  rw [hg] at H4 HA ⊢
  have HG : Hid (g < q) := by
    have z1 := HA.out.2.2.2
    have z3 := H4.out.2.size
    show g < q
    omega
  have HC : Hid (RRC 41 (rowA replyT 10 fun _ => 0) w w5 r g q (numL la0) (numF la0) (rowA replyT 10 (upd (fun _ => 0) 0 (unz (numR la0))))) := by
    have z1 := HA.out.2.2.2
    have z3 := H4.out.2.size
    have b3 : Below r w w4 := HA.out.2.2.1.trans (H4.out.2.below (by omega) (fun j hj e => by omega))
    exact ⟨((HA.out.1.fr H4.out.2 (by omega)).alloc _).fr H5.out.2 (by omega), (H4.out.1.below ((Below.refl _ _).alloc (Nat.le_refl _) _)).fr H5.out.2 (by omega), H5.out.1, (b3.alloc (by omega) _).trans (H5.out.2.below (by rw [World.size_alloc]; omega) (fun j hj e => by omega)), by omega, by omega, by omega, by omega, by omega⟩
  clear hq hg H5 H4 HA
  have HR1 : Hid (reads (replySlots.drop 1) (rowA replyT 10 (upd (fun _ => 0) 0 (unz (numR la0)))) (numL la0) (numF la0) = R) := rstep (ty := replyT) (s := (2, 0)) rfl (by decide) HR.out
  have HL1 : Hid ((numL la0).length ≤ 500) := Nat.le_trans (numL_len HY.out) HL.out
  have HY1 : Hid (Bytes (numL la0)) := rdL_bytes (t := 0) HY.out
  clear HR HL HY
  generalize upd (fun _ => 0) 0 (unz (numR la0)) = c1 at HC HR1 ⊢
  generalize numL la0 = la1 at HC HR1 HL1 HY1
  generalize numF la0 = fa1 at HC HR1
  go_wp2_with fail
  with_reducible refine (reyeNum g la1 fa1 w5 HC.out.eye (Nat.le_trans HL1.out (by decide))).mono ?_
  rintro e w6 ⟨rfl, he⟩
  have HCa := Lib.hid (HC.out.look he)
  obtain ⟨u1, cq⟩ : ∃ u, w6.cell? ⟨q, 1, none⟩ = some u := ⟨_, HCa.out.blk.get 1 (rowA_get (by decide))⟩
  have fq : w6.frozen? ⟨q, 1, none⟩ = false := Blk.frozen HCa.out.blk 1
  have HCb : Hid (RRC 41 (rowA replyT 10 fun _ => 0) w (w6.setCell ⟨q, 1, none⟩ (.int .u64 ((numR la1 : Nat) : Int))) r g q (numL la1) (numF la1) (rowA replyT 10 (upd c1 1 ((numR la1 : Nat) : Int)))) := by
    have h := HCa.out.cell 1 (.int .u64 ((numR la1 : Nat) : Int))
    have e : (rowA replyT 10 c1).setIfInBounds 1 (.int .u64 ((numR la1 : Nat) : Int)) = rowA replyT 10 (upd c1 1 ((numR la1 : Nat) : Int)) := set_row (s := (0, 1)) rfl (by decide) c1 ((numR la1 : Nat) : Int)
    rw [e] at h
    exact h
  have HRb : Hid (reads (replySlots.drop 2) (rowA replyT 10 (upd c1 1 ((numR la1 : Nat) : Int))) (numL la1) (numF la1) = R) := rstep (ty := replyT) (s := (0, 1)) rfl (by decide) HR1.out
  have HLb : Hid ((numL la1).length ≤ 500) := Nat.le_trans (numL_len HY1.out) HL1.out
  clear HC HCa HR1 HL1 HY1 he
  go_upto_region 5 with (fail)
  clear cq fq
  generalize w6.setCell ⟨q, 1, none⟩ (.int .u64 ((numR la1 : Nat) : Int)) = w7 at HCb ⊢
  have HI0 := Lib.hid (RRI.nil HCb.out HRb.out HLb.out HG.out)
  clear HCb HRb HLb HG
  generalize numL la1 = la2 at HI0
  generalize numF la1 = fa2 at HI0
  generalize upd c1 1 ((numR la1 : Nat) : Int) = c2 at HI0
  obtain ⟨i0, hi, hz0, hz1, hz2⟩ := info_parts (show (Try.prog.info? 22).map (fun i => (i.zero, i.size, i.bytes)) = some (some (.int .u64 0), 1, 8) by kernel_rfl)
  have HIF := Lib.hid (And.intro hi (And.intro hz0 (And.intro hz1 hz2)))
  clear hi hz0 hz1 hz2
  go_wp2_with fail
  go_loopg [7, 8] 8 (fun gk lv ix wr => ∃ (v : Value) (i : Nat) (la : List Nat) (fa : Bool) (ca : Nat → Int), lv = v ∧ i + gk = 8 ∧ ix = .int .i64 i ∧ RRI w wr r g q v i la fa c2 ca R)
  case atStart => exact ⟨_, 0, la2, fa2, c2, rfl, by omega, rfl, HI0.out⟩
  case round =>
    obtain ⟨v, i, la, fa, ca, rfl, hi8, rfl, HI⟩ := hrel
    have HI := Lib.hid HI
    clear HI0
    by_cases hlt : i < 8
    · obtain ⟨gm, rfl⟩ : ∃ gm, gk = gm + 1 := ⟨gk - 1, by omega⟩
      have hlt' : (i : Int) < 8 := by omega
      go_wp2_with fail
      with_reducible refine (reyeNum g la fa wr HI.out.rc.eye (Nat.le_trans HI.out.len (by decide))).mono ?_
      rintro e wa ⟨rfl, he⟩
      have HE := Lib.hid he
      have hyH := Lib.hid (HI.out.own2 he ((numR la : Nat) : Int))
      have hnw : (wa.alloc (.cells #[.int .u64 ((numR la : Nat) : Int)] 22)).cell? ⟨wa.heap.size, 0, none⟩ = some (.int .u64 ((numR la : Nat) : Int)) := (Blk.new wa 22 #[.int .u64 ((numR la : Nat) : Int)]).get 0 rfl
      have HN := Lib.hid hnw
      have HQ : Hid (q + 1 ≤ wa.heap.size) := (HI.out.rc.look he).blk.lt
      have hm1 : i + 1 ≤ maxLen := by unfold maxLen; omega
      obtain ⟨hi, hz0, hz1, hz2⟩ := HIF.out
      clear he hnw
      go_wp2_with (at_builtin; refine wpList_append_own_at _ rfl _ _ 72 rfl (q + 1) 22 i0 (.int .u64 0) 1 8 Try.underlying72 hi hz0 hz1 hz2 rfl (by decide) _ i (tailV ca i) rfl hyH.out ⟨wa.heap.size, 0, none⟩ 1 1 [.int .u64 ((numR la : Nat) : Int)] rfl rfl ?c1 ?c2 hm1 (by omega) (by rw [World.size_alloc]; have := HQ.out; omega) ?_)
      case c1 =>
        intro j u hj
        match j, hj with
        | 0, hj => simp at hj; subst hj; exact HN.out
      case c2 => intro u hu; rw [List.mem_singleton] at hu; subst hu; rfl
      intro v2 wb hown3 hgrow3 _ hat3
      have HK2 := Lib.hid (HI.out.step hlt HE.out hgrow3 hown3)
      clear hown3 hgrow3 hat3 hyH HN HE HI
      go_wp2_with fail
      go_roundg gm
      case rel => exact ⟨v2, i + 1, _, _, _, rfl, by omega, by go_num, HK2.out⟩
      case measure => omega
    · obtain rfl : gk = 0 := by omega
      obtain rfl : i = 8 := by omega
      have hk0 : ((k : Int) == 0) = true := beq_iff_eq.2 (by have := HK.out.1; omega)
      have hk1 : ((k : Int) != 0) = false := by unfold bne; rw [hk0]; rfl
      obtain rfl : (rowA replyT 10 ca, la, fa) = R := HI.out.rd
      go_wp2_with fail
      with_reducible refine (reyeDone g la fa _ HI.out.rc.eye).mono ?_
      rintro e wx ⟨rfl, rfl⟩
      have hd : doneB la fa = true := HD.out
      rw [hd]
      clear hd
      obtain ⟨gv, cv, cur, rfl, hgv, hbv, hcs⟩ := own_blk HI.out.own (by decide)
      go_upto_region 12 with (fail)
      have x0 : wr.cell? ⟨gv, 0, none⟩ = some (.int .u64 (ca 2)) := hbv.get 0 (hcs 0 _ (tailV_get (by decide)))
      have x1 : wr.cell? ⟨gv, 1, none⟩ = some (.int .u64 (ca 3)) := hbv.get 1 (hcs 1 _ (tailV_get (by decide)))
      have x2 : wr.cell? ⟨gv, 2, none⟩ = some (.int .u64 (ca 4)) := hbv.get 2 (hcs 2 _ (tailV_get (by decide)))
      have x3 : wr.cell? ⟨gv, 3, none⟩ = some (.int .u64 (ca 5)) := hbv.get 3 (hcs 3 _ (tailV_get (by decide)))
      have x4 : wr.cell? ⟨gv, 4, none⟩ = some (.int .u64 (ca 6)) := hbv.get 4 (hcs 4 _ (tailV_get (by decide)))
      have x5 : wr.cell? ⟨gv, 5, none⟩ = some (.int .u64 (ca 7)) := hbv.get 5 (hcs 5 _ (tailV_get (by decide)))
      have x6 : wr.cell? ⟨gv, 6, none⟩ = some (.int .u64 (ca 8)) := hbv.get 6 (hcs 6 _ (tailV_get (by decide)))
      have x7 : wr.cell? ⟨gv, 7, none⟩ = some (.int .u64 (ca 9)) := hbv.get 7 (hcs 7 _ (tailV_get (by decide)))
      have HC := Lib.hid (HI.out.rc.next (below_of_drew (Below.refl wr.heap.size wr)))
      go_still_tail 25, (by kernel_rfl)
      have HH := Lib.hid (And.intro HI.out.h0 HI.out.h1)
      clear hcs hbv x0 x1 x2 x3 x4 x5 x6 x7 HI
      go_wp2_with (first | (refine wpList_store_part rfl 39 _ _ rfl q 2 _ rfl rfl 41 _ HC.out.blk (by rw [rowA_size]; simp) (by kernel_rfl) (by simp [Value.oneCell']) ?_; intro wN hbN hfN; rw [reply_tail HH.out.1 HH.out.2] at hbN; have HCN := Lib.hid (HC.out.over hbN hfN); clear hbN hfN) | (refine wpList_load_blk rfl 41 _ rfl q rfl 41 _ _ HCN.out.blk Try.underlying41 rfl (by rw [rowA_size]; kernel_rfl) ?_) | (refine wpList_store_part rfl 41 _ _ rfl r 0 _ rfl rfl 41 _ HCN.out.res (by rw [rowA_size, rowA_size]; decide) (by rw [rowA_size]; kernel_rfl) rowA_one ?_; intro w9 hb9 hf9; rw [rowA_whole] at hb9; have H9 := Lib.hid (HCN.out.put hb9 hf9); clear hb9 hf9))
      refine result_blk2 (k := 2) (j := 3) rfl rfl rfl H9.out.res Try.underlying41 rfl (by rw [rowA_size]; kernel_rfl) rfl ?_
      exact ⟨rfl, H9.out.below⟩

end Go.Proofs.Ytbageagobalgbaa
