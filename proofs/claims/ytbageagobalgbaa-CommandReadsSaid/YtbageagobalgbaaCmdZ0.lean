/-
  The document's ReadCommand.
-/
import Derived.Test.YtbageagobalgbaaProg
import Derived.Test.YtbageagobalgbaaCmdLaw
import Derived.Test.YtbageagobalgbaaOctS
namespace Go.Proofs.Ytbageagobalgbaa
set_option linter.unusedVariables false
set_option linter.unusedSimpArgs false
set_option maxRecDepth 100000
open Go.RowKit

/-- The result's block, the document's eye, what is read into. -/
structure RRC (T : TypeId) (Z : Array Value) (w W : World) (r g q : Nat) (l : List Nat) (f : Bool) (cs : Array Value) : Prop where
  res : Blk W r T Z
  eye : REyeAt W g l f
  blk : Blk W q T cs
  below : Below r w W
  rg : r ≠ g
  rq : r ≠ q
  gq : g ≠ q
  rlg : r ≤ g
  rlq : r ≤ q
section
variable {T : TypeId} {Z : Array Value} {w W W' : World} {r g q : Nat} {l l' : List Nat} {f f' : Bool} {cs cs' : Array Value}
theorem RRC.next (h : RRC T Z w W r g q l f cs) (hb : Below W.heap.size W W') : RRC T Z w W' r g q l f cs :=
  ⟨h.res.next hb, h.eye.below hb, h.blk.next hb, h.below.trans (hb.mono (Nat.le_of_lt h.res.lt)), h.rg, h.rq, h.gq, h.rlg, h.rlq⟩
theorem RRC.look (h : RRC T Z w W r g q l f cs) (k : REyeTo g l' f' W W') : RRC T Z w W' r g q l' f' cs :=
  ⟨h.res.fr k.2 h.rg, k.1, h.blk.fr k.2 (Ne.symm h.gq), h.below.trans (k.2.below (Nat.le_of_lt h.res.lt) (fun j hj e => by have := h.rlg; omega)), h.rg, h.rq, h.gq, h.rlg, h.rlq⟩
theorem RRC.over (h : RRC T Z w W r g q l f cs) (hb : Blk W' q T cs') (hf : Fr (fun k => k = q) W W') : RRC T Z w W' r g q l f cs' :=
  ⟨h.res.fr hf h.rq, h.eye.fr hf h.gq, hb, h.below.trans (hf.below (Nat.le_of_lt h.res.lt) (fun j hj e => by have := h.rlq; omega)), h.rg, h.rq, h.gq, h.rlg, h.rlq⟩
theorem RRC.cell (h : RRC T Z w W r g q l f cs) (p : Nat) (v : Value) : RRC T Z w (W.setCell ⟨q, p, none⟩ v) r g q l f (cs.setIfInBounds p v) :=
  h.over (h.blk.put p v) ((Fr.refl (fun k => k = q) W).setCell (p := ⟨q, p, none⟩) (fun _ => rfl) v)
theorem RRC.put {X : Array Value} (h : RRC T Z w W r g q l f cs) (hb : Blk W' r T X) (hf : Fr (fun k => k = r) W W') : RRC T X w W' r g q l f cs :=
  ⟨hb, h.eye.fr hf (Ne.symm h.rg), h.blk.fr hf (Ne.symm h.rq), h.below.trans (hf.below (Nat.le_of_lt h.res.lt) (fun j hj e => by omega)), h.rg, h.rq, h.gq, h.rlg, h.rlq⟩
end
theorem rstep {ty : Nat → Nat} {n : Nat} {s : Nat × Nat} {L : List (Nat × Nat)} {c : Nat → Int} {l : List Nat} {f : Bool} {R : Array Value × List Nat × Bool} (h1 : ty s.2 = s.1) (h2 : s.1 < 9) (h : reads (s :: L) (rowA ty n c) l f = R) : reads L (rowA ty n (upd c s.2 (rdV s.1 l))) (rdL s.1 l) (rdF s.1 l f) = R := by
  simp only [reads] at h
  rw [set_row h1 h2] at h
  exact h
theorem decB_len {l t : List Nat} {n : Nat} (h : decB 0 l = some (n, t)) (hb : Bytes l) : t.length ≤ l.length := by
  obtain ⟨e, _⟩ := decB_only hb h
  rw [e, List.length_append]
  omega
theorem numL_len {l : List Nat} (hb : Bytes l) : (numL l).length ≤ l.length := by
  cases hd : decB 0 l with
  | none => rw [(num_none hd).2.1]; exact Nat.zero_le _
  | some p => rw [(num_some hd).2.1]; exact decB_len hd hb
theorem flagL_len (l : List Nat) : (flagL l).length ≤ l.length := by
  unfold flagL
  split
  · exact Nat.zero_le _
  · cases l <;> simp [byteL]
theorem rdL_len {t : Nat} {l : List Nat} (hb : Bytes l) : (rdL t l).length ≤ l.length := by
  match t with
  | 0 => exact numL_len hb
  | 1 => exact numL_len hb
  | 2 => exact numL_len hb
  | t + 3 => exact flagL_len l
theorem flag_cell (l : List Nat) : cellV 3 (rdV 3 l) = .bool (flagR l) := by
  show Value.bool (decide ((if flagR l = true then (1 : Int) else 0) = 1)) = _
  cases flagR l <;> rfl
theorem curve_row {c : Nat → Int} {p : Nat} (h0 : cmdT p = 0) (h1 : cmdT (p + 1) = 0) (h2 : cmdT (p + 2) = 0) (x y z : Int) : splice (rowA cmdT 24 c) p (#[.int .u64 x, .int .u64 y, .int .u64 z] : Array Value).toList = rowA cmdT 24 (upd (upd (upd c p x) (p + 1) y) (p + 2) z) := by
  show ((((rowA cmdT 24 c).setIfInBounds p (cellV 0 x)).setIfInBounds (p + 1) (cellV 0 y)).setIfInBounds (p + 2) (cellV 0 z)) = _
  rw [set_row (s := (0, p)) h0 (Nat.zero_lt_succ _), set_row (s := (0, p + 1)) h1 (Nat.zero_lt_succ _), set_row (s := (0, p + 2)) h2 (Nat.zero_lt_succ _)]

/-- What is new was not there: a store into it changes nothing of what was. -/
theorem fr_new {S : Nat → Prop} {w W W' : World} {q : Nat} (h : Fr S w W) (hq : w.heap.size ≤ q) (hf : Fr (fun k => k = q) W W') : Fr S w W' :=
  ⟨hf.os.trans h.os, hf.tape.trans h.tape, hf.output.trans h.output, Nat.le_trans h.size hf.size, fun k hk hn => (hf.block k (Nat.lt_of_lt_of_le hk h.size) (fun e => by omega)).trans (h.block k hk hn)⟩
set_option maxHeartbeats 8000000 in
theorem ref_getcurve (g : Nat) (l : List Nat) (f : Bool) (w : World) (h : REyeAt w g l f) (hl : l.length ≤ 500) :
    Calls Try.prog 24 #[.pointer (some ⟨g, 0, none⟩)] w fun e w' => e = .returned (.agg #[.int .u64 (numR l), .int .u64 (numR (numL l)), .int .u64 (numR (numL (numL l)))]) ∧ REyeTo g (numL (numL (numL l))) (numF (numL (numL l))) w w' := by
  have hb := h.2.1
  have l1 := numL_len hb
  have b1 : Bytes (numL l) := rdL_bytes (t := 0) hb
  have l2 := numL_len b1
  have HL := Lib.hid (And.intro hl (And.intro l1 l2))
  have hg : g < w.heap.size := h.1.lt
  have H := Lib.hid h
  clear h hb hl l1 l2 b1
  go_enter Try.func24, Try.ntmps24
  go_upto_region 1 with (fail)
  have he0 : REyeAt (w.alloc (.cells #[.int .u64 0, .int .u64 0, .int .u64 0] 26)) g l f := H.out.below ((Below.refl _ _).alloc (Nat.le_refl _) _)
  have b0 : Blk (w.alloc (.cells #[.int .u64 0, .int .u64 0, .int .u64 0] 26)) w.heap.size 26 #[.int .u64 0, .int .u64 0, .int .u64 0] := Blk.new w 26 #[.int .u64 0, .int .u64 0, .int .u64 0]
  have f0 : Fr (fun k => k = g) w (w.alloc (.cells #[.int .u64 0, .int .u64 0, .int .u64 0] 26)) := (Fr.refl _ w).alloc _
  obtain ⟨r, hr⟩ : ∃ r, w.heap.size = r := ⟨_, rfl⟩
  have HR0 := Lib.hid hr
  rw [hr] at b0 hg
  try rw [hr]
  have z0 : (w.alloc (.cells #[.int .u64 0, .int .u64 0, .int .u64 0] 26)).heap.size = r + 1 := by rw [World.size_alloc, hr]
  generalize w.alloc (.cells #[.int .u64 0, .int .u64 0, .int .u64 0] 26) = w1 at he0 b0 f0 z0 ⊢
  have H1 := Lib.hid (And.intro he0 (And.intro b0 (And.intro f0 (And.intro hg z0))))
  clear he0 b0 f0 hg hr z0 H
  go_wp2_with fail
  with_reducible refine (reyeNum g l f w1 H1.out.1 (by have := HL.out.1; omega)).mono ?_
  rintro e w2 ⟨rfl, he, hf⟩
  obtain ⟨n0, e0⟩ : ∃ n : Int, ((numR l : Nat) : Int) = n := ⟨_, rfl⟩
  rw [e0]
  have HN0 := Lib.hid e0
  have H2 : Hid (REyeAt w2 g (numL l) (numF l) ∧ Blk w2 r 26 #[.int .u64 0, .int .u64 0, .int .u64 0] ∧ Fr (fun k => k = g) w w2 ∧ g < r ∧ r + 1 ≤ w2.heap.size) := ⟨he, H1.out.2.1.fr hf (by have := H1.out.2.2.2.1; omega), H1.out.2.2.1.trans hf, H1.out.2.2.2.1, by have := H1.out.2.2.2.2; have := hf.size; omega⟩
  clear he hf H1 e0
  go_upto_region 2 with (fail)
  obtain ⟨q, hq⟩ : ∃ q, w2.heap.size = q := ⟨_, rfl⟩
  have H3 : Hid (REyeAt (w2.alloc (.cells #[.int .u64 n0, .int .u64 0, .int .u64 0] 26)) g (numL l) (numF l) ∧ Blk (w2.alloc (.cells #[.int .u64 n0, .int .u64 0, .int .u64 0] 26)) r 26 #[.int .u64 0, .int .u64 0, .int .u64 0] ∧ Blk (w2.alloc (.cells #[.int .u64 n0, .int .u64 0, .int .u64 0] 26)) q 26 #[.int .u64 n0, .int .u64 0, .int .u64 0] ∧ Fr (fun k => k = g) w (w2.alloc (.cells #[.int .u64 n0, .int .u64 0, .int .u64 0] 26)) ∧ g < r ∧ r < q) :=
    ⟨H2.out.1.below ((Below.refl _ _).alloc (Nat.le_refl _) _), H2.out.2.1.alloc _, by rw [← hq]; exact Blk.new w2 26 _, H2.out.2.2.1.alloc _, H2.out.2.2.2.1, by have := H2.out.2.2.2.2; omega⟩
  rw [hq]
  clear hq H2
  generalize w2.alloc (.cells #[.int .u64 n0, .int .u64 0, .int .u64 0] 26) = w3 at H3 ⊢
  go_wp2_with fail
  with_reducible refine (reyeNum g (numL l) (numF l) w3 H3.out.1 (by have := HL.out.1; have := HL.out.2.1; omega)).mono ?_
  rintro e w4 ⟨rfl, he, hf⟩
  obtain ⟨n1, e1⟩ : ∃ n : Int, ((numR (numL l) : Nat) : Int) = n := ⟨_, rfl⟩
  rw [e1]
  have HN1 := Lib.hid e1
  have H4 : Hid (REyeAt w4 g (numL (numL l)) (numF (numL l)) ∧ Blk w4 r 26 #[.int .u64 0, .int .u64 0, .int .u64 0] ∧ Blk w4 q 26 #[.int .u64 n0, .int .u64 0, .int .u64 0] ∧ Fr (fun k => k = g) w w4 ∧ g < r ∧ r < q) :=
    ⟨he, H3.out.2.1.fr hf (by have := H3.out.2.2.2.2.1; omega), H3.out.2.2.1.fr hf (by have := H3.out.2.2.2.2; omega), H3.out.2.2.2.1.trans hf, H3.out.2.2.2.2⟩
  clear he hf H3 e1
  have cq : w4.cell? ⟨q, 1, none⟩ = some (.int .u64 0) := H4.out.2.2.1.get 1 rfl
  have fq := H4.out.2.2.1.frozen 1
  go_upto_region 3 with (fail)
  have H5 : Hid (REyeAt (w4.setCell ⟨q, 1, none⟩ (.int .u64 n1)) g (numL (numL l)) (numF (numL l)) ∧ Blk (w4.setCell ⟨q, 1, none⟩ (.int .u64 n1)) r 26 #[.int .u64 0, .int .u64 0, .int .u64 0] ∧ Blk (w4.setCell ⟨q, 1, none⟩ (.int .u64 n1)) q 26 #[.int .u64 n0, .int .u64 n1, .int .u64 0] ∧ Fr (fun k => k = g) w (w4.setCell ⟨q, 1, none⟩ (.int .u64 n1)) ∧ g < r ∧ r < q) := by
    have F : Fr (fun k => k = q) w4 (w4.setCell ⟨q, 1, none⟩ (.int .u64 n1)) := (Fr.refl (fun k => k = q) w4).setCell (p := ⟨q, 1, none⟩) (fun _ => rfl) _
    have G := H4.out.2.2.2.2
    have z := H4.out.2.1.lt
    exact ⟨H4.out.1.fr F (by omega), H4.out.2.1.fr F (by omega), H4.out.2.2.1.put 1 _, fr_new H4.out.2.2.2.1 (by have := HR0.out; omega) F, G⟩
  clear cq fq H4
  generalize w4.setCell ⟨q, 1, none⟩ (.int .u64 n1) = w5 at H5 ⊢
  go_wp2_with fail
  with_reducible refine (reyeNum g (numL (numL l)) (numF (numL l)) w5 H5.out.1 (by have := HL.out.1; have := HL.out.2.1; have := HL.out.2.2; omega)).mono ?_
  rintro e w6 ⟨rfl, he, hf⟩
  obtain ⟨n2, e2⟩ : ∃ n : Int, ((numR (numL (numL l)) : Nat) : Int) = n := ⟨_, rfl⟩
  rw [e2]
  have HN2 := Lib.hid e2
  have H6 : Hid (REyeAt w6 g (numL (numL (numL l))) (numF (numL (numL l))) ∧ Blk w6 r 26 #[.int .u64 0, .int .u64 0, .int .u64 0] ∧ Blk w6 q 26 #[.int .u64 n0, .int .u64 n1, .int .u64 0] ∧ Fr (fun k => k = g) w w6 ∧ g < r ∧ r < q) :=
    ⟨he, H5.out.2.1.fr hf (by have := H5.out.2.2.2.2.1; omega), H5.out.2.2.1.fr hf (by have := H5.out.2.2.2.2; omega), H5.out.2.2.2.1.trans hf, H5.out.2.2.2.2⟩
  clear he hf H5 e2
  have cq : w6.cell? ⟨q, 2, none⟩ = some (.int .u64 0) := H6.out.2.2.1.get 2 rfl
  have fq := H6.out.2.2.1.frozen 2
  go_upto_region 4 with (fail)
  have H7 : Hid (REyeAt (w6.setCell ⟨q, 2, none⟩ (.int .u64 n2)) g (numL (numL (numL l))) (numF (numL (numL l))) ∧ Blk (w6.setCell ⟨q, 2, none⟩ (.int .u64 n2)) r 26 #[.int .u64 0, .int .u64 0, .int .u64 0] ∧ Blk (w6.setCell ⟨q, 2, none⟩ (.int .u64 n2)) q 26 #[.int .u64 n0, .int .u64 n1, .int .u64 n2] ∧ Fr (fun k => k = g) w (w6.setCell ⟨q, 2, none⟩ (.int .u64 n2)) ∧ g < r ∧ r < q) := by
    have F : Fr (fun k => k = q) w6 (w6.setCell ⟨q, 2, none⟩ (.int .u64 n2)) := (Fr.refl (fun k => k = q) w6).setCell (p := ⟨q, 2, none⟩) (fun _ => rfl) _
    have G := H6.out.2.2.2.2
    exact ⟨H6.out.1.fr F (by omega), H6.out.2.1.fr F (by omega), H6.out.2.2.1.put 2 _, fr_new H6.out.2.2.2.1 (by have := HR0.out; omega) F, G⟩
  clear cq fq H6
  generalize w6.setCell ⟨q, 2, none⟩ (.int .u64 n2) = w7 at H7 ⊢
  go_wp2_with (first | (refine wpList_load_blk rfl 26 _ rfl q rfl 26 _ _ H7.out.2.2.1 Try.underlying26 rfl (by kernel_rfl) ?_) | (refine wpList_store_part rfl 26 _ _ rfl r 0 _ rfl rfl 26 _ H7.out.2.1 (by simp) (by kernel_rfl) (by simp [Value.oneCell']) ?_; intro w9 hb9 hf9; have H9 := Lib.hid (And.intro hb9 hf9); clear hb9 hf9))
  refine result_blk (k := 2) rfl rfl H9.out.1 Try.underlying26 rfl (by kernel_rfl) rfl ?_
  refine ⟨by rw [HN0.out, HN1.out, HN2.out]; rfl, H7.out.1.fr H9.out.2 (by have := H7.out.2.2.2.2; omega), ?_⟩
  exact fr_new H7.out.2.2.2.1 (by have := HR0.out; omega) H9.out.2


end Go.Proofs.Ytbageagobalgbaa
