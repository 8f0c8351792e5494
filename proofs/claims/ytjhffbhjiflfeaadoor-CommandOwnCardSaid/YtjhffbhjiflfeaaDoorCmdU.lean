/-
  What bytes are a command's, a reply's: the plain law, and ReadCommand, ReadReply by it.
-/
import Derived.Test.YtjhffbhjiflfeaaDoorProg
import Derived.Test.YtjhffbhjiflfeaaDoorCmdVR
namespace Go.Proofs.YtjhffbhjiflfeaaDoor
set_option linter.unusedVariables false
set_option linter.unusedSimpArgs false
set_option maxRecDepth 100000
open Go.RowKit

/-- What slots hold put over what was there. -/
def fill (L : List (Nat × Nat)) (c d : Nat → Int) : Nat → Int := fun i => if L.any (fun s => s.2 == i) = true then c i else d i
theorem fill_upd (s : Nat × Nat) (r : List (Nat × Nat)) (c d : Nat → Int) : fill r c (upd d s.2 (c s.2)) = fill (s :: r) c d := by
  funext i
  simp only [fill, upd, List.any_cons, Bool.or_eq_true, beq_iff_eq]
  by_cases h1 : r.any (fun s => s.2 == i) = true
  · rw [if_pos h1, if_pos (Or.inr h1)]
  · rw [if_neg h1]
    by_cases h2 : i = s.2
    · rw [if_pos h2, if_pos (Or.inl h2.symm), h2]
    · rw [if_neg h2, if_neg (by rintro (h | h); exact h2 h.symm; exact h1 h)]
section
variable {ty : Nat → Nat} {n : Nat}
/-- The slots of a row are of its kinds. -/
def SlotsIn (ty : Nat → Nat) (n : Nat) (L : List (Nat × Nat)) : Prop := ∀ s ∈ L, ty s.2 = s.1 ∧ s.1 < 9 ∧ s.2 < n
theorem set_row {s : Nat × Nat} (h1 : ty s.2 = s.1) (h2 : s.1 < 9) (d : Nat → Int) (x : Int) : (rowA ty n d).setIfInBounds s.2 (cellV s.1 x) = rowA ty n (upd d s.2 x) := by
  have e : cellV s.1 x = cellC (ty s.2) x := by rw [h1]; unfold cellC; rw [if_neg (by omega)]
  rw [e, rowA_set]
/-- What was written is read as it was. -/
theorem reads_back : ∀ (L : List (Nat × Nat)) (c d : Nat → Int) (r : List Nat), Bytes r → SlotsIn ty n L → Fits ty n c → reads L (rowA ty n d) (encs c L ++ r) false = (rowA ty n (fill L c d), r, false)
  | [], c, d, r, _, _, _ => rfl
  | s :: L, c, d, r, hr, hs, hf => by
    obtain ⟨h1, h2, h3⟩ := hs s (List.mem_cons_self ..)
    obtain ⟨e1, e2, e3⟩ := rd_back (encs c L ++ r) ((encs_bytes c L).app hr) (slot_fit hf h1 h2 h3)
    simp only [reads, encs, List.append_assoc]
    rw [e1, e2, e3, set_row h1 h2, reads_back L c _ r hr (fun x hx => hs x (List.mem_cons_of_mem _ hx)) hf, fill_upd]
theorem rd_fails {t : Nat} {l : List Nat} (h : rdF t l false = true) : rdL t l = [] := by
  have num : numF l = true → numL l = [] := by
    intro hf
    cases hd : decB 0 l with
    | none => exact (num_none hd).2.1
    | some p => rw [(num_some hd).2.2] at hf; cases hf
  match t, h with
  | 0, h => exact num h
  | 1, h => exact num h
  | 2, h => exact num h
  | t + 3, h =>
    have h : flagF l false = true := h
    show flagL l = []
    unfold flagF at h
    unfold flagL
    split at h
    · rename_i h1; rw [if_pos h1]
    · rename_i h1
      rw [if_neg h1]
      cases l with
      | nil => rfl
      | cons a l => simp [byteF] at h
theorem encs_congr {c d : Nat → Int} : ∀ {L : List (Nat × Nat)}, (∀ s ∈ L, c s.2 = d s.2) → encs c L = encs d L
  | [], _ => rfl
  | s :: L, h => by simp only [encs]; rw [h s (List.mem_cons_self ..), encs_congr fun x hx => h x (List.mem_cons_of_mem _ hx)]
/-- What is read is just what was written. -/
theorem reads_one : ∀ (L : List (Nat × Nat)) (d : Nat → Int) (l : List Nat), Bytes l → SlotsIn ty n L → (L.map (·.2)).Nodup → (reads L (rowA ty n d) l false).2 = ([], false) →
    ∃ c : Nat → Int, (∀ s ∈ L, FitS s.1 (c s.2)) ∧ l = encs c L ∧ (reads L (rowA ty n d) l false).1 = rowA ty n (fill L c d)
  | [], d, l, _, _, _, h => by
    have h : l = [] := congrArg Prod.fst h
    subst h
    exact ⟨d, (fun s hs => absurd hs (List.not_mem_nil)), rfl, rfl⟩
  | s :: L, d, l, hb, hs, hn, h => by
    obtain ⟨h1, h2, h3⟩ := hs s (List.mem_cons_self ..)
    have hs' : SlotsIn ty n L := fun x hx => hs x (List.mem_cons_of_mem _ hx)
    have hn' := List.nodup_cons.1 hn
    simp only [reads] at h ⊢
    rw [set_row h1 h2] at h ⊢
    cases hf : rdF s.1 l false with
    | true =>
      rw [hf, rd_fails hf, reads_dead] at h
      cases h
    | false =>
      rw [hf] at h
      obtain ⟨e1, e2⟩ := rd_one hb hf
      obtain ⟨c, k1, k2, k3⟩ := reads_one L (upd d s.2 (rdV s.1 l)) (rdL s.1 l) (rdL_bytes hb) hs' hn'.2 h
      have ne : ∀ x ∈ L, x.2 ≠ s.2 := fun x hx e => hn'.1 (List.mem_map.2 ⟨x, hx, e⟩)
      have same : ∀ x ∈ L, upd c s.2 (rdV s.1 l) x.2 = c x.2 := fun x hx => by rw [upd, if_neg (ne x hx)]
      have here : upd c s.2 (rdV s.1 l) s.2 = rdV s.1 l := by rw [upd, if_pos rfl]
      refine ⟨upd c s.2 (rdV s.1 l), ?_, ?_, ?_⟩
      · intro x hx
        rcases List.mem_cons.1 hx with rfl | hx
        · rw [here]; exact e2
        · rw [same x hx]; exact k1 x hx
      · simp only [encs]
        rw [here, encs_congr same, ← k2]
        exact e1
      · rw [k3, ← fill_upd, here]
        refine rowA_congr fun i hi => ?_
        simp only [fill]
        by_cases hm : L.any (fun s => s.2 == i) = true
        · rw [if_pos hm, if_pos hm]
          obtain ⟨x, hx, e⟩ := List.any_eq_true.1 hm
          have e : x.2 = i := by simpa using e
          subst e
          exact (same x hx).symm
        · rw [if_neg hm, if_neg hm]
/-- Neither less nor more. -/
theorem encs_free {L : List (Nat × Nat)} {c d : Nat → Int} {r : List Nat} (hr : Bytes r) (hs : SlotsIn ty n L) (hc : Fits ty n c) (hd : Fits ty n d) (h : encs d L = encs c L ++ r) : r = [] := by
  have a := reads_back L c (fun _ => 0) r hr hs hc
  have b := reads_back L d (fun _ => 0) [] (fun x hx => by cases hx) hs hd
  rw [List.append_nil, h] at b
  rw [a] at b
  injection b with _ b
  injection b
theorem encs_same {L : List (Nat × Nat)} {c d : Nat → Int} (hs : SlotsIn ty n L) (hc : Fits ty n c) (hd : Fits ty n d) (h : encs c L = encs d L) : ∀ s ∈ L, c s.2 = d s.2 := by
  have a := reads_back L c (fun _ => 0) [] (fun x hx => by cases hx) hs hc
  have b := reads_back L d (fun _ => 0) [] (fun x hx => by cases hx) hs hd
  rw [h] at a
  rw [a] at b
  injection b with b _
  intro s hm
  obtain ⟨h1, h2, h3⟩ := hs s hm
  have e := congrArg (fun a : Array Value => a[s.2]?) b
  simp only [rowA_get h3] at e
  injection e with e
  have hany : L.any (fun x => x.2 == s.2) = true := List.any_eq_true.2 ⟨s, hm, by simp⟩
  simp only [fill, hany, if_true] at e
  exact fit_inj (hc s.2 h3) (hd s.2 h3) e
end

/-! ### Commands -/
theorem slots_in (k : Nat) : SlotsIn cmdT 24 (slotsOf k) := fun s hs => ⟨(slots_ok k s hs).1, (slots_ok k s hs).2.1, (slots_ok k s hs).2.2.1⟩
theorem slots_nodup (k : Nat) : ((slotsOf k).map (·.2)).Nodup := by
  match k with
  | 0 => decide
  | 1 => decide
  | 2 => decide
  | 3 => decide
  | 4 => decide
  | 5 => decide
  | 6 => decide
  | 7 => decide
  | k + 8 => exact List.nodup_nil
/-- The bytes l are told of a command C of kind k, that is its own. -/
structure Told (l : List Nat) (C : Nat → Int) (k : Nat) : Prop where
  k0 : 1 ≤ k
  k1 : k ≤ 7
  zero : C 0 = k
  fits : Fits cmdT 24 C
  own : eqB 24 C (ownC k C) = true
  bytes : l = k :: encs C (slotsOf k)
theorem fits_own {c : Nat → Int} {k : Nat} (h : Fits cmdT 24 c) : Fits cmdT 24 (ownC k c) := fun i hi => by
  unfold ownC
  split
  · rename_i h0; subst h0; exact h 0 hi
  · split
    · exact h i hi
    · unfold fitC FitS
      repeat' split
      all_goals first | exact ⟨by decide, by decide⟩ | exact Or.inl rfl
theorem fill_own {c : Nat → Int} {k : Nat} (h0 : c 0 = k) (i : Nat) : fill (slotsOf k) c (fun i => if i = 0 then (k : Int) else 0) i = ownC k c i := by
  simp only [fill, ownC, partOf]
  by_cases hi : i = 0
  · subst hi
    have : ¬ (slotsOf k).any (fun s => s.2 == 0) = true := by
      intro h
      obtain ⟨s, hs, e⟩ := List.any_eq_true.1 h
      have := (slots_ok k s hs).2.2.2
      have e : s.2 = 0 := by simpa using e
      omega
    rw [if_neg this, if_pos rfl, if_pos rfl, h0]
  · rw [if_neg hi, if_neg hi]
    rfl
theorem Told.back {l : List Nat} {C : Nat → Int} {k : Nat} (h : Told l C k) : byteR l = k ∧ reads (slotsOf k) (rowA cmdT 24 fun i => if i = 0 then (k : Int) else 0) (byteL l) (byteF l false) = (rowA cmdT 24 C, [], false) := by
  obtain ⟨h1, h2, h3, h4, h5, rfl⟩ := h
  refine ⟨rfl, ?_⟩
  have b := reads_back (slotsOf k) C (fun i => if i = 0 then (k : Int) else 0) [] (fun x hx => by cases hx) (slots_in k) h4
  rw [List.append_nil] at b
  have e : byteL (k :: encs C (slotsOf k)) = encs C (slotsOf k) := rfl
  have e2 : byteF (k :: encs C (slotsOf k)) false = false := rfl
  rw [e, e2, b]
  congr 1
  exact rowA_congr fun i hi => by rw [fill_own h3, ← eqB_iff.1 h5 i hi]
theorem Told.len {l : List Nat} {C : Nat → Int} {k : Nat} (h : Told l C k) : l.length ≤ 201 := by
  rw [h.bytes, List.length_cons]
  have a := encs_len (C := C) (L := slotsOf k) (fun s hs => slot_fit h.fits (slots_in k s hs).1 (slots_in k s hs).2.1 (slots_in k s hs).2.2)
  have b := slots_len k
  omega
theorem Told.isBytes {l : List Nat} {C : Nat → Int} {k : Nat} (h : Told l C k) : Bytes l := by
  rw [h.bytes]
  intro x hx
  rcases List.mem_cons.1 hx with rfl | hx
  · have := h.k1; omega
  · exact encs_bytes _ _ x hx
theorem told_of_read {l : List Nat} {k : Nat} (hb : Bytes l) (hk : byteR l = k) (k0 : 1 ≤ k) (k1 : k ≤ 7)
    (hE : endE (reads (slotsOf k) (rowA cmdT 24 fun i => if i = 0 then (k : Int) else 0) (byteL l) (byteF l false)).2.1 (reads (slotsOf k) (rowA cmdT 24 fun i => if i = 0 then (k : Int) else 0) (byteL l) (byteF l false)).2.2 ≠ 140) : ∃ C, Told l C k := by
  cases l with
  | nil => have : (0 : Nat) = k := hk; omega
  | cons a l =>
    obtain rfl : a = k := hk
    have e : byteL (a :: l) = l := rfl
    have e2 : byteF (a :: l) false = false := rfl
    rw [e, e2] at hE
    have hbl : Bytes l := fun x hx => hb x (List.mem_cons_of_mem _ hx)
    have h2 : (reads (slotsOf a) (rowA cmdT 24 fun i => if i = 0 then (a : Int) else 0) l false).2 = ([], false) := by
      unfold endE at hE
      split at hE
      · exact absurd rfl hE
      · rename_i h
        simp only [Bool.or_eq_true, Bool.not_eq_true', not_or] at h
        refine Prod.ext ?_ ?_
        · have := h.2
          simpa using this
        · simpa using h.1
    obtain ⟨c, c1, c2, c3⟩ := reads_one (slotsOf a) (fun i => if i = 0 then (a : Int) else 0) l hbl (slots_in a) (slots_nodup a) h2
    have cs : ∀ s ∈ slotsOf a, fill (slotsOf a) c (fun i => if i = 0 then (a : Int) else 0) s.2 = c s.2 := fun s hs => by
      have : (slotsOf a).any (fun x => x.2 == s.2) = true := List.any_eq_true.2 ⟨s, hs, by simp⟩
      simp only [fill, this, if_true]
    have z0 : fill (slotsOf a) c (fun i => if i = 0 then (a : Int) else 0) 0 = a := by
      have : ¬ (slotsOf a).any (fun s => s.2 == 0) = true := by
        intro h
        obtain ⟨s, hs, e⟩ := List.any_eq_true.1 h
        have := (slots_ok a s hs).2.2.2
        have e : s.2 = 0 := by simpa using e
        omega
      simp only [fill, if_neg this, if_true]
    refine ⟨fill (slotsOf a) c (fun i => if i = 0 then (a : Int) else 0), k0, k1, z0, ?_, ?_, ?_⟩
    · intro i hi
      by_cases h0 : i = 0
      · subst h0
        rw [z0]
        show (0 : Int) ≤ a ∧ (a : Int) < 256
        omega
      · simp only [fill, if_neg h0]
        by_cases hm : (slotsOf a).any (fun s => s.2 == i) = true
        · rw [if_pos hm]
          obtain ⟨s, hs, e⟩ := List.any_eq_true.1 hm
          have e : s.2 = i := by simpa using e
          subst e
          have k := c1 s hs
          have o := slots_in a s hs
          unfold fitC
          rw [if_neg (by have := o.1; have := o.2.1; omega), o.1]
          exact k
        · rw [if_neg hm]
          unfold fitC FitS
          repeat' split
          all_goals first | exact ⟨by decide, by decide⟩ | exact Or.inl rfl
    · rw [eqB_iff]
      intro i hi
      rw [← fill_own z0]
      simp only [fill]
      by_cases hm : (slotsOf a).any (fun s => s.2 == i) = true
      · simp only [hm, if_true]
      · simp only [hm, if_false, Bool.false_eq_true]
    · rw [encs_congr cs, ← c2]
theorem Told.same {l : List Nat} {C D : Nat → Int} {k j : Nat} (h : Told l C k) (g : Told l D j) : k = j ∧ rowA cmdT 24 C = rowA cmdT 24 D := by
  obtain ⟨a1, a2⟩ := h.back
  obtain ⟨b1, b2⟩ := g.back
  obtain rfl : k = j := by omega
  rw [a2] at b2
  injection b2 with b2 _
  exact ⟨rfl, b2⟩
/-- What is told of bytes. -/
theorem read_told {l : List Nat} {C : Nat → Int} {k : Nat} (w : World) (h : Told l C k) :
    Calls Tryd.prog 10 #[.string (bs l)] w fun e w' => e = .returned (.tuple #[.agg (rowA cmdT 24 C), .int .i64 0]) ∧ Below w.heap.size w w' := by
  obtain ⟨b1, b2⟩ := h.back
  subst b1
  have := cmd_read_ok l w h.isBytes ⟨h.k0, h.k1⟩ (by rw [b2]; rfl)
  rw [b2] at this
  exact this
theorem read_else {l : List Nat} (w : World) (hb : Bytes l) (h : ¬ ∃ C k, Told l C k) :
    Calls Tryd.prog 10 #[.string (bs l)] w fun e w' => e = .returned (.tuple #[.agg (rowA cmdT 24 fun _ => 0), .int .i64 140]) ∧ Below w.heap.size w w' := by
  by_cases hk : 1 ≤ byteR l ∧ byteR l ≤ 7
  · refine cmd_read_end l w hb hk ?_
    refine Classical.byContradiction fun hne => h ?_
    obtain ⟨C, hC⟩ := told_of_read hb rfl hk.1 hk.2 hne
    exact ⟨C, _, hC⟩
  · exact cmd_read_no l w hb (by omega)

/-! ### Replies -/
theorem reply_in : SlotsIn replyT 10 replySlots := reply_ok
structure RTold (l : List Nat) (C : Nat → Int) : Prop where
  fits : Fits replyT 10 C
  bytes : l = 0 :: encs C replySlots
theorem fill_reply {c d : Nat → Int} (i : Nat) (hi : i < 10) : fill replySlots c d i = c i := by
  have h : ∀ i, i < 10 → replySlots.any (fun s => s.2 == i) = true := by decide
  simp only [fill, h i hi, if_true]
theorem RTold.back {l : List Nat} {C : Nat → Int} (h : RTold l C) : byteR l = 0 ∧ reads replySlots (rowA replyT 10 fun _ => 0) (byteL l) (byteF l false) = (rowA replyT 10 C, [], false) := by
  obtain ⟨h4, rfl⟩ := h
  refine ⟨rfl, ?_⟩
  have b := reads_back replySlots C (fun _ => 0) [] (fun x hx => by cases hx) reply_in h4
  rw [List.append_nil] at b
  have e : byteL (0 :: encs C replySlots) = encs C replySlots := rfl
  have e2 : byteF (0 :: encs C replySlots) false = false := rfl
  rw [e, e2, b, rowA_congr (d := C) fun i hi => fill_reply i hi]
theorem RTold.len {l : List Nat} {C : Nat → Int} (h : RTold l C) : l.length ≤ 101 ∧ 11 ≤ l.length := by
  rw [h.bytes, List.length_cons]
  have a := encs_len (C := C) (L := replySlots) (fun s hs => slot_fit h.fits (reply_in s hs).1 (reply_in s hs).2.1 (reply_in s hs).2.2)
  have b : replySlots.length = 10 := rfl
  have c : ∀ L : List (Nat × Nat), L.length ≤ (encs C L).length := by
    intro L
    induction L with
    | nil => exact Nat.le_refl _
    | cons s L ih =>
      have := encS_ne s.1 (C s.2)
      have : 0 < (encS s.1 (C s.2)).length := List.length_pos_iff.2 this
      simp only [encs, List.length_append, List.length_cons]
      omega
  have := c replySlots
  omega
theorem RTold.isBytes {l : List Nat} {C : Nat → Int} (h : RTold l C) : Bytes l := by
  rw [h.bytes]
  intro x hx
  rcases List.mem_cons.1 hx with rfl | hx
  · omega
  · exact encs_bytes _ _ x hx
theorem rtold_of_read {l : List Nat} (hb : Bytes l) (hk : byteR l = 0)
    (hE : endE (reads replySlots (rowA replyT 10 fun _ => 0) (byteL l) (byteF l false)).2.1 (reads replySlots (rowA replyT 10 fun _ => 0) (byteL l) (byteF l false)).2.2 ≠ 140) : ∃ C, RTold l C := by
  cases l with
  | nil =>
    have e2 : byteF [] false = true := rfl
    have e : byteL [] = [] := rfl
    rw [e2, e, reads_dead] at hE
    exact absurd rfl hE
  | cons a l =>
    obtain rfl : a = 0 := hk
    have e : byteL (0 :: l) = l := rfl
    have e2 : byteF (0 :: l) false = false := rfl
    rw [e, e2] at hE
    have hbl : Bytes l := fun x hx => hb x (List.mem_cons_of_mem _ hx)
    have h2 : (reads replySlots (rowA replyT 10 fun _ => 0) l false).2 = ([], false) := by
      unfold endE at hE
      split at hE
      · exact absurd rfl hE
      · rename_i h
        simp only [Bool.or_eq_true, Bool.not_eq_true', not_or] at h
        refine Prod.ext ?_ ?_
        · have := h.2
          simpa using this
        · simpa using h.1
    obtain ⟨c, c1, c2, c3⟩ := reads_one replySlots (fun _ => 0) l hbl reply_in (by decide) h2
    refine ⟨c, ?_, by rw [← c2]⟩
    intro i hi
    have hm : ∃ s ∈ replySlots, s.2 = i := by
      have h : ∀ i, i < 10 → replySlots.any (fun s => s.2 == i) = true := by decide
      obtain ⟨s, hs, e⟩ := List.any_eq_true.1 (h i hi)
      exact ⟨s, hs, by simpa using e⟩
    obtain ⟨s, hs, rfl⟩ := hm
    have k := c1 s hs
    have o := reply_in s hs
    unfold fitC
    rw [if_neg (by have := o.1; have := o.2.1; omega), o.1]
    exact k
theorem RTold.same {l : List Nat} {C D : Nat → Int} (h : RTold l C) (g : RTold l D) : rowA replyT 10 C = rowA replyT 10 D := by
  obtain ⟨a1, a2⟩ := h.back
  obtain ⟨b1, b2⟩ := g.back
  rw [a2] at b2
  exact congrArg Prod.fst b2
theorem rread_told {l : List Nat} {C : Nat → Int} (w : World) (h : RTold l C) :
    Calls Tryd.prog 11 #[.string (bs l)] w fun e w' => e = .returned (.tuple #[.agg (rowA replyT 10 C), .int .i64 0]) ∧ Below w.heap.size w w' := by
  obtain ⟨b1, b2⟩ := h.back
  have := rep_read_ok l w h.isBytes b1 (by rw [b2]; rfl)
  rw [b2] at this
  exact this
theorem rread_else {l : List Nat} (w : World) (hb : Bytes l) (h : ¬ ∃ C, RTold l C) :
    Calls Tryd.prog 11 #[.string (bs l)] w fun e w' => e = .returned (.tuple #[.agg (rowA replyT 10 fun _ => 0), .int .i64 140]) ∧ Below w.heap.size w w' := by
  by_cases hk : byteR l = 0
  · refine rep_read_end l w hb hk ?_
    exact Classical.byContradiction fun hne => h (rtold_of_read hb hk hne)
  · exact rep_read_bad l w hb hk

end Go.Proofs.YtjhffbhjiflfeaaDoor
