/-
  What the document's eye does.
-/
import Derived.Test.YtbageagobalgbaaProg
import Derived.Test.YtbageagobalgbaaOctF
namespace Go.Proofs.Ytbageagobalgbaa
set_option linter.unusedVariables false
set_option linter.unusedSimpArgs false
set_option maxRecDepth 100000
open Go.RowKit

def REyeAt (w : World) (g : Nat) (l : List Nat) (f : Bool) : Prop := Blk w g 66 #[.string (bs l), .bool f] ∧ Bytes l ∧ (f = true → l = [])
def REyeTo (g : Nat) (l : List Nat) (f : Bool) (w w1 : World) : Prop := REyeAt w1 g l f ∧ Fr (fun k => k = g) w w1
section
variable {w w1 w2 : World} {g : Nat} {l l2 : List Nat} {f f2 : Bool}
theorem REyeAt.c0 (h : REyeAt w g l f) : w.cell? ⟨g, 0, none⟩ = some (.string (bs l)) := h.1.get 0 rfl
theorem REyeAt.c1 (h : REyeAt w g l f) : w.cell? ⟨g, 1, none⟩ = some (.bool f) := h.1.get 1 rfl
theorem REyeAt.below (h : REyeAt w g l f) (hb : Below w.heap.size w w1) : REyeAt w1 g l f := ⟨h.1.next hb, h.2⟩
theorem REyeAt.fr {S : Nat → Prop} (h : REyeAt w g l f) (hf : Fr S w w1) (hg : ¬ S g) : REyeAt w1 g l f := ⟨h.1.fr hf hg, h.2⟩
theorem REyeTo.refl (h : REyeAt w g l f) : REyeTo g l f w w := ⟨h, Fr.refl _ _⟩
theorem REyeTo.next (h : Fr (fun k => k = g) w w1) (k : REyeTo g l f w1 w2) : REyeTo g l f w w2 := ⟨k.1, h.trans k.2⟩
theorem REyeTo.ahead (hb : Below w.heap.size w w1) (k : REyeTo g l f w1 w2) : REyeTo g l f w w2 := REyeTo.next (Fr.of_new hb) k
theorem REyeTo.old {w0 : World} (hb : Below w0.heap.size w0 w) (hg : w0.heap.size ≤ g) (k : REyeTo g l f w w1) : Below w0.heap.size w0 w1 :=
  hb.trans (k.2.below (B := w0.heap.size) hb.size (fun i hi e => by omega))
end

theorem reyeFail (g : Nat) (l : List Nat) (f : Bool) (w : World) (h : REyeAt w g l f) :
    Calls Try.prog 37 #[.pointer (some ⟨g, 0, none⟩)] w fun e w' => e = .returned (.tuple #[]) ∧ REyeTo g [] true w w' := by
  have c0 := h.c0
  have c1 := h.c1
  have f0 := Blk.frozen h.1 0
  have f1 := Blk.frozen h.1 1
  go_enter Try.func37, Try.ntmps37
  go_wp2_with fail
  go_end0
  refine ⟨rfl, ⟨?_, fun x hx => (by cases hx), fun _ => rfl⟩, ?_⟩
  · have := Blk.put (Blk.put h.1 0 (.string ⟨#[]⟩)) 1 (.bool true)
    exact this
  · exact ((Fr.refl (fun k => k = g) w).setCell (p := ⟨g, 0, none⟩) (fun _ => rfl) _).setCell (p := ⟨g, 1, none⟩) (fun _ => rfl) _

theorem reyeByte (g : Nat) (l : List Nat) (f : Bool) (w : World) (h : REyeAt w g l f) :
    Calls Try.prog 20 #[.pointer (some ⟨g, 0, none⟩)] w fun e w' => e = .returned (.int .u8 (byteR l)) ∧ REyeTo g (byteL l) (byteF l f) w w' := by
  have H := Lib.hid h
  have c0 := h.c0
  have f0 := Blk.frozen h.1 0
  have F := Lib.hid (fun w h => reyeFail g l f w h)
  have hs := bs_size l
  cases l with
  | nil =>
    have hs : (bs []).size = 0 := rfl
    clear h
    go_enter Try.func20, Try.ntmps20
    go_wp2_with fail
    with_reducible refine (F.out _ H.out).mono ?_
    rintro e w1 ⟨rfl, hp⟩
    have HP := Lib.hid hp
    clear hp
    go_wp2_with fail
    go_ret
    exact ⟨rfl, HP.out⟩
  | cons b t =>
    have hff : f = false := by cases f with | false => rfl | true => exact absurd (h.2.2 rfl) (by simp)
    have hb : b < 256 := h.2.1 b (List.mem_cons_self ..)
    have hs : (bs (b :: t)).size = t.length + 1 := bs_size _
    have hcut := bs_cut b t
    have hz : ((t.length : Int) + 1 == 0) = false := beq_eq_false_iff_ne.2 (by omega)
    rw [hs] at hcut
    clear h
    go_enter Try.func20, Try.ntmps20
    go_wp2_with fail
    go_ret
    refine ⟨retInt (by rw [bs_head b t hb]; rfl), ⟨?_, fun x hx => H.out.2.1 x (List.mem_cons_of_mem _ hx), fun e => by rw [hff] at e; cases e⟩, (Fr.refl (fun k => k = g) w).setCell (p := ⟨g, 0, none⟩) (fun _ => rfl) _⟩
    have := Blk.put H.out.1 0 (.string (bs t))
    exact this

theorem reyeFlag (g : Nat) (l : List Nat) (f : Bool) (w : World) (h : REyeAt w g l f) :
    Calls Try.prog 23 #[.pointer (some ⟨g, 0, none⟩)] w fun e w' => e = .returned (.bool (flagR l)) ∧ REyeTo g (flagL l) (flagF l f) w w' := by
  have BY := Lib.hid (fun w h => reyeByte g l f w h)
  have H := Lib.hid h
  clear h
  obtain ⟨b, hb⟩ : ∃ b, byteR l = b := ⟨_, rfl⟩
  rw [hb] at BY
  by_cases hlt : 1 < b
  · have e1 : flagR l = false := by unfold flagR; rw [hb]; simp; omega
    have e2 : flagL l = [] := by unfold flagL; rw [hb, if_pos hlt]
    have e3 : flagF l f = true := by unfold flagF; rw [hb, if_pos hlt]
    rw [e1, e2, e3]
    have z1 : ((b : Int) == 1) = false := beq_eq_false_iff_ne.2 (by omega)
    clear hb e1 e2 e3
    go_enter Try.func23, Try.ntmps23
    go_wp2_with fail
    with_reducible refine (BY.out _ H.out).mono ?_
    rintro e w1 ⟨rfl, hp, hf⟩
    have HP := Lib.hid hp
    have HF := Lib.hid hf
    clear hp hf
    go_wp2_with fail
    with_reducible refine (reyeFail g _ _ _ HP.out).mono ?_
    rintro e w2 ⟨rfl, hq⟩
    have HQ := Lib.hid hq
    clear hq
    go_wp2_with fail
    go_ret
    exact ⟨rfl, REyeTo.next HF.out HQ.out⟩
  · have e2 : flagL l = byteL l := by unfold flagL; rw [hb, if_neg hlt]
    have e3 : flagF l f = byteF l f := by unfold flagF; rw [hb, if_neg hlt]
    have e1 : Hid (flagR l = ((b : Int) == 1)) := by
      unfold Hid flagR; rw [hb]
      rcases (show b = 0 ∨ b = 1 by omega) with rfl | rfl <;> rfl
    rw [e1.out, e2, e3]
    clear hb e2 e3
    go_enter Try.func23, Try.ntmps23
    go_wp2_with fail
    with_reducible refine (BY.out _ H.out).mono ?_
    rintro e w1 ⟨rfl, hp⟩
    have HP := Lib.hid hp
    clear hp
    go_wp2_with fail
    go_ret
    exact ⟨rfl, HP.out⟩

def doneB (l : List Nat) (f : Bool) : Bool := !f && l.isEmpty
theorem reyeDone (g : Nat) (l : List Nat) (f : Bool) (w : World) (h : REyeAt w g l f) :
    Calls Try.prog 25 #[.pointer (some ⟨g, 0, none⟩)] w fun e w' => e = .returned (.bool (doneB l f)) ∧ w = w' := by
  have c0 := h.c0
  have c1 := h.c1
  cases f with
  | true =>
    clear h
    go_enter Try.func25, Try.ntmps25
    go_wp2_with fail
    go_ret
    exact ⟨rfl, rfl⟩
  | false =>
    cases l with
    | nil =>
      have hs : (bs []).size = 0 := rfl
      clear h
      go_enter Try.func25, Try.ntmps25
      go_wp2_with fail
      go_ret
      exact ⟨rfl, rfl⟩
    | cons b t =>
      have hs : (bs (b :: t)).size = t.length + 1 := bs_size _
      have hz : ((t.length : Int) + 1 == 0) = false := beq_eq_false_iff_ne.2 (by omega)
      clear h
      go_enter Try.func25, Try.ntmps25
      go_wp2_with fail
      go_ret
      exact ⟨rfl, rfl⟩

/-! ### A number -/
/-- The value of bytes, of 64 bits. -/
def valB : List Nat → Nat
  | [] => 0
  | b :: t => (128 * valB t + b % 128) % 18446744073709551616
theorem valB_num (n : Nat) (h : n < 18446744073709551616) : valB (numB n) = n := by
  induction n using Nat.strongRecOn with
  | _ n ih =>
    rcases Nat.lt_or_ge n 128 with h1 | h1
    · rw [numB_small h1]; simp only [valB]; omega
    · rw [numB_more h1, valB, ih (n / 128) (by omega) (by omega)]; omega
theorem valB_lt (l : List Nat) : valB l < 18446744073709551616 := by
  cases l with
  | nil => decide
  | cons b t => exact Nat.mod_lt _ (by decide)
/-- The last byte alone is below 128. -/
theorem numB_shape (n : Nat) : ∃ c z, numB n = c ++ [z] ∧ z < 128 ∧ ∀ x ∈ c, 128 ≤ x := by
  induction n using Nat.strongRecOn with
  | _ n ih =>
    rcases Nat.lt_or_ge n 128 with h1 | h1
    · exact ⟨[], n, by rw [numB_small h1]; rfl, h1, fun x hx => by cases hx⟩
    · obtain ⟨c, z, e, hz, hc⟩ := ih (n / 128) (by omega)
      refine ⟨(128 + n % 128) :: c, z, by rw [numB_more h1, e]; rfl, hz, fun x hx => ?_⟩
      rcases List.mem_cons.1 hx with rfl | hx
      · omega
      · exact hc x hx
/-- Where the first byte below 128 stands, there a number that is read ends. -/
theorem end_of_num {l t : List Nat} {n j : Nat} (hn : l = numB n ++ t) (hj : ∀ q, q < j → 128 ≤ l.getD q 0) (hz : j < l.length → l.getD j 0 < 128) (hjl : j ≤ l.length) : j + 1 = (numB n).length := by
  obtain ⟨c, z, e, hz2, hc⟩ := numB_shape n
  have hl : (numB n).length = c.length + 1 := by rw [e]; simp
  have hL : l.length = c.length + 1 + t.length := by rw [hn, List.length_append, hl]
  have at_c : l.getD c.length 0 = z := by rw [hn, e]; simp [List.getD]
  rcases Nat.lt_trichotomy j c.length with h | h | h
  · have h1 := hz (by omega)
    have h2 : 128 ≤ l.getD j 0 := by
      rw [hn, e]
      have : ((c ++ [z]) ++ t).getD j 0 = c.getD j 0 := by simp [List.getD, List.getElem?_append, h, Nat.lt_succ_of_lt h]
      rw [this]
      have : c.getD j 0 = c[j] := by simp [List.getD, h]
      rw [this]
      exact hc _ (List.getElem_mem h)
    omega
  · omega
  · have := hj c.length h
    rw [at_c] at this
    omega
theorem dec_none_of {l : List Nat} {j : Nat} (hb : Bytes l) (hj : ∀ q, q < j → 128 ≤ l.getD q 0) (hz : j < l.length → l.getD j 0 < 128) (hjl : j ≤ l.length) (h : l.length ≤ j ∨ 9 < j ∨ numB (valB (l.take (j + 1))) ≠ l.take (j + 1)) : decB 0 l = none := by
  cases hd : decB 0 l with
  | none => rfl
  | some p =>
    exfalso
    obtain ⟨n, t⟩ := p
    obtain ⟨h1, h2⟩ := decB_only hb hd
    have he := end_of_num h1 hj hz hjl
    have hten := numB_ten h2
    have hL : l.length = (numB n).length + t.length := by rw [h1, List.length_append]
    rcases h with h | h | h
    · omega
    · omega
    · apply h
      have : l.take (j + 1) = numB n := by rw [he, h1]; simp
      rw [this, valB_num n h2]
theorem dec_some_of {l : List Nat} {j : Nat} (h : numB (valB (l.take (j + 1))) = l.take (j + 1)) : decB 0 l = some (valB (l.take (j + 1)), l.drop (j + 1)) := by
  have := decB_back (n := valB (l.take (j + 1))) (l.drop (j + 1)) (valB_lt _)
  rwa [h, List.take_append_drop] at this

theorem bs_at (l : List Nat) (j : Nat) (hb : Bytes l) (h : j < (bs l).size) : ((bs l)[j]'h).toNat = l.getD j 0 := by
  have hj : j < l.length := by rw [bs_size] at h; exact h
  have hx := hb l[j] (List.getElem_mem hj)
  have e : (bs l)[j]'h = (l.map UInt8.ofNat)[j]'(by simpa using hj) := rfl
  rw [e]
  simp [List.getD, hj]
  omega
theorem bs_take' (l : List Nat) (j : Nat) (h : j ≤ l.length) : (bs l).extract 0 j = bs (l.take j) := by
  apply ByteArray.ext
  apply Array.toList_inj.1
  rw [Lib.extract_data, bs_data, bs_data]
  simp [List.map_take]
theorem bs_drop' (l : List Nat) (j : Nat) (h : j ≤ l.length) : (bs l).extract j l.length = bs (l.drop j) := by
  apply ByteArray.ext
  apply Array.toList_inj.1
  rw [Lib.extract_data, bs_data, bs_data]
  simp only [List.map_drop]
  rw [List.take_of_length_le (by simp)]

end Go.Proofs.Ytbageagobalgbaa
