/-
  read: what is read into slots.
-/
import Derived.Test.YtjhffbhjiflfeaaDoorProg
import Derived.Test.YtjhffbhjiflfeaaDoorCmdW
namespace Go.Proofs.YtjhffbhjiflfeaaDoor
set_option linter.unusedVariables false
set_option linter.unusedSimpArgs false
set_option maxRecDepth 100000
open Go.RowKit

/-- What an eye does at a slot. -/
theorem eye_slot (g t : Nat) (l : List Nat) (f : Bool) (w : World) (h : EyeAt w g l f) :
    (t = 0 → Calls Tryd.prog 30 #[.pointer (some ⟨g, 0, none⟩)] w fun e w' => e = .returned (cellV t (rdV t l)) ∧ EyeTo g (rdL t l) (rdF t l f) w w') ∧
    (t = 1 ∨ t = 2 → Calls Tryd.prog 31 #[.pointer (some ⟨g, 0, none⟩)] w fun e w' => e = .returned (cellV t (rdV t l)) ∧ EyeTo g (rdL t l) (rdF t l f) w w') ∧
    (3 ≤ t → Calls Tryd.prog 32 #[.pointer (some ⟨g, 0, none⟩)] w fun e w' => e = .returned (cellV t (rdV t l)) ∧ EyeTo g (rdL t l) (rdF t l f) w w') := by
  refine ⟨?_, ?_, ?_⟩
  · rintro rfl
    exact eyeNum g l f w h
  · rintro (rfl | rfl)
    · exact eyeInt g l f w h
    · exact eyeInt g l f w h
  · intro ht
    obtain ⟨t, rfl⟩ : ∃ u, t = u + 3 := ⟨t - 3, by omega⟩
    have e : cellV (t + 3) (rdV (t + 3) l) = .bool (flagR l) := by
      show Value.bool (decide ((if flagR l = true then (1 : Int) else 0) = 1)) = _
      cases flagR l <;> rfl
    rw [e]
    exact eyeFlag g l f w h

theorem reads_step {L : List (Nat × Nat)} {i t p : Nat} (h : L[i]? = some (t, p)) (cs : Array Value) (l : List Nat) (f : Bool) : reads (L.drop i) cs l f = reads (L.drop (i + 1)) (cs.setIfInBounds p (cellV t (rdV t l))) (rdL t l) (rdF t l f) := by
  obtain ⟨hi, e⟩ := List.getElem?_eq_some_iff.1 h
  rw [List.drop_eq_getElem_cons hi, e]
  rfl
theorem cellV_shape (t : Nat) (n : Int) : (t = 0 → cellV t n = .int .u64 n) ∧ (t = 1 ∨ t = 2 → cellV t n = .int .i64 n) ∧ (3 ≤ t → cellV t n = .bool (decide (n = 1))) := by
  refine ⟨?_, ?_, ?_⟩
  · rintro rfl; rfl
  · rintro (rfl | rfl) <;> rfl
  · intro ht
    obtain ⟨t, rfl⟩ : ∃ u, t = u + 3 := ⟨t - 3, by omega⟩
    rfl

/-- What comes of reading: the cells, what is left, whether it has failed. -/
structure ReadTo (g q : Nat) (T : TypeId) (R : Array Value × List Nat × Bool) (w w' : World) : Prop where
  blk : Blk w' q T R.1
  eye : EyeAt w' g R.2.1 R.2.2
  fr : Fr (fun k => k = g ∨ k = q) w w'

set_option maxHeartbeats 8000000 in
theorem cmd_read (g q : Nat) (T : TypeId) (cs : Array Value) (L : List (Nat × Nat)) (l : List Nat) (f : Bool) (A c : Nat) (w : World) (hL : L.length ≤ 20) (hp : PieceAt w A (L.map (slotV q))) (hag : A ≠ g) (haq : A ≠ q) (hgq : g ≠ q)
    (hb : Blk w q T cs) (he : EyeAt w g l f) (hs : ∀ s ∈ L, s.2 < cs.size) :
    Calls Tryd.prog 20 #[.pointer (some ⟨g, 0, none⟩), .slice (some ⟨A, 0, none⟩) L.length c] w fun e w' => e = .returned (.int .i64 (endE (reads L cs l f).2.1 (reads L cs l f).2.2)) ∧ ReadTo g q T (reads L cs l f) w w' := by
  have HP := Lib.hid hp
  have HS := Lib.hid hs
  have HA := Lib.hid (And.intro hag (And.intro haq hgq))
  have HBE := Lib.hid (And.intro hb he)
  clear hp hag haq hgq hb he hs
  obtain ⟨n, hn⟩ : ∃ n, L.length = n := ⟨_, rfl⟩
  rw [hn] at hL
  rw [hn]
  have HN := Lib.hid hn
  clear hn
  obtain ⟨R, hR⟩ : ∃ R, reads L cs l f = R := ⟨_, rfl⟩
  rw [hR]
  have HR := Lib.hid hR
  clear hR
  go_enter Tryd.func20, Tryd.ntmps20
  go_wp2_with fail
  go_loopg [13] n (fun gk ix wr => ∃ (i : Nat) (cs' : Array Value) (l' : List Nat) (f' : Bool), i + gk = n ∧ ix = .int .i64 i ∧ reads (L.drop i) cs' l' f' = R ∧ cs'.size = cs.size ∧ ReadTo g q T (cs', l', f') w wr)
  case atStart => exact ⟨0, cs, l, f, by omega, rfl, by rw [List.drop_zero]; exact HR.out, rfl, ⟨HBE.out.1, HBE.out.2, Fr.refl _ _⟩⟩
  case round =>
    obtain ⟨i, cs', l', f', hi, rfl, hrd, hsz, hto⟩ := hrel
    have HRD := Lib.hid (And.intro hrd (And.intro hsz hto))
    clear hrd hsz hto
    by_cases hlt : i < n
    · obtain ⟨gm, rfl⟩ : ∃ gm, gk = gm + 1 := ⟨gk - 1, by omega⟩
      obtain ⟨⟨t, p⟩, hs⟩ : ∃ s, L[i]? = some s := ⟨L[i]'(by rw [HN.out]; exact hlt), List.getElem?_eq_getElem _⟩
      have hm : (t, p) ∈ L := List.mem_of_getElem? hs
      have ca : wr.cell? ⟨A, i, none⟩ = some (slotV q (t, p)) := (HRD.out.2.2.fr.cell (p := ⟨A, i, none⟩) HP.out.1 (by rintro (h | h); exact HA.out.1 h; exact HA.out.2.1 h)).trans (HP.out.2.1 i _ (by rw [List.getElem?_map, hs]; rfl))
      have ES := Lib.hid (eye_slot g t l' f' wr HRD.out.2.2.eye)
      have HST : Hid (reads (L.drop (i + 1)) (cs'.setIfInBounds p (cellV t (rdV t l'))) (rdL t l') (rdF t l' f') = R ∧ (cs'.setIfInBounds p (cellV t (rdV t l'))).size = cs.size) := ⟨by rw [← reads_step hs]; exact HRD.out.1, by rw [Array.size_setIfInBounds]; exact HRD.out.2.1⟩
      have HPQ : Hid (p < cs'.size) := by have := HS.out _ hm; have := HRD.out.2.1; unfold Hid; omega
      have HI := Lib.hid (And.intro hi hlt)
      have p0 : (0 : Int) ≤ (i : Int) := by omega
      have p1 : (i : Int) < (n : Int) := by omega
      have e2 : wrap64 ((i : Int) + 1) = ((i + 1 : Nat) : Int) := by unfold wrap64; omega
      have HCV := Lib.hid (cellV_shape t (rdV t l'))
      obtain ⟨V, hV⟩ : ∃ V, cellV t (rdV t l') = V := ⟨_, rfl⟩
      rw [hV] at ES HST HCV
      clear hs hm hi hV hL
      rcases kinds t with ht | ht | ht | ht
      · have e : slotV q (t, p) = wordAt q p := by rw [ht]; rfl
        replace ca : wr.cell? ⟨A, i, none⟩ = some (.iface 74 (.pointer (some ⟨q, p, none⟩))) := by rw [ca, e]; rfl
        clear e
        replace ht := Lib.hid ht
        replace ES := Lib.hid (ES.out.1 ht.out)
        obtain ⟨x, hx⟩ : ∃ x, V = .int .u64 x := ⟨_, HCV.out.1 ht.out⟩
        subst hx
        have as0 := as00 (.pointer (some ⟨q, p, none⟩)) wr
        go_wp2_with fail
        with_reducible refine ES.out.mono ?_
        rintro e w3 ⟨rfl, hp3, hf3⟩
        have b3 : Blk w3 q T cs' := Blk.fr HRD.out.2.2.blk hf3 (fun h => HA.out.2.2 h.symm)
        have cq : ∃ u, w3.cell? ⟨q, p, none⟩ = some u := ⟨cs'[p]'HPQ.out, b3.get p (Array.getElem?_eq_getElem HPQ.out)⟩
        have fq : w3.frozen? ⟨q, p, none⟩ = false := Blk.frozen b3 p
        have HTO : Hid (ReadTo g q T (cs'.setIfInBounds p (.int .u64 x), rdL t l', rdF t l' f') w (w3.setCell ⟨q, p, none⟩ (.int .u64 x))) := ⟨b3.put p _, ⟨hp3.1.far (p := ⟨q, p, none⟩) (fun h => HA.out.2.2 h) _, hp3.2⟩, (HRD.out.2.2.fr.trans (hf3.mono fun k _ h => Or.inl h)).setCell (p := ⟨q, p, none⟩) (fun _ => Or.inr rfl) _⟩
        obtain ⟨u, cq⟩ := cq
        clear hp3 hf3 b3 ca as0
        go_wp2_with fail
        go_roundg gm
        case rel => exact ⟨i + 1, _, _, _, by have := HI.out.1; omega, by go_num, HST.out.1, HST.out.2, HTO.out⟩
        case measure => omega
      · have e : slotV q (t, p) = intAt q p := by rw [ht]; rfl
        replace ca : wr.cell? ⟨A, i, none⟩ = some (.iface 76 (.pointer (some ⟨q, p, none⟩))) := by rw [ca, e]; rfl
        clear e
        replace ht := Lib.hid ht
        replace ES := Lib.hid (ES.out.2.1 (Or.inl ht.out))
        obtain ⟨x, hx⟩ : ∃ x, V = .int .i64 x := ⟨_, HCV.out.2.1 (Or.inl ht.out)⟩
        subst hx
        have as0 := as10 (.pointer (some ⟨q, p, none⟩)) wr
        have as1 := as11 (.pointer (some ⟨q, p, none⟩)) wr
        go_wp2_with fail
        with_reducible refine ES.out.mono ?_
        rintro e w3 ⟨rfl, hp3, hf3⟩
        have b3 : Blk w3 q T cs' := Blk.fr HRD.out.2.2.blk hf3 (fun h => HA.out.2.2 h.symm)
        have cq : ∃ u, w3.cell? ⟨q, p, none⟩ = some u := ⟨cs'[p]'HPQ.out, b3.get p (Array.getElem?_eq_getElem HPQ.out)⟩
        have fq : w3.frozen? ⟨q, p, none⟩ = false := Blk.frozen b3 p
        have HTO : Hid (ReadTo g q T (cs'.setIfInBounds p (.int .i64 x), rdL t l', rdF t l' f') w (w3.setCell ⟨q, p, none⟩ (.int .i64 x))) := ⟨b3.put p _, ⟨hp3.1.far (p := ⟨q, p, none⟩) (fun h => HA.out.2.2 h) _, hp3.2⟩, (HRD.out.2.2.fr.trans (hf3.mono fun k _ h => Or.inl h)).setCell (p := ⟨q, p, none⟩) (fun _ => Or.inr rfl) _⟩
        obtain ⟨u, cq⟩ := cq
        clear hp3 hf3 b3 ca as0 as1
        go_wp2_with fail
        go_roundg gm
        case rel => exact ⟨i + 1, _, _, _, by have := HI.out.1; omega, by go_num, HST.out.1, HST.out.2, HTO.out⟩
        case measure => omega
      · have e : slotV q (t, p) = errAt q p := by rw [ht]; rfl
        replace ca : wr.cell? ⟨A, i, none⟩ = some (.iface 78 (.pointer (some ⟨q, p, none⟩))) := by rw [ca, e]; rfl
        clear e
        replace ht := Lib.hid ht
        replace ES := Lib.hid (ES.out.2.1 (Or.inr ht.out))
        obtain ⟨x, hx⟩ : ∃ x, V = .int .i64 x := ⟨_, HCV.out.2.1 (Or.inr ht.out)⟩
        subst hx
        have as0 := as20 (.pointer (some ⟨q, p, none⟩)) wr
        have as1 := as21 (.pointer (some ⟨q, p, none⟩)) wr
        have as2 := as22 (.pointer (some ⟨q, p, none⟩)) wr
        go_wp2_with fail
        with_reducible refine ES.out.mono ?_
        rintro e w3 ⟨rfl, hp3, hf3⟩
        have b3 : Blk w3 q T cs' := Blk.fr HRD.out.2.2.blk hf3 (fun h => HA.out.2.2 h.symm)
        have cq : ∃ u, w3.cell? ⟨q, p, none⟩ = some u := ⟨cs'[p]'HPQ.out, b3.get p (Array.getElem?_eq_getElem HPQ.out)⟩
        have fq : w3.frozen? ⟨q, p, none⟩ = false := Blk.frozen b3 p
        have HTO : Hid (ReadTo g q T (cs'.setIfInBounds p (.int .i64 x), rdL t l', rdF t l' f') w (w3.setCell ⟨q, p, none⟩ (.int .i64 x))) := ⟨b3.put p _, ⟨hp3.1.far (p := ⟨q, p, none⟩) (fun h => HA.out.2.2 h) _, hp3.2⟩, (HRD.out.2.2.fr.trans (hf3.mono fun k _ h => Or.inl h)).setCell (p := ⟨q, p, none⟩) (fun _ => Or.inr rfl) _⟩
        obtain ⟨u, cq⟩ := cq
        clear hp3 hf3 b3 ca as0 as1 as2
        go_wp2_with fail
        go_roundg gm
        case rel => exact ⟨i + 1, _, _, _, by have := HI.out.1; omega, by go_num, HST.out.1, HST.out.2, HTO.out⟩
        case measure => omega
      · have e : slotV q (t, p) = flagAt q p := by obtain ⟨u, rfl⟩ : ∃ u, t = u + 3 := ⟨t - 3, by omega⟩; rfl
        replace ca : wr.cell? ⟨A, i, none⟩ = some (.iface 79 (.pointer (some ⟨q, p, none⟩))) := by rw [ca, e]; rfl
        clear e
        replace ht := Lib.hid ht
        replace ES := Lib.hid (ES.out.2.2 ht.out)
        obtain ⟨x, hx⟩ : ∃ x, V = .bool x := ⟨_, HCV.out.2.2 ht.out⟩
        subst hx
        have as0 := as30 (.pointer (some ⟨q, p, none⟩)) wr
        have as1 := as31 (.pointer (some ⟨q, p, none⟩)) wr
        have as2 := as32 (.pointer (some ⟨q, p, none⟩)) wr
        have as3 := as33 (.pointer (some ⟨q, p, none⟩)) wr
        go_wp2_with fail
        with_reducible refine ES.out.mono ?_
        rintro e w3 ⟨rfl, hp3, hf3⟩
        have b3 : Blk w3 q T cs' := Blk.fr HRD.out.2.2.blk hf3 (fun h => HA.out.2.2 h.symm)
        have cq : ∃ u, w3.cell? ⟨q, p, none⟩ = some u := ⟨cs'[p]'HPQ.out, b3.get p (Array.getElem?_eq_getElem HPQ.out)⟩
        have fq : w3.frozen? ⟨q, p, none⟩ = false := Blk.frozen b3 p
        have HTO : Hid (ReadTo g q T (cs'.setIfInBounds p (.bool x), rdL t l', rdF t l' f') w (w3.setCell ⟨q, p, none⟩ (.bool x))) := ⟨b3.put p _, ⟨hp3.1.far (p := ⟨q, p, none⟩) (fun h => HA.out.2.2 h) _, hp3.2⟩, (HRD.out.2.2.fr.trans (hf3.mono fun k _ h => Or.inl h)).setCell (p := ⟨q, p, none⟩) (fun _ => Or.inr rfl) _⟩
        obtain ⟨u, cq⟩ := cq
        clear hp3 hf3 b3 ca as0 as1 as2 as3
        go_wp2_with fail
        go_roundg gm
        case rel => exact ⟨i + 1, _, _, _, by have := HI.out.1; omega, by go_num, HST.out.1, HST.out.2, HTO.out⟩
        case measure => omega
    · obtain rfl : gk = 0 := by omega
      obtain rfl : i = n := by omega
      clear hlt hi
      have HD : Hid ((cs', l', f') = R) := by
        have h := HRD.out.1
        rw [← HN.out, List.drop_length] at h
        exact h
      have HTO : Hid (ReadTo g q T R w wr) := by rw [← HD.out]; exact HRD.out.2.2
      clear HD HRD
      go_wp2_with fail
      with_reducible refine (eyeEnd g R.2.1 R.2.2 wr HTO.out.eye).mono ?_
      rintro e wx ⟨rfl, rfl⟩
      go_wp2_with fail
      go_ret
      exact ⟨rfl, HTO.out⟩

end Go.Proofs.YtjhffbhjiflfeaaDoor
