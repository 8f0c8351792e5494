/-
  The law TableValues, walked.
-/
import Derived.Test.YtddehgcdflfonaaDoorProg
import Derived.Test.YtddehgcdflfonaaDoorTabH
namespace Go.Proofs.YtddehgcdflfonaaDoor
set_option linter.unusedVariables false
set_option linter.unusedSimpArgs false
set_option maxRecDepth 100000
open Go.RowKit Go.Shelf

theorem tset_get {L : TRow} {id v x : Int} (h : tget id L = some x) : tget id (tset id v L) = some v := by rw [tget_set, if_pos rfl, h]; rfl
theorem tput_get {L : TRow} {id v : Int} (h1 : 1 ≤ id) (h2 : id ≤ 65535) (h : tget id L = none) : tget id (tput id v L) = some v := by unfold tput; rw [if_pos ⟨h1, h2, h⟩, tget_ins h, if_pos rfl]
theorem tput_len {L : TRow} {id v : Int} (h1 : 1 ≤ id) (h2 : id ≤ 65535) (h : tget id L = none) : (tput id v L).length = L.length + 1 := by unfold tput; rw [if_pos ⟨h1, h2, h⟩, tins_length]
theorem tput_there {L : TRow} {id v x : Int} (h : tget id L = some x) : tput id v L = L := by unfold tput; rw [if_neg (by rw [h]; simp)]
theorem tput_not {L : TRow} {id v : Int} (h : ¬ (1 ≤ id ∧ id ≤ 65535)) : tput id v L = L := by unfold tput; rw [if_neg (fun c => h ⟨c.1, c.2.1⟩)]
theorem tdel_get {L : TRow} {id : Int} : tget id (tdel id L) = none := by rw [tget_del, if_pos rfl]
theorem askE_not {L : TRow} {id : Int} (h : ¬ (1 ≤ id ∧ id ≤ 65535)) (b : Bool) : askE L id b = 2 := by unfold askE; rw [if_neg h]
theorem askE_gone {L : TRow} {id : Int} (h1 : 1 ≤ id) (h2 : id ≤ 65535) (h : tget id L = none) : askE L id true = 81 := by unfold askE; rw [if_pos ⟨h1, h2⟩, h]; rfl
/-- Columns, as they are told. -/
def colF (F : Nat → Int) (n : Nat) : Nat → Int := fun i => if i < n then F i else 0
theorem colF_at {F : Nat → Int} {n i : Nat} (h : i < n) : colF F n i = F i := by unfold colF; rw [if_pos h]
theorem colF_word {F : Nat → Int} {n : Nat} (h : ∀ i, i < n → Word (F i)) (i : Nat) : Word (colF F n i) := by
  unfold colF; split
  · exact h i ‹_›
  · exact ⟨by decide, by decide⟩
theorem colF_int {F : Nat → Int} {n : Nat} (h : ∀ i, i < n → (Lit.int .i64 (F i)).wf = true) (i : Nat) : -9223372036854775808 ≤ colF F n i ∧ colF F n i ≤ 9223372036854775807 := by
  unfold colF; split
  · exact int_of_wf (h i ‹_›)
  · exact ⟨by decide, by decide⟩
theorem colF_byte {F : Nat → Int} {n : Nat} (h : ∀ i, i < n → (Lit.int .u8 (F i)).wf = true) (i : Nat) : 0 ≤ colF F n i ∧ colF F n i ≤ 255 := by
  unfold colF; split
  · exact byte_of_wf (h i ‹_›)
  · exact ⟨by decide, by decide⟩
theorem tacts_of {w : World} {A : Option Addr} {n : Nat} {K I V Q : Nat → Int} (hA : 0 < n → ∃ b off, A = some ⟨b, off, none⟩ ∧ b < w.heap.size)
    (hK : ∀ b off, A = some ⟨b, off, none⟩ → ∀ i, i < n → w.cell? ⟨b, off + (i * 4 + 0), none⟩ = some (.int .u8 (K i))) (hI : ∀ b off, A = some ⟨b, off, none⟩ → ∀ i, i < n → w.cell? ⟨b, off + (i * 4 + 1), none⟩ = some (.int .i64 (I i)))
    (hV : ∀ b off, A = some ⟨b, off, none⟩ → ∀ i, i < n → w.cell? ⟨b, off + (i * 4 + 2), none⟩ = some (.int .u64 (V i))) (hQ : ∀ b off, A = some ⟨b, off, none⟩ → ∀ i, i < n → w.cell? ⟨b, off + (i * 4 + 3), none⟩ = some (.int .i64 (Q i))) :
    TActs w A n (colF K n) (colF I n) (colF V n) (colF Q n) :=
  ⟨hA, fun b off h i hi => by
    rw [colF_at hi, colF_at hi, colF_at hi, colF_at hi]
    exact ⟨by simpa using hK b off h i hi, by simpa [Nat.add_assoc] using hI b off h i hi, by simpa [Nat.add_assoc] using hV b off h i hi, by simpa [Nat.add_assoc] using hQ b off h i hi⟩⟩

set_option maxHeartbeats 16000000 in
theorem tableValues_walk (w : World) (hB : BrAt w) (A : Option Addr) (n c : Nat) (K : Nat → Int) (fK : ∀ i, i < n → (Lit.int .u8 (K i)).wf = true) (I : Nat → Int) (fI : ∀ i, i < n → (Lit.int .i64 (I i)).wf = true) (V : Nat → Int) (fV : ∀ i, i < n → (Lit.int .u64 (V i)).wf = true) (Q : Nat → Int) (fQ : ∀ i, i < n → (Lit.int .i64 (Q i)).wf = true) (hl : n ≤ c) (hm : c ≤ maxLen)
    (hA : 0 < n → ∃ b off, A = some ⟨b, off, none⟩ ∧ b < w.heap.size) (hK : ∀ b off, A = some ⟨b, off, none⟩ → ∀ i, i < n → w.cell? ⟨b, off + (i * 4 + 0), none⟩ = some (.int .u8 (K i))) (hI : ∀ b off, A = some ⟨b, off, none⟩ → ∀ i, i < n → w.cell? ⟨b, off + (i * 4 + 1), none⟩ = some (.int .i64 (I i)))
    (hV : ∀ b off, A = some ⟨b, off, none⟩ → ∀ i, i < n → w.cell? ⟨b, off + (i * 4 + 2), none⟩ = some (.int .u64 (V i))) (hQ : ∀ b off, A = some ⟨b, off, none⟩ → ∀ i, i < n → w.cell? ⟨b, off + (i * 4 + 3), none⟩ = some (.int .i64 (Q i))) :
    Calls Tryd.prog 3 #[.slice A n c] w fun e w' => e = .returned (.bool true) ∧ Below w.heap.size w w' := by
  have HA := Lib.hid (tacts_of hA hK hI hV hQ)
  have HM : Hid (TMay (colF K n) (colF I n) (colF V n) (colF Q n)) := ⟨colF_byte fK, colF_int fI, colF_word (fun i hi => word_of_wf (fV i hi)), colF_int fQ⟩
  have HB := Lib.hid hB
  clear hA hK hI hV hQ fK fI fV fQ hB hl hm
  generalize colF K n = K at HA HM
  generalize colF I n = I at HA HM
  generalize colF V n = V at HA HM
  generalize colF Q n = Q at HA HM
  by_cases hn : 200 < n
  · have d : decide ((200 : Int) < (n : Int)) = true := decide_eq_true (by omega)
    have d2 : decide (200 < n) = true := decide_eq_true hn
    clear hn
    go_enter Tryd.func3, Tryd.ntmps3
    go_wp2_with fail
    with_reducible refine (tab_awake w HB.out).mono ?_
    rintro e w1 ⟨rfl, hb1⟩
    have HB1 := Lib.hid (And.intro (HB.out.next hb1) hb1)
    clear hb1
    go_wp2_with fail
    with_reducible refine (tn_new w1 HB1.out.1).mono ?_
    rintro e w2 ⟨T, rfl, h⟩
    have H2 := Lib.hid (below_next HB1.out.2 h.below)
    clear h
    go_wp2
    go_ret
    exact ⟨by simp, H2.out⟩
  have d : decide ((200 : Int) < (n : Int)) = false := decide_eq_false (by omega)
  have d2 : decide (200 < n) = false := decide_eq_false hn
  have d3 : decide (n ≤ 200) = true := decide_eq_true (by omega)
  have HN := Lib.hid (show n ≤ 200 by omega)
  clear hn
  go_enter Tryd.func3, Tryd.ntmps3
  go_wp2_with fail
  with_reducible refine (tab_awake w HB.out).mono ?_
  rintro e w1 ⟨rfl, hb1⟩
  have HB1 := Lib.hid (And.intro (HB.out.next hb1) hb1)
  clear hb1
  go_wp2_with fail
  with_reducible refine (tb_new w1 HB1.out.1).mono ?_
  rintro e w2 ⟨rfl, hT, hb⟩
  obtain ⟨T, hTT⟩ : ∃ T, w1.heap.size + 1 = T := ⟨_, rfl⟩
  rw [hTT] at hT ⊢
  have HT : Hid (∃ S, Tb w2 T S 0 [] ∧ (∀ k, S k → w.heap.size ≤ k) ∧ Below w.heap.size w w2) := ⟨_, hT, fun k hk => by have := HB1.out.2.size; omega, below_next HB1.out.2 hb⟩
  clear hT hb hTT
  go_wp2
  go_loopg [4] n (fun gk ix wr => ∃ i : Nat, i + gk = n ∧ ix = .int .i64 i ∧ ∃ S L, Tb wr T S i L ∧ (∀ k, S k → w.heap.size ≤ k) ∧ Below w.heap.size w wr)
  case atStart =>
    obtain ⟨S, h1, h2, h3⟩ := HT.out
    exact ⟨0, by omega, rfl, S, [], h1, h2, h3⟩
  case round =>
    obtain ⟨i, hi, rfl, S, L, hT, hS, hb⟩ := hrel
    have HTR := Lib.hid hT
    have HSR := Lib.hid hS
    have HBR := Lib.hid hb
    clear hT hS hb HT HB1
    obtain ⟨wo, rfl⟩ : ∃ x : World, x = wr := ⟨_, rfl⟩
    by_cases hlt : i < n
    · obtain ⟨gm, rfl⟩ : ∃ gm, gk = gm + 1 := ⟨gk - 1, by omega⟩
      obtain ⟨bA, off, rfl, hbA⟩ := HA.out.addr (by omega)
      obtain ⟨c0, c1, c2, c3⟩ := HA.out.cells bA off rfl i hlt
      have c0 := (HBR.out.cell (p := ⟨bA, off + i * 4, none⟩) hbA).trans c0
      have c1 := (HBR.out.cell (p := ⟨bA, off + i * 4 + 1, none⟩) hbA).trans c1
      have c2 := (HBR.out.cell (p := ⟨bA, off + i * 4 + 2, none⟩) hbA).trans c2
      have c3 := (HBR.out.cell (p := ⟨bA, off + i * 4 + 3, none⟩) hbA).trans c3
      have hkb := HM.out.k i
      have hib := HM.out.i i
      have hvb := HM.out.v i
      obtain ⟨k, hk⟩ : ∃ x, K i = x := ⟨_, rfl⟩
      obtain ⟨id, hid⟩ : ∃ x, I i = x := ⟨_, rfl⟩
      obtain ⟨v, hv⟩ : ∃ x, V i = x := ⟨_, rfl⟩
      obtain ⟨q, hq⟩ : ∃ x, Q i = x := ⟨_, rfl⟩
      rw [hk] at c0 hkb
      rw [hid] at c1 hib
      rw [hv] at c2 hvb
      rw [hq] at c3
      clear hk hid hv hq
      have HV := Lib.hid hvb
      have k0 := hkb.1
      have k1 := hkb.2
      clear hvb hib hkb
      have p0 : (0 : Int) ≤ (i : Int) := by omega
      have p1 : (i : Int) < (n : Int) := by omega
      have e5 : wrap64 ((i : Int) + 1) = ((i + 1 : Nat) : Int) := by have := HN.out; unfold wrap64; omega
      have hk3 : k % 3 = 0 ∨ k % 3 = 1 ∨ k % 3 = 2 := by omega
      have hfew := HTR.out.ok.few
      have HIN := Lib.hid (show i < 1000000 by have := HN.out; omega)
      have W1 := Lib.hid (HTR.out.next ((Below.refl wo.heap.size wo).alloc (Nat.le_refl _) (.cells #[.int .u8 k, .int .i64 id, .int .u64 v, .int .i64 q] 28)))
      have BL := Lib.hid (Blk.new wo 28 #[.int .u8 k, .int .i64 id, .int .u64 v, .int .i64 q])
      by_cases hmay : 1 ≤ id ∧ id ≤ 65535
      rotate_left
      · have hg := HTR.out.ok.get_not hmay
        have HNM := Lib.hid hmay
        have hor : id < 1 ∨ 65535 < id := by omega
        clear hmay
        rcases hor with hor | hor
        · have m1 : decide ((1 : Int) ≤ id) = false := decide_eq_false (by omega)
          clear hor
          rcases hk3 with hk3 | hk3 | hk3
          · as_aux_lemma =>
            have hkm : k.tmod 3 = 0 := by rw [Int.tmod_eq_emod_of_nonneg k0]; exact hk3
            have GET := Lib.hid (fun w h => tb_get T i S L id w h)
            rw [hg] at GET
            have GT2 : tget id (tput id v L) = none := by rw [tput_not HNM.out]; exact hg
            have L2 : (tput id v L).length = L.length := by rw [tput_not HNM.out]
            obtain ⟨M, hM⟩ : ∃ M, tput id v L = M := ⟨_, rfl⟩
            rw [hM] at GT2 L2
            have HMM := Lib.hid hM
            clear hM
            go_wp2_with fail
            with_reducible refine (GET.out _ W1.out).mono ?_
            rintro e wa ⟨rfl, hba⟩
            have HTA := Lib.hid (W1.out.next hba)
            have bA1 := (BL.out).next hba
            have FA : Hid (Below w.heap.size w wa) := (HBR.out.alloc HBR.out.size _).trans (hba.mono (by simp; have := HBR.out.size; omega))
            have sza : wo.heap.size < wa.heap.size := by have := hba.size; simp at this; omega
            have a0 := bA1.get 0 rfl
            have a1 := bA1.get 1 rfl
            have a2 := bA1.get 2 rfl
            clear hba
            have LA := Lib.hid (tb_len T i S L wa HTA.out)
            obtain ⟨l, hll⟩ : ∃ l, L.length = l := ⟨_, rfl⟩
            obtain ⟨l1, hl1⟩ : ∃ l, M.length = l := ⟨_, rfl⟩
            rw [hll] at hfew L2 LA
            rw [hl1] at L2
            obtain rfl : l1 = l := by omega
            go_wp2_with fail
            with_reducible refine (LA.out).mono ?_
            rintro e wx ⟨rfl, rfl⟩
            have OPC := Lib.hid (tb_put T i S L id v wa HTA.out HV.out HIN.out)
            rw [askE_not HNM.out, HMM.out] at OPC
            go_wp2_with fail
            with_reducible refine (OPC.out).mono ?_
            rintro e w2 ⟨rfl, S', hT', hF, hN⟩
            obtain ⟨S', hT', hF, hN⟩ : ∃ S', Tb w2 T S' (i + 1) M ∧ Fr S wa w2 ∧ ∀ k, S' k → S k ∨ wa.heap.size ≤ k := ⟨S', hT', hF, hN⟩
            have HP := Lib.hid (And.intro hT' (And.intro hF hN))
            clear hT' hF hN
            have bA2 := bA1.fr HP.out.2.1 (fun h => by have := HTR.out.lt _ h; omega)
            clear a0 a1 a2 bA1
            have GB := Lib.hid (tb_get T (i + 1) S' M id w2 HP.out.1)
            rw [GT2] at GB
            have b0 := bA2.get 0 rfl
            have b1 := bA2.get 1 rfl
            have b2 := bA2.get 2 rfl
            go_wp2_with fail
            with_reducible refine (GB.out).mono ?_
            rintro e wc ⟨rfl, hbc⟩
            have HTC := Lib.hid (HP.out.1.next hbc)
            have bA3 := bA2.next hbc
            have HFC : Hid (Below w.heap.size w wc) := (FA.out.trans (HP.out.2.1.below FA.out.size (fun j hj hs => by have := HSR.out j hs; omega))).trans (hbc.mono (by have := FA.out.size; have := HP.out.2.1.size; omega))
            clear hbc b0 b1 b2 bA2
            have b0 := bA3.get 0 rfl
            have b1 := bA3.get 1 rfl
            have b2 := bA3.get 2 rfl
            go_wp2
            go_roundg gm
            case rel => exact ⟨i + 1, by omega, by go_num, S', M, HTC.out, (fun j hj => by
              rcases HP.out.2.2 j hj with h | h
              · exact HSR.out j h
              · exact Nat.le_trans FA.out.size h), HFC.out⟩
            case measure => omega
          · as_aux_lemma =>
            have hkm : k.tmod 3 = 1 := by rw [Int.tmod_eq_emod_of_nonneg k0]; exact hk3
            have GET := Lib.hid (fun w h => tb_get T i S L id w h)
            rw [hg] at GET
            have GT2 : tget id (tset id v L) = none := by rw [tset_none hg]; exact hg
            have L2 : (tset id v L).length = L.length := tset_length _ _ _
            obtain ⟨M, hM⟩ : ∃ M, tset id v L = M := ⟨_, rfl⟩
            rw [hM] at GT2 L2
            have HMM := Lib.hid hM
            clear hM
            go_wp2_with fail
            with_reducible refine (GET.out _ W1.out).mono ?_
            rintro e wa ⟨rfl, hba⟩
            have HTA := Lib.hid (W1.out.next hba)
            have bA1 := (BL.out).next hba
            have FA : Hid (Below w.heap.size w wa) := (HBR.out.alloc HBR.out.size _).trans (hba.mono (by simp; have := HBR.out.size; omega))
            have sza : wo.heap.size < wa.heap.size := by have := hba.size; simp at this; omega
            have a0 := bA1.get 0 rfl
            have a1 := bA1.get 1 rfl
            have a2 := bA1.get 2 rfl
            clear hba
            have LA := Lib.hid (tb_len T i S L wa HTA.out)
            obtain ⟨l, hll⟩ : ∃ l, L.length = l := ⟨_, rfl⟩
            obtain ⟨l1, hl1⟩ : ∃ l, M.length = l := ⟨_, rfl⟩
            rw [hll] at hfew L2 LA
            rw [hl1] at L2
            obtain rfl : l1 = l := by omega
            go_wp2_with fail
            with_reducible refine (LA.out).mono ?_
            rintro e wx ⟨rfl, rfl⟩
            have OPC := Lib.hid (tb_set T i S L id v wa HTA.out HV.out)
            rw [askE_not HNM.out, HMM.out] at OPC
            go_wp2_with fail
            with_reducible refine (OPC.out).mono ?_
            rintro e w2 ⟨rfl, hT', hF⟩
            obtain ⟨S', hT', hF, hN⟩ : ∃ S', Tb w2 T S' (i + 1) M ∧ Fr S wa w2 ∧ ∀ k, S' k → S k ∨ wa.heap.size ≤ k := ⟨S, hT'.mono (by omega), hF, fun k hk => Or.inl hk⟩
            have HP := Lib.hid (And.intro hT' (And.intro hF hN))
            clear hT' hF hN
            have bA2 := bA1.fr HP.out.2.1 (fun h => by have := HTR.out.lt _ h; omega)
            clear a0 a1 a2 bA1
            have GB := Lib.hid (tb_get T (i + 1) S' M id w2 HP.out.1)
            rw [GT2] at GB
            have b0 := bA2.get 0 rfl
            have b1 := bA2.get 1 rfl
            have b2 := bA2.get 2 rfl
            go_wp2_with fail
            with_reducible refine (GB.out).mono ?_
            rintro e wc ⟨rfl, hbc⟩
            have HTC := Lib.hid (HP.out.1.next hbc)
            have bA3 := bA2.next hbc
            have HFC : Hid (Below w.heap.size w wc) := (FA.out.trans (HP.out.2.1.below FA.out.size (fun j hj hs => by have := HSR.out j hs; omega))).trans (hbc.mono (by have := FA.out.size; have := HP.out.2.1.size; omega))
            clear hbc b0 b1 b2 bA2
            have b0 := bA3.get 0 rfl
            have b1 := bA3.get 1 rfl
            have b2 := bA3.get 2 rfl
            go_wp2
            go_roundg gm
            case rel => exact ⟨i + 1, by omega, by go_num, S', M, HTC.out, (fun j hj => by
              rcases HP.out.2.2 j hj with h | h
              · exact HSR.out j h
              · exact Nat.le_trans FA.out.size h), HFC.out⟩
            case measure => omega
          · as_aux_lemma =>
            have hkm : k.tmod 3 = 2 := by rw [Int.tmod_eq_emod_of_nonneg k0]; exact hk3
            have GET := Lib.hid (fun w h => tb_get T i S L id w h)
            rw [hg] at GET
            have GT2 : tget id (tdel id L) = none := tdel_get
            have L2 : (tdel id L).length = L.length := by rw [tdel_none hg]
            obtain ⟨M, hM⟩ : ∃ M, tdel id L = M := ⟨_, rfl⟩
            rw [hM] at GT2 L2
            have HMM := Lib.hid hM
            clear hM
            go_wp2_with fail
            with_reducible refine (GET.out _ W1.out).mono ?_
            rintro e wa ⟨rfl, hba⟩
            have HTA := Lib.hid (W1.out.next hba)
            have bA1 := (BL.out).next hba
            have FA : Hid (Below w.heap.size w wa) := (HBR.out.alloc HBR.out.size _).trans (hba.mono (by simp; have := HBR.out.size; omega))
            have sza : wo.heap.size < wa.heap.size := by have := hba.size; simp at this; omega
            have a0 := bA1.get 0 rfl
            have a1 := bA1.get 1 rfl
            have a2 := bA1.get 2 rfl
            clear hba
            have LA := Lib.hid (tb_len T i S L wa HTA.out)
            obtain ⟨l, hll⟩ : ∃ l, L.length = l := ⟨_, rfl⟩
            obtain ⟨l1, hl1⟩ : ∃ l, M.length = l := ⟨_, rfl⟩
            rw [hll] at hfew L2 LA
            rw [hl1] at L2
            obtain rfl : l1 = l := by omega
            go_wp2_with fail
            with_reducible refine (LA.out).mono ?_
            rintro e wx ⟨rfl, rfl⟩
            have OPC := Lib.hid (tb_drop T i S L id wa HTA.out)
            rw [askE_not HNM.out, HMM.out] at OPC
            go_wp2_with fail
            with_reducible refine (OPC.out).mono ?_
            rintro e w2 ⟨rfl, hT', hF⟩
            obtain ⟨S', hT', hF, hN⟩ : ∃ S', Tb w2 T S' (i + 1) M ∧ Fr S wa w2 ∧ ∀ k, S' k → S k ∨ wa.heap.size ≤ k := ⟨S, hT'.mono (by omega), hF, fun k hk => Or.inl hk⟩
            have HP := Lib.hid (And.intro hT' (And.intro hF hN))
            clear hT' hF hN
            have bA2 := bA1.fr HP.out.2.1 (fun h => by have := HTR.out.lt _ h; omega)
            clear a0 a1 a2 bA1
            have GB := Lib.hid (tb_get T (i + 1) S' M id w2 HP.out.1)
            rw [GT2] at GB
            have b0 := bA2.get 0 rfl
            have b1 := bA2.get 1 rfl
            have b2 := bA2.get 2 rfl
            go_wp2_with fail
            with_reducible refine (GB.out).mono ?_
            rintro e wc ⟨rfl, hbc⟩
            have HTC := Lib.hid (HP.out.1.next hbc)
            have bA3 := bA2.next hbc
            have HFC : Hid (Below w.heap.size w wc) := (FA.out.trans (HP.out.2.1.below FA.out.size (fun j hj hs => by have := HSR.out j hs; omega))).trans (hbc.mono (by have := FA.out.size; have := HP.out.2.1.size; omega))
            clear hbc b0 b1 b2 bA2
            have b0 := bA3.get 0 rfl
            have b1 := bA3.get 1 rfl
            have b2 := bA3.get 2 rfl
            go_wp2
            go_roundg gm
            case rel => exact ⟨i + 1, by omega, by go_num, S', M, HTC.out, (fun j hj => by
              rcases HP.out.2.2 j hj with h | h
              · exact HSR.out j h
              · exact Nat.le_trans FA.out.size h), HFC.out⟩
            case measure => omega
        · have m1 : decide ((1 : Int) ≤ id) = true := decide_eq_true (by omega)
          have m2 : decide (id ≤ 65535) = false := decide_eq_false (by omega)
          clear hor
          rcases hk3 with hk3 | hk3 | hk3
          · as_aux_lemma =>
            have hkm : k.tmod 3 = 0 := by rw [Int.tmod_eq_emod_of_nonneg k0]; exact hk3
            have GET := Lib.hid (fun w h => tb_get T i S L id w h)
            rw [hg] at GET
            have GT2 : tget id (tput id v L) = none := by rw [tput_not HNM.out]; exact hg
            have L2 : (tput id v L).length = L.length := by rw [tput_not HNM.out]
            obtain ⟨M, hM⟩ : ∃ M, tput id v L = M := ⟨_, rfl⟩
            rw [hM] at GT2 L2
            have HMM := Lib.hid hM
            clear hM
            go_wp2_with fail
            with_reducible refine (GET.out _ W1.out).mono ?_
            rintro e wa ⟨rfl, hba⟩
            have HTA := Lib.hid (W1.out.next hba)
            have bA1 := (BL.out).next hba
            have FA : Hid (Below w.heap.size w wa) := (HBR.out.alloc HBR.out.size _).trans (hba.mono (by simp; have := HBR.out.size; omega))
            have sza : wo.heap.size < wa.heap.size := by have := hba.size; simp at this; omega
            have a0 := bA1.get 0 rfl
            have a1 := bA1.get 1 rfl
            have a2 := bA1.get 2 rfl
            clear hba
            have LA := Lib.hid (tb_len T i S L wa HTA.out)
            obtain ⟨l, hll⟩ : ∃ l, L.length = l := ⟨_, rfl⟩
            obtain ⟨l1, hl1⟩ : ∃ l, M.length = l := ⟨_, rfl⟩
            rw [hll] at hfew L2 LA
            rw [hl1] at L2
            obtain rfl : l1 = l := by omega
            go_wp2_with fail
            with_reducible refine (LA.out).mono ?_
            rintro e wx ⟨rfl, rfl⟩
            have OPC := Lib.hid (tb_put T i S L id v wa HTA.out HV.out HIN.out)
            rw [askE_not HNM.out, HMM.out] at OPC
            go_wp2_with fail
            with_reducible refine (OPC.out).mono ?_
            rintro e w2 ⟨rfl, S', hT', hF, hN⟩
            obtain ⟨S', hT', hF, hN⟩ : ∃ S', Tb w2 T S' (i + 1) M ∧ Fr S wa w2 ∧ ∀ k, S' k → S k ∨ wa.heap.size ≤ k := ⟨S', hT', hF, hN⟩
            have HP := Lib.hid (And.intro hT' (And.intro hF hN))
            clear hT' hF hN
            have bA2 := bA1.fr HP.out.2.1 (fun h => by have := HTR.out.lt _ h; omega)
            clear a0 a1 a2 bA1
            have GB := Lib.hid (tb_get T (i + 1) S' M id w2 HP.out.1)
            rw [GT2] at GB
            have b0 := bA2.get 0 rfl
            have b1 := bA2.get 1 rfl
            have b2 := bA2.get 2 rfl
            go_wp2_with fail
            with_reducible refine (GB.out).mono ?_
            rintro e wc ⟨rfl, hbc⟩
            have HTC := Lib.hid (HP.out.1.next hbc)
            have bA3 := bA2.next hbc
            have HFC : Hid (Below w.heap.size w wc) := (FA.out.trans (HP.out.2.1.below FA.out.size (fun j hj hs => by have := HSR.out j hs; omega))).trans (hbc.mono (by have := FA.out.size; have := HP.out.2.1.size; omega))
            clear hbc b0 b1 b2 bA2
            have b0 := bA3.get 0 rfl
            have b1 := bA3.get 1 rfl
            have b2 := bA3.get 2 rfl
            go_wp2
            go_roundg gm
            case rel => exact ⟨i + 1, by omega, by go_num, S', M, HTC.out, (fun j hj => by
              rcases HP.out.2.2 j hj with h | h
              · exact HSR.out j h
              · exact Nat.le_trans FA.out.size h), HFC.out⟩
            case measure => omega
          · as_aux_lemma =>
            have hkm : k.tmod 3 = 1 := by rw [Int.tmod_eq_emod_of_nonneg k0]; exact hk3
            have GET := Lib.hid (fun w h => tb_get T i S L id w h)
            rw [hg] at GET
            have GT2 : tget id (tset id v L) = none := by rw [tset_none hg]; exact hg
            have L2 : (tset id v L).length = L.length := tset_length _ _ _
            obtain ⟨M, hM⟩ : ∃ M, tset id v L = M := ⟨_, rfl⟩
            rw [hM] at GT2 L2
            have HMM := Lib.hid hM
            clear hM
            go_wp2_with fail
            with_reducible refine (GET.out _ W1.out).mono ?_
            rintro e wa ⟨rfl, hba⟩
            have HTA := Lib.hid (W1.out.next hba)
            have bA1 := (BL.out).next hba
            have FA : Hid (Below w.heap.size w wa) := (HBR.out.alloc HBR.out.size _).trans (hba.mono (by simp; have := HBR.out.size; omega))
            have sza : wo.heap.size < wa.heap.size := by have := hba.size; simp at this; omega
            have a0 := bA1.get 0 rfl
            have a1 := bA1.get 1 rfl
            have a2 := bA1.get 2 rfl
            clear hba
            have LA := Lib.hid (tb_len T i S L wa HTA.out)
            obtain ⟨l, hll⟩ : ∃ l, L.length = l := ⟨_, rfl⟩
            obtain ⟨l1, hl1⟩ : ∃ l, M.length = l := ⟨_, rfl⟩
            rw [hll] at hfew L2 LA
            rw [hl1] at L2
            obtain rfl : l1 = l := by omega
            go_wp2_with fail
            with_reducible refine (LA.out).mono ?_
            rintro e wx ⟨rfl, rfl⟩
            have OPC := Lib.hid (tb_set T i S L id v wa HTA.out HV.out)
            rw [askE_not HNM.out, HMM.out] at OPC
            go_wp2_with fail
            with_reducible refine (OPC.out).mono ?_
            rintro e w2 ⟨rfl, hT', hF⟩
            obtain ⟨S', hT', hF, hN⟩ : ∃ S', Tb w2 T S' (i + 1) M ∧ Fr S wa w2 ∧ ∀ k, S' k → S k ∨ wa.heap.size ≤ k := ⟨S, hT'.mono (by omega), hF, fun k hk => Or.inl hk⟩
            have HP := Lib.hid (And.intro hT' (And.intro hF hN))
            clear hT' hF hN
            have bA2 := bA1.fr HP.out.2.1 (fun h => by have := HTR.out.lt _ h; omega)
            clear a0 a1 a2 bA1
            have GB := Lib.hid (tb_get T (i + 1) S' M id w2 HP.out.1)
            rw [GT2] at GB
            have b0 := bA2.get 0 rfl
            have b1 := bA2.get 1 rfl
            have b2 := bA2.get 2 rfl
            go_wp2_with fail
            with_reducible refine (GB.out).mono ?_
            rintro e wc ⟨rfl, hbc⟩
            have HTC := Lib.hid (HP.out.1.next hbc)
            have bA3 := bA2.next hbc
            have HFC : Hid (Below w.heap.size w wc) := (FA.out.trans (HP.out.2.1.below FA.out.size (fun j hj hs => by have := HSR.out j hs; omega))).trans (hbc.mono (by have := FA.out.size; have := HP.out.2.1.size; omega))
            clear hbc b0 b1 b2 bA2
            have b0 := bA3.get 0 rfl
            have b1 := bA3.get 1 rfl
            have b2 := bA3.get 2 rfl
            go_wp2
            go_roundg gm
            case rel => exact ⟨i + 1, by omega, by go_num, S', M, HTC.out, (fun j hj => by
              rcases HP.out.2.2 j hj with h | h
              · exact HSR.out j h
              · exact Nat.le_trans FA.out.size h), HFC.out⟩
            case measure => omega
          · as_aux_lemma =>
            have hkm : k.tmod 3 = 2 := by rw [Int.tmod_eq_emod_of_nonneg k0]; exact hk3
            have GET := Lib.hid (fun w h => tb_get T i S L id w h)
            rw [hg] at GET
            have GT2 : tget id (tdel id L) = none := tdel_get
            have L2 : (tdel id L).length = L.length := by rw [tdel_none hg]
            obtain ⟨M, hM⟩ : ∃ M, tdel id L = M := ⟨_, rfl⟩
            rw [hM] at GT2 L2
            have HMM := Lib.hid hM
            clear hM
            go_wp2_with fail
            with_reducible refine (GET.out _ W1.out).mono ?_
            rintro e wa ⟨rfl, hba⟩
            have HTA := Lib.hid (W1.out.next hba)
            have bA1 := (BL.out).next hba
            have FA : Hid (Below w.heap.size w wa) := (HBR.out.alloc HBR.out.size _).trans (hba.mono (by simp; have := HBR.out.size; omega))
            have sza : wo.heap.size < wa.heap.size := by have := hba.size; simp at this; omega
            have a0 := bA1.get 0 rfl
            have a1 := bA1.get 1 rfl
            have a2 := bA1.get 2 rfl
            clear hba
            have LA := Lib.hid (tb_len T i S L wa HTA.out)
            obtain ⟨l, hll⟩ : ∃ l, L.length = l := ⟨_, rfl⟩
            obtain ⟨l1, hl1⟩ : ∃ l, M.length = l := ⟨_, rfl⟩
            rw [hll] at hfew L2 LA
            rw [hl1] at L2
            obtain rfl : l1 = l := by omega
            go_wp2_with fail
            with_reducible refine (LA.out).mono ?_
            rintro e wx ⟨rfl, rfl⟩
            have OPC := Lib.hid (tb_drop T i S L id wa HTA.out)
            rw [askE_not HNM.out, HMM.out] at OPC
            go_wp2_with fail
            with_reducible refine (OPC.out).mono ?_
            rintro e w2 ⟨rfl, hT', hF⟩
            obtain ⟨S', hT', hF, hN⟩ : ∃ S', Tb w2 T S' (i + 1) M ∧ Fr S wa w2 ∧ ∀ k, S' k → S k ∨ wa.heap.size ≤ k := ⟨S, hT'.mono (by omega), hF, fun k hk => Or.inl hk⟩
            have HP := Lib.hid (And.intro hT' (And.intro hF hN))
            clear hT' hF hN
            have bA2 := bA1.fr HP.out.2.1 (fun h => by have := HTR.out.lt _ h; omega)
            clear a0 a1 a2 bA1
            have GB := Lib.hid (tb_get T (i + 1) S' M id w2 HP.out.1)
            rw [GT2] at GB
            have b0 := bA2.get 0 rfl
            have b1 := bA2.get 1 rfl
            have b2 := bA2.get 2 rfl
            go_wp2_with fail
            with_reducible refine (GB.out).mono ?_
            rintro e wc ⟨rfl, hbc⟩
            have HTC := Lib.hid (HP.out.1.next hbc)
            have bA3 := bA2.next hbc
            have HFC : Hid (Below w.heap.size w wc) := (FA.out.trans (HP.out.2.1.below FA.out.size (fun j hj hs => by have := HSR.out j hs; omega))).trans (hbc.mono (by have := FA.out.size; have := HP.out.2.1.size; omega))
            clear hbc b0 b1 b2 bA2
            have b0 := bA3.get 0 rfl
            have b1 := bA3.get 1 rfl
            have b2 := bA3.get 2 rfl
            go_wp2
            go_roundg gm
            case rel => exact ⟨i + 1, by omega, by go_num, S', M, HTC.out, (fun j hj => by
              rcases HP.out.2.2 j hj with h | h
              · exact HSR.out j h
              · exact Nat.le_trans FA.out.size h), HFC.out⟩
            case measure => omega
      have m1 : decide ((1 : Int) ≤ id) = true := decide_eq_true hmay.1
      have m2 : decide (id ≤ 65535) = true := decide_eq_true hmay.2
      have HMAY := Lib.hid hmay
      clear hmay
      rcases hg : tget id L with _ | x
      · have HGN := Lib.hid hg
        rcases hk3 with hk3 | hk3 | hk3
        · as_aux_lemma =>
          have hkm : k.tmod 3 = 0 := by rw [Int.tmod_eq_emod_of_nonneg k0]; exact hk3
          have GET := Lib.hid (fun w h => tb_get T i S L id w h)
          rw [hg] at GET
          have GT2 : tget id (tput id v L) = some v := tput_get HMAY.out.1 HMAY.out.2 HGN.out
          have L2 : (tput id v L).length = L.length + 1 := tput_len HMAY.out.1 HMAY.out.2 HGN.out
          obtain ⟨M, hM⟩ : ∃ M, tput id v L = M := ⟨_, rfl⟩
          rw [hM] at GT2 L2
          have HMM := Lib.hid hM
          clear hM
          go_wp2_with fail
          with_reducible refine (GET.out _ W1.out).mono ?_
          rintro e wa ⟨rfl, hba⟩
          have HTA := Lib.hid (W1.out.next hba)
          have bA1 := (BL.out).next hba
          have FA : Hid (Below w.heap.size w wa) := (HBR.out.alloc HBR.out.size _).trans (hba.mono (by simp; have := HBR.out.size; omega))
          have sza : wo.heap.size < wa.heap.size := by have := hba.size; simp at this; omega
          have a0 := bA1.get 0 rfl
          have a1 := bA1.get 1 rfl
          have a2 := bA1.get 2 rfl
          clear hba
          have LA := Lib.hid (tb_len T i S L wa HTA.out)
          obtain ⟨l, hll⟩ : ∃ l, L.length = l := ⟨_, rfl⟩
          obtain ⟨l1, hl1⟩ : ∃ l, M.length = l := ⟨_, rfl⟩
          rw [hll] at hfew L2 LA
          rw [hl1] at L2
          have e6 : wrap64 ((l : Int) + 1) = (l1 : Int) := by unfold wrap64; omega
          go_wp2_with fail
          with_reducible refine (LA.out).mono ?_
          rintro e wx ⟨rfl, rfl⟩
          have OPC := Lib.hid (tb_put T i S L id v wa HTA.out HV.out HIN.out)
          rw [askE_free HMAY.out.1 HMAY.out.2 HGN.out, HMM.out] at OPC
          go_wp2_with fail
          with_reducible refine (OPC.out).mono ?_
          rintro e w2 ⟨rfl, S', hT', hF, hN⟩
          obtain ⟨S', hT', hF, hN⟩ : ∃ S', Tb w2 T S' (i + 1) M ∧ Fr S wa w2 ∧ ∀ k, S' k → S k ∨ wa.heap.size ≤ k := ⟨S', hT', hF, hN⟩
          have HP := Lib.hid (And.intro hT' (And.intro hF hN))
          clear hT' hF hN
          have bA2 := bA1.fr HP.out.2.1 (fun h => by have := HTR.out.lt _ h; omega)
          clear a0 a1 a2 bA1
          have GB := Lib.hid (tb_get T (i + 1) S' M id w2 HP.out.1)
          rw [GT2] at GB
          have b0 := bA2.get 0 rfl
          have b1 := bA2.get 1 rfl
          have b2 := bA2.get 2 rfl
          go_wp2_with fail
          with_reducible refine (GB.out).mono ?_
          rintro e wc ⟨rfl, hbc⟩
          have HTC := Lib.hid (HP.out.1.next hbc)
          have bA3 := bA2.next hbc
          have HFC : Hid (Below w.heap.size w wc) := (FA.out.trans (HP.out.2.1.below FA.out.size (fun j hj hs => by have := HSR.out j hs; omega))).trans (hbc.mono (by have := FA.out.size; have := HP.out.2.1.size; omega))
          clear hbc b0 b1 b2 bA2
          have b0 := bA3.get 0 rfl
          have b1 := bA3.get 1 rfl
          have b2 := bA3.get 2 rfl
          go_wp2_with (first | go_quiet (fail))
          have LB := Lib.hid (tb_len T (i + 1) S' M _ (HTC.out.next (below_of_drewN wc _ nq)))
          rw [hl1] at LB
          with_reducible refine (LB.out).mono ?_
          rintro e wx ⟨rfl, rfl⟩
          go_wp2
          go_roundg gm
          case rel => exact ⟨i + 1, by omega, by go_num, S', M, HTC.out.next (below_of_drewN _ _ _), (fun j hj => by
            rcases HP.out.2.2 j hj with h | h
            · exact HSR.out j h
            · exact Nat.le_trans FA.out.size h), below_drewN' HFC.out _⟩
          case measure => omega
        · as_aux_lemma =>
          have hkm : k.tmod 3 = 1 := by rw [Int.tmod_eq_emod_of_nonneg k0]; exact hk3
          have GET := Lib.hid (fun w h => tb_get T i S L id w h)
          rw [hg] at GET
          have GT2 : tget id (tset id v L) = none := by rw [tset_none HGN.out]; exact HGN.out
          have L2 : (tset id v L).length = L.length := tset_length _ _ _
          obtain ⟨M, hM⟩ : ∃ M, tset id v L = M := ⟨_, rfl⟩
          rw [hM] at GT2 L2
          have HMM := Lib.hid hM
          clear hM
          go_wp2_with fail
          with_reducible refine (GET.out _ W1.out).mono ?_
          rintro e wa ⟨rfl, hba⟩
          have HTA := Lib.hid (W1.out.next hba)
          have bA1 := (BL.out).next hba
          have FA : Hid (Below w.heap.size w wa) := (HBR.out.alloc HBR.out.size _).trans (hba.mono (by simp; have := HBR.out.size; omega))
          have sza : wo.heap.size < wa.heap.size := by have := hba.size; simp at this; omega
          have a0 := bA1.get 0 rfl
          have a1 := bA1.get 1 rfl
          have a2 := bA1.get 2 rfl
          clear hba
          have LA := Lib.hid (tb_len T i S L wa HTA.out)
          obtain ⟨l, hll⟩ : ∃ l, L.length = l := ⟨_, rfl⟩
          obtain ⟨l1, hl1⟩ : ∃ l, M.length = l := ⟨_, rfl⟩
          rw [hll] at hfew L2 LA
          rw [hl1] at L2
          obtain rfl : l1 = l := by omega
          go_wp2_with fail
          with_reducible refine (LA.out).mono ?_
          rintro e wx ⟨rfl, rfl⟩
          have OPC := Lib.hid (tb_set T i S L id v wa HTA.out HV.out)
          rw [askE_gone HMAY.out.1 HMAY.out.2 HGN.out, HMM.out] at OPC
          go_wp2_with fail
          with_reducible refine (OPC.out).mono ?_
          rintro e w2 ⟨rfl, hT', hF⟩
          obtain ⟨S', hT', hF, hN⟩ : ∃ S', Tb w2 T S' (i + 1) M ∧ Fr S wa w2 ∧ ∀ k, S' k → S k ∨ wa.heap.size ≤ k := ⟨S, hT'.mono (by omega), hF, fun k hk => Or.inl hk⟩
          have HP := Lib.hid (And.intro hT' (And.intro hF hN))
          clear hT' hF hN
          have bA2 := bA1.fr HP.out.2.1 (fun h => by have := HTR.out.lt _ h; omega)
          clear a0 a1 a2 bA1
          have GB := Lib.hid (tb_get T (i + 1) S' M id w2 HP.out.1)
          rw [GT2] at GB
          have b0 := bA2.get 0 rfl
          have b1 := bA2.get 1 rfl
          have b2 := bA2.get 2 rfl
          go_wp2_with fail
          with_reducible refine (GB.out).mono ?_
          rintro e wc ⟨rfl, hbc⟩
          have HTC := Lib.hid (HP.out.1.next hbc)
          have bA3 := bA2.next hbc
          have HFC : Hid (Below w.heap.size w wc) := (FA.out.trans (HP.out.2.1.below FA.out.size (fun j hj hs => by have := HSR.out j hs; omega))).trans (hbc.mono (by have := FA.out.size; have := HP.out.2.1.size; omega))
          clear hbc b0 b1 b2 bA2
          have b0 := bA3.get 0 rfl
          have b1 := bA3.get 1 rfl
          have b2 := bA3.get 2 rfl
          go_wp2_with (first | go_quiet (fail))
          have LB := Lib.hid (tb_len T (i + 1) S' M _ (HTC.out.next (below_of_drewN wc _ nq)))
          rw [hl1] at LB
          with_reducible refine (LB.out).mono ?_
          rintro e wx ⟨rfl, rfl⟩
          go_wp2
          go_roundg gm
          case rel => exact ⟨i + 1, by omega, by go_num, S', M, HTC.out.next (below_of_drewN _ _ _), (fun j hj => by
            rcases HP.out.2.2 j hj with h | h
            · exact HSR.out j h
            · exact Nat.le_trans FA.out.size h), below_drewN' HFC.out _⟩
          case measure => omega
        · as_aux_lemma =>
          have hkm : k.tmod 3 = 2 := by rw [Int.tmod_eq_emod_of_nonneg k0]; exact hk3
          have GET := Lib.hid (fun w h => tb_get T i S L id w h)
          rw [hg] at GET
          have GT2 : tget id (tdel id L) = none := tdel_get
          have L2 : (tdel id L).length = L.length := by rw [tdel_none HGN.out]
          obtain ⟨M, hM⟩ : ∃ M, tdel id L = M := ⟨_, rfl⟩
          rw [hM] at GT2 L2
          have HMM := Lib.hid hM
          clear hM
          go_wp2_with fail
          with_reducible refine (GET.out _ W1.out).mono ?_
          rintro e wa ⟨rfl, hba⟩
          have HTA := Lib.hid (W1.out.next hba)
          have bA1 := (BL.out).next hba
          have FA : Hid (Below w.heap.size w wa) := (HBR.out.alloc HBR.out.size _).trans (hba.mono (by simp; have := HBR.out.size; omega))
          have sza : wo.heap.size < wa.heap.size := by have := hba.size; simp at this; omega
          have a0 := bA1.get 0 rfl
          have a1 := bA1.get 1 rfl
          have a2 := bA1.get 2 rfl
          clear hba
          have LA := Lib.hid (tb_len T i S L wa HTA.out)
          obtain ⟨l, hll⟩ : ∃ l, L.length = l := ⟨_, rfl⟩
          obtain ⟨l1, hl1⟩ : ∃ l, M.length = l := ⟨_, rfl⟩
          rw [hll] at hfew L2 LA
          rw [hl1] at L2
          obtain rfl : l1 = l := by omega
          go_wp2_with fail
          with_reducible refine (LA.out).mono ?_
          rintro e wx ⟨rfl, rfl⟩
          have OPC := Lib.hid (tb_drop T i S L id wa HTA.out)
          rw [askE_gone HMAY.out.1 HMAY.out.2 HGN.out, HMM.out] at OPC
          go_wp2_with fail
          with_reducible refine (OPC.out).mono ?_
          rintro e w2 ⟨rfl, hT', hF⟩
          obtain ⟨S', hT', hF, hN⟩ : ∃ S', Tb w2 T S' (i + 1) M ∧ Fr S wa w2 ∧ ∀ k, S' k → S k ∨ wa.heap.size ≤ k := ⟨S, hT'.mono (by omega), hF, fun k hk => Or.inl hk⟩
          have HP := Lib.hid (And.intro hT' (And.intro hF hN))
          clear hT' hF hN
          have bA2 := bA1.fr HP.out.2.1 (fun h => by have := HTR.out.lt _ h; omega)
          clear a0 a1 a2 bA1
          have GB := Lib.hid (tb_get T (i + 1) S' M id w2 HP.out.1)
          rw [GT2] at GB
          have b0 := bA2.get 0 rfl
          have b1 := bA2.get 1 rfl
          have b2 := bA2.get 2 rfl
          go_wp2_with fail
          with_reducible refine (GB.out).mono ?_
          rintro e wc ⟨rfl, hbc⟩
          have HTC := Lib.hid (HP.out.1.next hbc)
          have bA3 := bA2.next hbc
          have HFC : Hid (Below w.heap.size w wc) := (FA.out.trans (HP.out.2.1.below FA.out.size (fun j hj hs => by have := HSR.out j hs; omega))).trans (hbc.mono (by have := FA.out.size; have := HP.out.2.1.size; omega))
          clear hbc b0 b1 b2 bA2
          have b0 := bA3.get 0 rfl
          have b1 := bA3.get 1 rfl
          have b2 := bA3.get 2 rfl
          go_wp2_with (first | go_quiet (fail))
          have LB := Lib.hid (tb_len T (i + 1) S' M _ (HTC.out.next (below_of_drewN wc _ nq)))
          rw [hl1] at LB
          with_reducible refine (LB.out).mono ?_
          rintro e wx ⟨rfl, rfl⟩
          go_wp2
          go_roundg gm
          case rel => exact ⟨i + 1, by omega, by go_num, S', M, HTC.out.next (below_of_drewN _ _ _), (fun j hj => by
            rcases HP.out.2.2 j hj with h | h
            · exact HSR.out j h
            · exact Nat.le_trans FA.out.size h), below_drewN' HFC.out _⟩
          case measure => omega
      · have HGN := Lib.hid hg
        rcases hk3 with hk3 | hk3 | hk3
        · as_aux_lemma =>
          have hkm : k.tmod 3 = 0 := by rw [Int.tmod_eq_emod_of_nonneg k0]; exact hk3
          have GET := Lib.hid (fun w h => tb_get T i S L id w h)
          rw [hg] at GET
          have GT2 : tget id (tput id v L) = some x := by rw [tput_there HGN.out]; exact HGN.out
          have L2 : (tput id v L).length = L.length := by rw [tput_there HGN.out]
          obtain ⟨M, hM⟩ : ∃ M, tput id v L = M := ⟨_, rfl⟩
          rw [hM] at GT2 L2
          have HMM := Lib.hid hM
          clear hM
          go_wp2_with fail
          with_reducible refine (GET.out _ W1.out).mono ?_
          rintro e wa ⟨rfl, hba⟩
          have HTA := Lib.hid (W1.out.next hba)
          have bA1 := (BL.out).next hba
          have FA : Hid (Below w.heap.size w wa) := (HBR.out.alloc HBR.out.size _).trans (hba.mono (by simp; have := HBR.out.size; omega))
          have sza : wo.heap.size < wa.heap.size := by have := hba.size; simp at this; omega
          have a0 := bA1.get 0 rfl
          have a1 := bA1.get 1 rfl
          have a2 := bA1.get 2 rfl
          clear hba
          have LA := Lib.hid (tb_len T i S L wa HTA.out)
          obtain ⟨l, hll⟩ : ∃ l, L.length = l := ⟨_, rfl⟩
          obtain ⟨l1, hl1⟩ : ∃ l, M.length = l := ⟨_, rfl⟩
          rw [hll] at hfew L2 LA
          rw [hl1] at L2
          obtain rfl : l1 = l := by omega
          go_wp2_with fail
          with_reducible refine (LA.out).mono ?_
          rintro e wx ⟨rfl, rfl⟩
          have OPC := Lib.hid (tb_put T i S L id v wa HTA.out HV.out HIN.out)
          rw [askE_some HTR.out.ok HGN.out false, HMM.out] at OPC
          go_wp2_with fail
          with_reducible refine (OPC.out).mono ?_
          rintro e w2 ⟨rfl, S', hT', hF, hN⟩
          obtain ⟨S', hT', hF, hN⟩ : ∃ S', Tb w2 T S' (i + 1) M ∧ Fr S wa w2 ∧ ∀ k, S' k → S k ∨ wa.heap.size ≤ k := ⟨S', hT', hF, hN⟩
          have HP := Lib.hid (And.intro hT' (And.intro hF hN))
          clear hT' hF hN
          have bA2 := bA1.fr HP.out.2.1 (fun h => by have := HTR.out.lt _ h; omega)
          clear a0 a1 a2 bA1
          have GB := Lib.hid (tb_get T (i + 1) S' M id w2 HP.out.1)
          rw [GT2] at GB
          have b0 := bA2.get 0 rfl
          have b1 := bA2.get 1 rfl
          have b2 := bA2.get 2 rfl
          go_wp2_with fail
          with_reducible refine (GB.out).mono ?_
          rintro e wc ⟨rfl, hbc⟩
          have HTC := Lib.hid (HP.out.1.next hbc)
          have bA3 := bA2.next hbc
          have HFC : Hid (Below w.heap.size w wc) := (FA.out.trans (HP.out.2.1.below FA.out.size (fun j hj hs => by have := HSR.out j hs; omega))).trans (hbc.mono (by have := FA.out.size; have := HP.out.2.1.size; omega))
          clear hbc b0 b1 b2 bA2
          have b0 := bA3.get 0 rfl
          have b1 := bA3.get 1 rfl
          have b2 := bA3.get 2 rfl
          go_wp2_with (first | go_quiet (fail))
          have LB := Lib.hid (tb_len T (i + 1) S' M _ (HTC.out.next (below_of_drewN wc _ nq)))
          rw [hl1] at LB
          with_reducible refine (LB.out).mono ?_
          rintro e wx ⟨rfl, rfl⟩
          go_wp2
          go_roundg gm
          case rel => exact ⟨i + 1, by omega, by go_num, S', M, HTC.out.next (below_of_drewN _ _ _), (fun j hj => by
            rcases HP.out.2.2 j hj with h | h
            · exact HSR.out j h
            · exact Nat.le_trans FA.out.size h), below_drewN' HFC.out _⟩
          case measure => omega
        · as_aux_lemma =>
          have hkm : k.tmod 3 = 1 := by rw [Int.tmod_eq_emod_of_nonneg k0]; exact hk3
          have GET := Lib.hid (fun w h => tb_get T i S L id w h)
          rw [hg] at GET
          have GT2 : tget id (tset id v L) = some v := tset_get HGN.out
          have L2 : (tset id v L).length = L.length := tset_length _ _ _
          obtain ⟨M, hM⟩ : ∃ M, tset id v L = M := ⟨_, rfl⟩
          rw [hM] at GT2 L2
          have HMM := Lib.hid hM
          clear hM
          go_wp2_with fail
          with_reducible refine (GET.out _ W1.out).mono ?_
          rintro e wa ⟨rfl, hba⟩
          have HTA := Lib.hid (W1.out.next hba)
          have bA1 := (BL.out).next hba
          have FA : Hid (Below w.heap.size w wa) := (HBR.out.alloc HBR.out.size _).trans (hba.mono (by simp; have := HBR.out.size; omega))
          have sza : wo.heap.size < wa.heap.size := by have := hba.size; simp at this; omega
          have a0 := bA1.get 0 rfl
          have a1 := bA1.get 1 rfl
          have a2 := bA1.get 2 rfl
          clear hba
          have LA := Lib.hid (tb_len T i S L wa HTA.out)
          obtain ⟨l, hll⟩ : ∃ l, L.length = l := ⟨_, rfl⟩
          obtain ⟨l1, hl1⟩ : ∃ l, M.length = l := ⟨_, rfl⟩
          rw [hll] at hfew L2 LA
          rw [hl1] at L2
          obtain rfl : l1 = l := by omega
          go_wp2_with fail
          with_reducible refine (LA.out).mono ?_
          rintro e wx ⟨rfl, rfl⟩
          have OPC := Lib.hid (tb_set T i S L id v wa HTA.out HV.out)
          rw [askE_some HTR.out.ok HGN.out true, HMM.out] at OPC
          go_wp2_with fail
          with_reducible refine (OPC.out).mono ?_
          rintro e w2 ⟨rfl, hT', hF⟩
          obtain ⟨S', hT', hF, hN⟩ : ∃ S', Tb w2 T S' (i + 1) M ∧ Fr S wa w2 ∧ ∀ k, S' k → S k ∨ wa.heap.size ≤ k := ⟨S, hT'.mono (by omega), hF, fun k hk => Or.inl hk⟩
          have HP := Lib.hid (And.intro hT' (And.intro hF hN))
          clear hT' hF hN
          have bA2 := bA1.fr HP.out.2.1 (fun h => by have := HTR.out.lt _ h; omega)
          clear a0 a1 a2 bA1
          have GB := Lib.hid (tb_get T (i + 1) S' M id w2 HP.out.1)
          rw [GT2] at GB
          have b0 := bA2.get 0 rfl
          have b1 := bA2.get 1 rfl
          have b2 := bA2.get 2 rfl
          go_wp2_with fail
          with_reducible refine (GB.out).mono ?_
          rintro e wc ⟨rfl, hbc⟩
          have HTC := Lib.hid (HP.out.1.next hbc)
          have bA3 := bA2.next hbc
          have HFC : Hid (Below w.heap.size w wc) := (FA.out.trans (HP.out.2.1.below FA.out.size (fun j hj hs => by have := HSR.out j hs; omega))).trans (hbc.mono (by have := FA.out.size; have := HP.out.2.1.size; omega))
          clear hbc b0 b1 b2 bA2
          have b0 := bA3.get 0 rfl
          have b1 := bA3.get 1 rfl
          have b2 := bA3.get 2 rfl
          go_wp2_with (first | go_quiet (fail))
          have LB := Lib.hid (tb_len T (i + 1) S' M _ (HTC.out.next (below_of_drewN wc _ nq)))
          rw [hl1] at LB
          with_reducible refine (LB.out).mono ?_
          rintro e wx ⟨rfl, rfl⟩
          go_wp2
          go_roundg gm
          case rel => exact ⟨i + 1, by omega, by go_num, S', M, HTC.out.next (below_of_drewN _ _ _), (fun j hj => by
            rcases HP.out.2.2 j hj with h | h
            · exact HSR.out j h
            · exact Nat.le_trans FA.out.size h), below_drewN' HFC.out _⟩
          case measure => omega
        · as_aux_lemma =>
          have hkm : k.tmod 3 = 2 := by rw [Int.tmod_eq_emod_of_nonneg k0]; exact hk3
          have GET := Lib.hid (fun w h => tb_get T i S L id w h)
          rw [hg] at GET
          have GT2 : tget id (tdel id L) = none := tdel_get
          have L2 : (tdel id L).length + 1 = L.length := tdel_length HTR.out.ok.rises HGN.out
          obtain ⟨M, hM⟩ : ∃ M, tdel id L = M := ⟨_, rfl⟩
          rw [hM] at GT2 L2
          have HMM := Lib.hid hM
          clear hM
          go_wp2_with fail
          with_reducible refine (GET.out _ W1.out).mono ?_
          rintro e wa ⟨rfl, hba⟩
          have HTA := Lib.hid (W1.out.next hba)
          have bA1 := (BL.out).next hba
          have FA : Hid (Below w.heap.size w wa) := (HBR.out.alloc HBR.out.size _).trans (hba.mono (by simp; have := HBR.out.size; omega))
          have sza : wo.heap.size < wa.heap.size := by have := hba.size; simp at this; omega
          have a0 := bA1.get 0 rfl
          have a1 := bA1.get 1 rfl
          have a2 := bA1.get 2 rfl
          clear hba
          have LA := Lib.hid (tb_len T i S L wa HTA.out)
          obtain ⟨l, hll⟩ : ∃ l, L.length = l := ⟨_, rfl⟩
          obtain ⟨l1, hl1⟩ : ∃ l, M.length = l := ⟨_, rfl⟩
          rw [hll] at hfew L2 LA
          rw [hl1] at L2
          have e6 : wrap64 ((l : Int) - 1) = (l1 : Int) := by unfold wrap64; omega
          go_wp2_with fail
          with_reducible refine (LA.out).mono ?_
          rintro e wx ⟨rfl, rfl⟩
          have OPC := Lib.hid (tb_drop T i S L id wa HTA.out)
          rw [askE_some HTR.out.ok HGN.out true, HMM.out] at OPC
          go_wp2_with fail
          with_reducible refine (OPC.out).mono ?_
          rintro e w2 ⟨rfl, hT', hF⟩
          obtain ⟨S', hT', hF, hN⟩ : ∃ S', Tb w2 T S' (i + 1) M ∧ Fr S wa w2 ∧ ∀ k, S' k → S k ∨ wa.heap.size ≤ k := ⟨S, hT'.mono (by omega), hF, fun k hk => Or.inl hk⟩
          have HP := Lib.hid (And.intro hT' (And.intro hF hN))
          clear hT' hF hN
          have bA2 := bA1.fr HP.out.2.1 (fun h => by have := HTR.out.lt _ h; omega)
          clear a0 a1 a2 bA1
          have GB := Lib.hid (tb_get T (i + 1) S' M id w2 HP.out.1)
          rw [GT2] at GB
          have b0 := bA2.get 0 rfl
          have b1 := bA2.get 1 rfl
          have b2 := bA2.get 2 rfl
          go_wp2_with fail
          with_reducible refine (GB.out).mono ?_
          rintro e wc ⟨rfl, hbc⟩
          have HTC := Lib.hid (HP.out.1.next hbc)
          have bA3 := bA2.next hbc
          have HFC : Hid (Below w.heap.size w wc) := (FA.out.trans (HP.out.2.1.below FA.out.size (fun j hj hs => by have := HSR.out j hs; omega))).trans (hbc.mono (by have := FA.out.size; have := HP.out.2.1.size; omega))
          clear hbc b0 b1 b2 bA2
          have b0 := bA3.get 0 rfl
          have b1 := bA3.get 1 rfl
          have b2 := bA3.get 2 rfl
          go_wp2_with (first | go_quiet (fail))
          have LB := Lib.hid (tb_len T (i + 1) S' M _ (HTC.out.next (below_of_drewN wc _ nq)))
          rw [hl1] at LB
          with_reducible refine (LB.out).mono ?_
          rintro e wx ⟨rfl, rfl⟩
          go_wp2
          go_roundg gm
          case rel => exact ⟨i + 1, by omega, by go_num, S', M, HTC.out.next (below_of_drewN _ _ _), (fun j hj => by
            rcases HP.out.2.2 j hj with h | h
            · exact HSR.out j h
            · exact Nat.le_trans FA.out.size h), below_drewN' HFC.out _⟩
          case measure => omega
    · obtain rfl : gk = 0 := by omega
      obtain rfl : i = n := by omega
      clear hlt hi
      go_wp2
      go_ret
      exact ⟨by simp, HBR.out⟩

end Go.Proofs.YtddehgcdflfonaaDoor
