/-
  A table and the document's row, side by side: what the walk of TableHolds carries.
-/
import Derived.Test.YtddehgcdflfonaaDoorProg
import Derived.Test.YtddehgcdflfonaaDoorTabRow
namespace Go.Proofs.YtddehgcdflfonaaDoor
set_option linter.unusedVariables false
set_option linter.unusedSimpArgs false
set_option maxRecDepth 100000
open Go.RowKit Go.Shelf

theorem tget_map {f : Int → Int} {id : Int} : ∀ {L : TRow}, tget id (mapRow f L) = (tget id L).map f
  | [] => rfl
  | p :: L => by
    have ih := tget_map (f := f) (id := id) (L := L)
    have e : mapRow f (p :: L) = (p.1, f p.2) :: mapRow f L := rfl
    rw [e]
    simp only [tget]
    split
    · rfl
    · exact ih

/-- The table holds L, the row M, the result's block false; Ds: the marks of the loops that are through; b: the act's block. -/
structure TH (w W : World) (T r N b : Nat) (S : Nat → Prop) (v : Value) (L M : TRow) (Ds : List Nat) (bt : TypeId) (cs : Array Value) : Prop where
  tb : Tb W T S N L
  row : RowAt W r 0 v M
  res : Blk W w.heap.size 4 #[.bool false]
  below : Below w.heap.size w W
  low : ∀ k, S k → w.heap.size < k
  rlow : w.heap.size < r
  vlow : ∀ k, v.ownBlock = some k → w.heap.size < k
  ap : ∀ k, S k → k ≠ r ∧ v.ownBlock ≠ some k
  marks : ∀ D ∈ Ds, w.heap.size < D ∧ W.heap[D]? = some (.deferred (some [])) ∧ ¬ S D ∧ D ≠ r ∧ v.ownBlock ≠ some D
  nodup : Ds.Nodup
  g : 0 < w.heap.size
  box : Blk W b bt cs
  sb : ¬ S b
  rb : b ≠ r
  vb : v.ownBlock ≠ some b

section
variable {w W W' : World} {T r N b : Nat} {S : Nat → Prop} {v : Value} {L M : TRow} {Ds : List Nat} {bt : TypeId} {cs : Array Value}
theorem TH.wlt (h : TH w W T r N b S v L M Ds bt cs) : w.heap.size < W.heap.size := h.res.lt
theorem TH.mlt (h : TH w W T r N b S v L M Ds bt cs) {D : Nat} (hD : D ∈ Ds) : D < W.heap.size := (Array.getElem?_eq_some_iff.1 (h.marks D hD).2.1).1
theorem TH.next (h : TH w W T r N b S v L M Ds bt cs) (hb : Below W.heap.size W W') : TH w W' T r N b S v L M Ds bt cs where
  tb := h.tb.next hb
  row := h.row.next hb
  res := h.res.next hb
  below := below_next h.below hb
  low := h.low
  rlow := h.rlow
  vlow := h.vlow
  ap := h.ap
  marks := fun D hD => by
    obtain ⟨h1, h2, h3⟩ := h.marks D hD
    exact ⟨h1, (hb.block D (h.mlt hD)).trans h2, h3⟩
  nodup := h.nodup
  g := h.g
  box := h.box.next hb
  sb := h.sb
  rb := h.rb
  vb := h.vb
theorem TH.push (h : TH w W T r N b S v L M Ds bt cs) (hb : Below W.heap.size W W') {D : Nat} (hD : W.heap.size ≤ D) (hd : W'.heap[D]? = some (.deferred (some []))) : TH w W' T r N b S v L M (D :: Ds) bt cs :=
  { h.next hb with
    marks := fun D' hD' => by
      rcases List.mem_cons.1 hD' with rfl | hD'
      · have h1 := h.wlt
        have h2 := h.row.head.lt
        refine ⟨by omega, hd, fun hs => ?_, by omega, fun e => ?_⟩
        · have := h.tb.lt _ hs
          omega
        · have := (h.row.own.lt _ e).2
          omega
      · exact (h.next hb).marks D' hD'
    nodup := List.nodup_cons.2 ⟨fun hm => by have := h.mlt hm; omega, h.nodup⟩ }
theorem TH.table {S' : Nat → Prop} {N' : Nat} {L' : TRow} (h : TH w W T r N b S v L M Ds bt cs) (hT : Tb W' T S' N' L') (hf : Fr S W W') (hN : ∀ k, S' k → S k ∨ W.heap.size ≤ k) : TH w W' T r N' b S' v L' M Ds bt cs where
  tb := hT
  row := h.row.fr hf (fun hr => (h.ap r hr).1 rfl) (fun k hk hs => (h.ap k hs).2 hk)
  res := h.res.fr hf (fun hs => Nat.lt_irrefl _ (h.low _ hs))
  below := h.below.trans (hf.below h.below.size (fun k hk hs => by have := h.low k hs; omega))
  low := fun k hk => by
    rcases hN k hk with h1 | h1
    · exact h.low k h1
    · exact Nat.lt_of_lt_of_le h.wlt h1
  rlow := h.rlow
  vlow := h.vlow
  ap := fun k hk => by
    rcases hN k hk with h1 | h1
    · exact h.ap k h1
    · refine ⟨fun e => ?_, fun e => ?_⟩
      · have := h.row.head.lt
        omega
      · have := (h.row.own.lt _ e).2
        omega
  marks := fun D hD => by
    obtain ⟨h1, h2, h3, h4⟩ := h.marks D hD
    refine ⟨h1, (hf.block D (h.mlt hD) h3).trans h2, fun hs => ?_, h4⟩
    rcases hN D hs with h5 | h5
    · exact h3 h5
    · have := h.mlt hD
      omega
  nodup := h.nodup
  g := h.g
  box := h.box.fr hf h.sb
  sb := fun hs => by
    rcases hN b hs with h5 | h5
    · exact h.sb h5
    · have := h.box.lt
      omega
  rb := h.rb
  vb := h.vb
theorem TH.rows {v' : Value} {M' : TRow} (h : TH w W T r N b S v L M Ds bt cs) (hR : RowAt W' r 0 v' M') (hf : Fr (fun k => k = r ∨ v.ownBlock = some k) W W') (hv : ∀ k, v'.ownBlock = some k → (k = r ∨ v.ownBlock = some k) ∨ W.heap.size ≤ k) : TH w W' T r N b S v' L M' Ds bt cs where
  tb := h.tb.fr hf (fun k hk hs => by
    rcases hs with e | e
    · exact (h.ap k hk).1 e
    · exact (h.ap k hk).2 e) (fun k hs => by
    have := h.g
    rcases hs with rfl | e
    · have := h.rlow
      omega
    · have := h.vlow k e
      omega)
  row := hR
  res := h.res.fr hf (fun hs => by
    rcases hs with e | e
    · have := h.rlow
      omega
    · exact Nat.lt_irrefl _ (h.vlow _ e))
  below := h.below.trans (hf.below h.below.size (fun k hk hs => by
    rcases hs with rfl | e
    · have := h.rlow
      omega
    · have := h.vlow k e
      omega))
  low := h.low
  rlow := h.rlow
  vlow := fun k hk => by
    rcases hv k hk with (rfl | h1) | h1
    · exact h.rlow
    · exact h.vlow k h1
    · exact Nat.lt_of_lt_of_le h.wlt h1
  ap := fun k hk => by
    refine ⟨(h.ap k hk).1, fun e => ?_⟩
    rcases hv k e with (h1 | h1) | h1
    · exact (h.ap k hk).1 h1
    · exact (h.ap k hk).2 h1
    · have := h.tb.lt k hk
      omega
  marks := fun D hD => by
    obtain ⟨h1, h2, h3, h4, h5⟩ := h.marks D hD
    refine ⟨h1, (hf.block D (h.mlt hD) (fun hs => hs.elim h4 h5)).trans h2, h3, h4, fun e => ?_⟩
    rcases hv D e with (h6 | h6) | h6
    · exact h4 h6
    · exact h5 h6
    · have := h.mlt hD
      omega
  nodup := h.nodup
  g := h.g
  box := h.box.fr hf (fun hs => hs.elim h.rb h.vb)
  sb := h.sb
  rb := h.rb
  vb := fun e => by
    rcases hv b e with (h6 | h6) | h6
    · exact h.rb h6
    · exact h.vb h6
    · have := h.box.lt
      omega
/-- Another act. -/
theorem TH.act (h : TH w W T r N b S v L M Ds bt cs) (cs' : Array Value) : TH w (W.alloc (.cells cs' 28)) T r N W.heap.size S v L M Ds 28 cs' :=
  { h.next ((Below.refl _ _).alloc (Nat.le_refl _) _) with
    box := Blk.new W _ _
    sb := fun hs => Nat.lt_irrefl _ (h.tb.lt _ hs)
    rb := fun e => by have := h.row.head.lt; omega
    vb := fun e => Nat.lt_irrefl _ (h.row.own.lt _ e).2 }

theorem th_put (h : TH w W T r N b S v L M Ds bt cs) (id x : Int) (hx : Word x) (hN : N < 1000000) :
    Calls Tryd.prog 13 #[.pointer (some ⟨T, 0, none⟩), .int .i64 id, .int .u64 x] W fun e w' => e = .returned (.int .i64 (askE L id false)) ∧ ∃ S', TH w w' T r (N + 1) b S' v (tput id x L) M Ds bt cs :=
  (tb_put T N S L id x W h.tb hx hN).mono fun e w' ⟨h1, S', h2, h3, h4⟩ => ⟨h1, S', h.table h2 h3 h4⟩
theorem th_set (h : TH w W T r N b S v L M Ds bt cs) (id x : Int) (hx : Word x) :
    Calls Tryd.prog 14 #[.pointer (some ⟨T, 0, none⟩), .int .i64 id, .int .u64 x] W fun e w' => e = .returned (.int .i64 (askE L id true)) ∧ TH w w' T r N b S v (tset id x L) M Ds bt cs :=
  (tb_set T N S L id x W h.tb hx).mono fun e w' ⟨h1, h2, h3⟩ => ⟨h1, h.table h2 h3 (fun k hk => Or.inl hk)⟩
theorem th_drop (h : TH w W T r N b S v L M Ds bt cs) (id : Int) :
    Calls Tryd.prog 15 #[.pointer (some ⟨T, 0, none⟩), .int .i64 id] W fun e w' => e = .returned (.int .i64 (askE L id true)) ∧ TH w w' T r N b S v (tdel id L) M Ds bt cs :=
  (tb_drop T N S L id W h.tb).mono fun e w' ⟨h1, h2, h3⟩ => ⟨h1, h.table h2 h3 (fun k hk => Or.inl hk)⟩
theorem th_rput (h : TH w W T r N b S v L M Ds bt cs) (hM : TOk M) (id x : Int) :
    Calls Tryd.prog 23 #[.pointer (some ⟨r, 0, none⟩), .int .i64 id, .int .u64 x] W fun e w' => e = .returned (.int .i64 (askE M id false)) ∧ ∃ v', TH w w' T r N b S v' L (tput id x M) Ds bt cs :=
  (ref_put r 0 v M id x W h.row (Nat.zero_le _) hM (fun k => k = r ∨ v.ownBlock = some k) (fun k hk => Or.inr hk) (Or.inl rfl)).mono fun e w' ⟨v', h1, h2, h3, h4⟩ => ⟨h1, v', h.rows h2 h3 h4⟩
theorem th_rset (h : TH w W T r N b S v L M Ds bt cs) (hM : TOk M) (id x : Int) :
    Calls Tryd.prog 24 #[.pointer (some ⟨r, 0, none⟩), .int .i64 id, .int .u64 x] W fun e w' => e = .returned (.int .i64 (askE M id true)) ∧ ∃ v', TH w w' T r N b S v' L (tset id x M) Ds bt cs :=
  (ref_set r 0 v M id x W h.row hM).mono fun e w' ⟨h1, h2, h3⟩ => ⟨h1, v, h.rows h2 (h3.mono (fun k _ hk => Or.inr hk)) (fun k hk => Or.inl (Or.inr hk))⟩
theorem th_rdrop (h : TH w W T r N b S v L M Ds bt cs) (hM : TOk M) (id : Int) :
    Calls Tryd.prog 25 #[.pointer (some ⟨r, 0, none⟩), .int .i64 id] W fun e w' => e = .returned (.int .i64 (askE M id true)) ∧ ∃ v', TH w w' T r N b S v' L (tdel id M) Ds bt cs :=
  (ref_drop r 0 v M id W h.row (Nat.zero_le _) hM).mono fun e w' ⟨v', h1, h2, h3, h4⟩ => ⟨h1, v', h.rows h2 (h3.mono (fun k _ hk => Or.inl hk)) (fun k hk => (h4 k hk).elim (fun h => Or.inl (Or.inr h)) Or.inr)⟩
theorem th_same (h : TH w W T r N b S v L L Ds bt cs) (ask : Int) (h64 : -9223372036854775808 ≤ ask) :
    Calls Tryd.prog 22 #[.pointer (some ⟨T, 0, none⟩), .pointer (some ⟨r, 0, none⟩), .int .i64 ask] W fun e w' => e = .returned (.bool true) ∧ TH w w' T r N b S v L L Ds bt cs :=
  (tab_same _ W.heap.size _ L r 0 v ask W (isTab_made h.tb h.tb.lt (Nat.lt_trans h.g h.wlt)) h.tb (Nat.le_refl _) h.row h64).mono fun e w' ⟨h1, h2⟩ => ⟨h1, h.next h2⟩
end

theorem TH.mono {w W : World} {T r N N' b : Nat} {S : Nat → Prop} {v : Value} {L M : TRow} {Ds : List Nat} {bt : TypeId} {cs : Array Value} (h : TH w W T r N b S v L M Ds bt cs) (hN : N ≤ N') : TH w W T r N' b S v L M Ds bt cs := { h with tb := h.tb.mono hN }

/-- The copies behind W3: C, that holds M; D, that holds M', its pointer in a block of its own; a loop's mark. -/
structure CD (w3 W : World) (C D dbx mk Nc ND : Nat) (Sc SD : Nat → Prop) (M M' : TRow) : Prop where
  c : Tb W C Sc Nc M
  d : Tb W D SD ND M'
  bx : Blk W dbx 24 #[.pointer (some ⟨D, 0, none⟩)]
  below : Below w3.heap.size w3 W
  mark : W.heap[mk]? = some (.deferred (some []))
  low : ∀ j, Sc j → w3.heap.size ≤ j ∧ ¬ SD j ∧ j ≠ dbx ∧ j ≠ mk
  dlow : ∀ j, SD j → w3.heap.size ≤ j ∧ j ≠ dbx ∧ j ≠ mk

section
variable {w3 W W' : World} {C D dbx mk Nc ND : Nat} {Sc SD : Nat → Prop} {M M' : TRow}
theorem CD.mlt (h : CD w3 W C D dbx mk Nc ND Sc SD M M') : mk < W.heap.size := (Array.getElem?_eq_some_iff.1 h.mark).1
theorem CD.next (h : CD w3 W C D dbx mk Nc ND Sc SD M M') (hb : Below W.heap.size W W') : CD w3 W' C D dbx mk Nc ND Sc SD M M' :=
  ⟨h.c.next hb, h.d.next hb, h.bx.next hb, below_next h.below hb, (hb.block _ h.mlt).trans h.mark, h.low, h.dlow⟩
theorem CD.onC {S' : Nat → Prop} {N' : Nat} {L' : TRow} (h : CD w3 W C D dbx mk Nc ND Sc SD M M') (hT : Tb W' C S' N' L') (hf : Fr Sc W W') (hN : ∀ k, S' k → Sc k ∨ W.heap.size ≤ k) : CD w3 W' C D dbx mk N' ND S' SD L' M' where
  c := hT
  d := h.d.fr hf (fun k hk hs => (h.low k hs).2.1 hk) (fun k hk => h.c.big k hk)
  bx := h.bx.fr hf (fun hs => (h.low _ hs).2.2.1 rfl)
  below := h.below.trans (hf.below h.below.size (fun k hk hs => by have := (h.low k hs).1; omega))
  mark := (hf.block _ h.mlt (fun hs => (h.low _ hs).2.2.2 rfl)).trans h.mark
  low := fun j hj => by
    rcases hN j hj with h1 | h1
    · exact h.low j h1
    · refine ⟨Nat.le_trans h.below.size h1, fun hs => ?_, fun e => ?_, fun e => ?_⟩
      · have := h.d.lt j hs
        omega
      · have := h.bx.lt
        omega
      · have := h.mlt
        omega
  dlow := h.dlow
theorem CD.onD {L' : TRow} (h : CD w3 W C D dbx mk Nc ND Sc SD M M') (hT : Tb W' D SD ND L') (hf : Fr SD W W') : CD w3 W' C D dbx mk Nc ND Sc SD M L' where
  c := h.c.fr hf (fun k hk hs => (h.low k hk).2.1 hs) (fun k hk => h.d.big k hk)
  d := hT
  bx := h.bx.fr hf (fun hs => (h.dlow _ hs).2.1 rfl)
  below := h.below.trans (hf.below h.below.size (fun k hk hs => by have := (h.dlow k hs).1; omega))
  mark := (hf.block _ h.mlt (fun hs => (h.dlow _ hs).2.2 rfl)).trans h.mark
  low := h.low
  dlow := h.dlow
theorem cd_put (h : CD w3 W C D dbx mk Nc ND Sc SD M M') (id x : Int) (hx : Word x) (hN : Nc < 1000000) :
    Calls Tryd.prog 13 #[.pointer (some ⟨C, 0, none⟩), .int .i64 id, .int .u64 x] W fun e w' => ∃ E, e = .returned (.int .i64 E) ∧ ∃ S' L', CD w3 w' C D dbx mk (Nc + 1) ND S' SD L' M' :=
  (tb_put C Nc Sc M id x W h.c hx hN).mono fun e w' ⟨h1, S', h2, h3, h4⟩ => ⟨_, h1, S', _, h.onC h2 h3 h4⟩
theorem cd_drop (h : CD w3 W C D dbx mk Nc ND Sc SD M M') (id : Int) :
    Calls Tryd.prog 15 #[.pointer (some ⟨C, 0, none⟩), .int .i64 id] W fun e w' => ∃ E, e = .returned (.int .i64 E) ∧ ∃ L', CD w3 w' C D dbx mk Nc ND Sc SD L' M' :=
  (tb_drop C Nc Sc M id W h.c).mono fun e w' ⟨h1, h2, h3⟩ => ⟨_, h1, _, h.onC h2 h3 (fun k hk => Or.inl hk)⟩
theorem cd_set (h : CD w3 W C D dbx mk Nc ND Sc SD M M') (id x : Int) (hx : Word x) :
    Calls Tryd.prog 14 #[.pointer (some ⟨D, 0, none⟩), .int .i64 id, .int .u64 x] W fun e w' => ∃ E, e = .returned (.int .i64 E) ∧ ∃ L', CD w3 w' C D dbx mk Nc ND Sc SD M L' :=
  (tb_set D ND SD M' id x W h.d hx).mono fun e w' ⟨h1, h2, h3⟩ => ⟨_, h1, _, h.onD h2 h3⟩
end

end Go.Proofs.YtddehgcdflfonaaDoor
