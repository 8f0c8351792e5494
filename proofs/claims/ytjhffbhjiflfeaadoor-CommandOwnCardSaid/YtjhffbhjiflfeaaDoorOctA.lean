/-
  What a pen does: its bytes lie in a row of its own.
-/
import Derived.Test.YtjhffbhjiflfeaaDoorProg
import Derived.Test.YtjhffbhjiflfeaaDoorLib2
import Derived.Test.YtjhffbhjiflfeaaDoorOctPlain
import Derived.Maps.AppendAt
import Derived.Deep.AppendLies
import Derived.Laws.IdiomStrings
namespace Go.Proofs.YtjhffbhjiflfeaaDoor
set_option linter.unusedVariables false
set_option linter.unusedSimpArgs false
set_option maxRecDepth 100000
open Go.RowKit

/-- Numbers below 256 as a string's bytes. -/
def bs (l : List Nat) : ByteArray := ⟨(l.map UInt8.ofNat).toArray⟩
theorem bs_size (l : List Nat) : (bs l).size = l.length := by simp [bs, ByteArray.size]
theorem bs_nil : bs [] = ⟨#[]⟩ := rfl
theorem bs_append (l m : List Nat) : bs (l ++ m) = bs l ++ bs m := by
  apply ByteArray.ext
  rw [ByteArray.data_append]
  simp [bs]
def Bytes (l : List Nat) : Prop := ∀ x ∈ l, x < 256
theorem Bytes.app {l m : List Nat} (h : Bytes l) (k : Bytes m) : Bytes (l ++ m) := fun x hx => (List.mem_append.1 hx).elim (h x) (k x)
theorem bytes_one {x : Nat} (h : x < 256) : Bytes [x] := fun y hy => by rw [List.mem_singleton] at hy; omega
theorem bytes_num (n : Nat) : Bytes (numB n) := numB_byte n
theorem map_back {l : List Nat} (h : Bytes l) : (l.map UInt8.ofNat).map UInt8.toNat = l := by
  rw [List.map_map]
  conv => rhs; rw [← List.map_id l]
  apply List.map_congr_left
  intro x hx
  have := h x hx
  simp [UInt8.toNat_ofNat']
  omega
theorem bs_inj {l m : List Nat} (h : Bytes l) (k : Bytes m) (e : bs l = bs m) : l = m := by
  have e1 : (bs l).data.toList = (bs m).data.toList := by rw [e]
  simp only [bs] at e1
  rw [← map_back h, ← map_back k, e1]
theorem bs_of (s : ByteArray) : ∃ l, Bytes l ∧ s = bs l ∧ l.length = s.size := by
  refine ⟨s.data.toList.map UInt8.toNat, ?_, ?_, by simp⟩
  · intro x hx
    obtain ⟨y, _, rfl⟩ := List.mem_map.1 hx
    exact y.toNat_lt
  · apply ByteArray.ext
    simp [bs, Function.comp_def]

/-- A byte as a cell holds it. -/
def byteV (x : Nat) : Value := .int .u8 (x : Int)

/-- A pen at block g with what it has written: its row lies in block r (none: it has no row yet), in blocks from B on. -/
def PenAt (w : World) (B g : Nat) (r : Option Nat) (l : List Nat) : Prop :=
  ∃ v, Blk w g 72 #[v] ∧ w.ownsRow B 5 1 v l.length (l.map byteV) ∧ v.ownBlock = r ∧ Bytes l

/-- From w to w1 the pen has come to l; besides its own blocks nothing has turned. -/
def PenTo (B g : Nat) (r : Option Nat) (l : List Nat) (w w1 : World) : Prop :=
  ∃ r', PenAt w1 B g r' l ∧ Fr (fun k => k = g ∨ r = some k) w w1 ∧ ∀ k, r' = some k → k < w.heap.size → r = some k

theorem PenAt.lt {w : World} {B g : Nat} {r : Option Nat} {l : List Nat} (h : PenAt w B g r l) : g < w.heap.size := by
  obtain ⟨v, hb, _⟩ := h; exact Blk.lt hb
theorem PenAt.ne {w : World} {B g : Nat} {r : Option Nat} {l : List Nat} (h : PenAt w B g r l) : ∀ k, r = some k → B ≤ k ∧ k < w.heap.size ∧ k ≠ g := by
  obtain ⟨v, hb, ho, hr, _⟩ := h
  intro k hk
  rw [← hr] at hk
  obtain ⟨h1, h2⟩ := ho.lt k hk
  refine ⟨h1, h2, ?_⟩
  rintro rfl
  rcases ho.2 with ⟨rfl, _⟩ | ⟨g', cap, cur, rfl, _, hh, _⟩
  · simp [Value.ownBlock] at hk
  · have : g' = k := by simpa [Value.ownBlock] using hk
    subst this
    exact Blk.ne_of_type (t := 5) hh hb (by decide) rfl
theorem PenAt.fr {w w' : World} {B g : Nat} {r : Option Nat} {l : List Nat} {S : Nat → Prop} (h : PenAt w B g r l) (hf : Fr S w w') (hg : ¬ S g) (hr : ∀ k, r = some k → ¬ S k) : PenAt w' B g r l := by
  obtain ⟨v, hb, ho, he, hl⟩ := h
  exact ⟨v, hb.fr hf hg, ownsRow_fr ho hf (fun k hk => hr k (by rw [← he]; exact hk)), he, hl⟩
theorem PenAt.below {w w' : World} {B g : Nat} {r : Option Nat} {l : List Nat} (h : PenAt w B g r l) (hb : Below w.heap.size w w') : PenAt w' B g r l :=
  h.fr (S := fun k => w.heap.size ≤ k) (Fr.of_below hb) (by have := h.lt; omega) (fun k hk => by have := (h.ne k hk).2.1; omega)
theorem PenAt.alloc {w : World} {B g : Nat} {r : Option Nat} {l : List Nat} (h : PenAt w B g r l) (o : Obj) : PenAt (w.alloc o) B g r l := h.below ((Below.refl _ _).alloc (Nat.le_refl _) _)
theorem PenAt.drewN {w : World} {B g : Nat} {r : Option Nat} {l : List Nat} (h : PenAt w B g r l) (n : Nat) : PenAt (w.drewN n) B g r l := h
theorem PenTo.refl {w : World} {B g : Nat} {r : Option Nat} {l : List Nat} (h : PenAt w B g r l) : PenTo B g r l w w := ⟨r, h, Fr.refl _ _, fun _ hk _ => hk⟩
theorem PenTo.next {w w1 w2 : World} {B g : Nat} {r r1 : Option Nat} {l2 : List Nat} (hf : Fr (fun k => k = g ∨ r = some k) w w1) (hn : ∀ k, r1 = some k → k < w.heap.size → r = some k) (h : PenTo B g r1 l2 w1 w2) : PenTo B g r l2 w w2 := by
  obtain ⟨r2, h2, f2, n2⟩ := h
  refine ⟨r2, h2, hf.then f2 (fun i hi hs => ?_), fun k hk hlt => ?_⟩
  · rcases hs with hs | hs
    · exact .inl hs
    · exact .inr (hn i hs hi)
  · exact hn k (n2 k hk (Nat.lt_of_lt_of_le hlt hf.size)) hlt
theorem PenTo.below {w w1 w2 : World} {B g : Nat} {r : Option Nat} {l : List Nat} (h : PenTo B g r l w w1) (hb : Below w1.heap.size w1 w2) : PenTo B g r l w w2 := by
  obtain ⟨r1, h1, f1, n1⟩ := h
  exact ⟨r1, h1.below hb, f1.next hb, n1⟩
/-- New blocks ahead of what the pen does. -/
theorem PenTo.ahead {w0 w w1 : World} {B g : Nat} {r : Option Nat} {l : List Nat} (hb : Below w0.heap.size w0 w) (h : PenTo B g r l w w1) : PenTo B g r l w0 w1 :=
  PenTo.next (Fr.of_new hb) (fun _ hk _ => hk) h
/-- A pen of the call's own turns nothing that was there ahead of the call. -/
theorem PenTo.old {w0 w w1 : World} {B g : Nat} {r : Option Nat} {l l0 : List Nat} (hb : Below w0.heap.size w0 w) (h0 : PenAt w B g r l0) (hB : w0.heap.size ≤ B) (hg : w0.heap.size ≤ g) (h : PenTo B g r l w w1) : Below w0.heap.size w0 w1 := by
  obtain ⟨r1, h1, f1, n1⟩ := h
  refine hb.trans (f1.below (B := w0.heap.size) hb.size (fun k hk hs => ?_))
  rcases hs with hs | hs
  · omega
  · have := (h0.ne k hs).1; omega

theorem line_one (B g a x : Nat) (r : Option Nat) (l : List Nat) (w : World) (h : PenAt w B g r l) (hx : x < 256) (ha : w.cell? ⟨a, 0, none⟩ = some (byteV x)) (hl : l.length + 1 ≤ 100000000000000) (hB : B ≤ w.heap.size) :
    Calls Tryd.prog 34 #[.pointer (some ⟨g, 0, none⟩), .slice (some ⟨a, 0, none⟩) 1 1] w fun e w' => e = .returned (.tuple #[]) ∧ PenTo B g r (l ++ [x]) w w' := by
  have hg := h.lt
  obtain ⟨v, hb, ho, hr, hbl⟩ := h
  obtain ⟨i0, hi, hz0, hz1, hz2⟩ := info_parts (show (Tryd.prog.info? 5).map (fun i => (i.zero, i.size, i.bytes)) = some (some (.int .u8 0), 1, 1) by kernel_rfl)
  have c0 : w.cell? ⟨g, 0, none⟩ = some v := hb.get 0 rfl
  have f0 := Blk.frozen hb 0
  have hla : l.length + 1 ≤ maxLen := by unfold maxLen; omega
  have hne : ∀ k, v.ownBlock = some k → k ≠ g := fun k hk => (PenAt.ne ⟨v, hb, ho, hr, hbl⟩ k (by rw [← hr]; exact hk)).2.2
  go_enter Tryd.func34, Tryd.ntmps34
  go_wp2_with (at_builtin; refine wpList_append_own_at _ rfl _ _ 68 rfl B 5 i0 (.int .u8 0) 1 1 Tryd.underlying68 hi hz0 hz1 hz2 rfl (by decide) v l.length (l.map byteV) rfl ho ⟨a, 0, none⟩ 1 1 [byteV x] rfl rfl ?c1 ?c2 hla (by omega) hB ?_)
  case c1 =>
    intro j u hj
    match j, hj with
    | 0, hj => simp at hj; subst hj; simpa [Addr.add] using ha
  case c2 => intro u hu; rw [List.mem_singleton] at hu; subst hu; rfl
  intro v' w1 ho1 hg1 _ hown1
  obtain ⟨g', cap', rfl, -, -⟩ := ho1.form (by omega)
  have hgr : some g ≠ r := fun e => hne g (by rw [hr]; exact e.symm) rfl
  have hb1 : Blk w1 g 72 #[v] := hb.grown hg1 hgr
  have c1 : w1.cell? ⟨g, 0, none⟩ = some v := hb1.get 0 rfl
  have f1 := Blk.frozen hb1 0
  have H1 := Lib.hid ho1
  have H2 := Lib.hid hown1
  have H3 := Lib.hid hr
  have H4 := Lib.hid hgr
  clear ho1 hown1 hr c0 f0 hgr
  go_wp2_with fail
  go_end0
  refine ⟨rfl, (Value.slice (some ⟨g', 0, none⟩) (l.length + 1) cap').ownBlock, ?_, ?_, ?_⟩
  · have hg' : ∀ k, (Value.slice (some ⟨g', 0, none⟩) (l.length + 1) cap').ownBlock = some k → k ≠ g := by
      intro k hk e
      subst e
      rcases H2.out with h | h
      · exact H4.out (by rw [← h, hk])
      · rw [hk] at h; injection h; omega
    refine ⟨_, (Blk.put hb1 0 _), ?_, rfl, Bytes.app hbl (bytes_one hx)⟩
    have := ownsRow_fr H1.out ((Fr.refl (fun k => k = g) w1).setCell (p := ⟨g, 0, none⟩) (fun _ => rfl) (Value.slice (some ⟨g', 0, none⟩) (l.length + 1) cap')) hg'
    simpa using this
  · exact ((Fr.refl (fun k => k = g ∨ r = some k) w).grown hg1 (fun k hk _ => .inr hk)).setCell (p := ⟨g, 0, none⟩) (fun _ => .inl rfl) _
  · intro k hk hlt
    rcases H2.out with h | h
    · rw [← h]; exact hk
    · rw [hk] at h; injection h; omega

theorem penByte (B g : Nat) (x : Int) (r : Option Nat) (l : List Nat) (w : World) (h : PenAt w B g r l) (h0 : 0 ≤ x) (h1 : x < 256) (hl : l.length + 1 ≤ 100000000000000) (hB : B ≤ w.heap.size) :
    Calls Tryd.prog 22 #[.pointer (some ⟨g, 0, none⟩), .int .u8 x] w fun e w' => e = .returned (.tuple #[]) ∧ PenTo B g r (l ++ [x.toNat]) w w' := by
  have L := Lib.hid (fun w2 (k : PenAt w2 B g r l) a ha hB2 => line_one B g a x.toNat r l w2 k (by omega) ha hl hB2)
  have hx : Hid (byteV x.toNat = .int .u8 x) := by unfold Hid byteV; rw [Int.toNat_of_nonneg h0]
  have H := Lib.hid h
  clear h hl
  go_enter Tryd.func22, Tryd.ntmps22
  go_wp2_with fail
  refine (L.out _ (H.out.alloc _) w.heap.size ?_ ?_).mono ?_
  · rw [hx.out]; simp
  · simp; omega
  rintro e w1 ⟨rfl, hp⟩
  have HP := Lib.hid hp
  clear hp
  go_wp2_with fail
  go_end0
  exact ⟨rfl, HP.out.ahead ((Below.refl _ _).alloc (Nat.le_refl _) _)⟩

theorem numB_le {n : Nat} : ∀ k, n < 128 ^ (k + 1) → (numB n).length ≤ k + 1 := by
  intro k
  induction k generalizing n with
  | zero => intro h; rw [numB_small (by simpa using h)]; simp
  | succ k ih =>
    intro h
    rcases Nat.lt_or_ge n 128 with h' | h'
    · rw [numB_small h']; simp
    · rw [numB_more h', List.length_cons]
      have := ih (n := n / 128) (by rw [Nat.pow_succ] at h; exact Nat.div_lt_of_lt_mul (by rw [Nat.mul_comm]; exact h))
      omega
theorem numB_ten {n : Nat} (h : n < 18446744073709551616) : (numB n).length ≤ 10 := numB_le 9 (Nat.lt_of_lt_of_le h (by decide))

theorem u8_more (x : Int) (h0 : 0 ≤ x) (h1 : x < 128) : bits .or .u8 x 128 = x + 128 := by
  obtain ⟨n, rfl⟩ := Int.eq_ofNat_of_zero_le h0
  have : ∀ m : Fin 128, bits .or .u8 ((m.val : Nat) : Int) 128 = ((m.val : Nat) : Int) + 128 := by decide +kernel
  exact this ⟨n, by omega⟩

set_option maxHeartbeats 1000000 in
theorem penNum (B g : Nat) (n : Int) (r : Option Nat) (l : List Nat) (w : World) (h : PenAt w B g r l) (hn : Word n) (hl : l.length + 10 ≤ 100000000000000) (hB : B ≤ w.heap.size) :
    Calls Tryd.prog 23 #[.pointer (some ⟨g, 0, none⟩), .int .u64 n] w fun e w' => e = .returned (.tuple #[]) ∧ PenTo B g r (l ++ numB n.toNat) w w' := by
  obtain ⟨n0, n1⟩ := hn
  have PB := Lib.hid (fun x r l w h h0 h1 hl hB => penByte B g x r l w h h0 h1 hl hB)
  have h10 := numB_ten (n := n.toNat) (by omega)
  have HS : Hid (PenTo B g r l w w) := PenTo.refl h
  clear h
  go_enter Tryd.func23, Tryd.ntmps23
  go_wp2_with fail
  go_loopg [1] n.toNat (fun gk v wr => ∃ (m : Int) (l1 : List Nat), v = .int .u64 m ∧ 0 ≤ m ∧ m.toNat ≤ gk ∧ m < 18446744073709551616 ∧ numB n.toNat = l1 ++ numB m.toNat ∧ PenTo B g r (l ++ l1) w wr)
  case atStart => exact ⟨n, [], rfl, n0, Nat.le_refl _, n1, rfl, by rw [List.append_nil]; exact HS.out⟩
  case round =>
    obtain ⟨m, l1, rfl, m0, mg, m1, hm, r1, P1, F1, N1⟩ := hrel
    have hlen : l1.length + (numB m.toNat).length ≤ 10 := by have := congrArg List.length hm; rw [List.length_append] at this; omega
    have hwr := F1.size
    have HM := Lib.hid hm
    have HP := Lib.hid P1
    have HF := Lib.hid F1
    have HN := Lib.hid N1
    clear hm P1 F1 N1
    by_cases hlt : 128 ≤ m
    · have e1 : IntKind.u8.wrap (m % 128) = m % 128 := by rw [IntKind.wrap_u8]; omega
      have e2 : bits .or .u8 (m % 128) 128 = m % 128 + 128 := u8_more _ (by omega) (by omega)
      have e3 : numB m.toNat = (m % 128 + 128).toNat :: numB (m / 128).toNat := by
        rw [numB_more (by omega)]
        congr 1
        · omega
        · congr 1; omega
      have E3 := Lib.hid e3
      have hl3 : 1 ≤ (numB m.toNat).length := by rw [e3]; simp
      clear e3
      go_wp2_with fail
      refine (PB.out (m % 128 + 128) r1 (l ++ l1) _ HP.out (by omega) (by omega) (by rw [List.length_append]; omega) (by omega)).mono ?_
      rintro e w2 ⟨rfl, hp⟩
      have HP2 : Hid (PenTo B g r (l ++ l1 ++ [(m % 128 + 128).toNat]) w w2) := hp.next HF.out HN.out
      clear hp e1 e2
      go_wp2_with fail
      go_roundg (gk - 1)
      case rel => exact ⟨m / 128, l1 ++ [(m % 128 + 128).toNat], rfl, by omega, by omega, by omega, by rw [HM.out, E3.out, List.append_assoc]; rfl, by rw [← List.append_assoc]; exact HP2.out⟩
      case measure => omega
    · have e1 : IntKind.u8.wrap m = m := by rw [IntKind.wrap_u8]; omega
      have e3 : numB m.toNat = [m.toNat] := numB_small (by omega)
      have E3 := Lib.hid e3
      have hl3 : 1 ≤ (numB m.toNat).length := by rw [e3]; simp
      clear e3
      go_wp2_with fail
      refine (PB.out m r1 (l ++ l1) _ HP.out (by omega) (by omega) (by rw [List.length_append]; omega) (by omega)).mono ?_
      rintro e w2 ⟨rfl, hp⟩
      have HP2 : Hid (PenTo B g r (l ++ l1 ++ [m.toNat]) w w2) := hp.next HF.out HN.out
      clear hp e1
      go_wp2_with fail
      go_end0
      refine ⟨rfl, ?_⟩
      rw [HM.out, E3.out, ← List.append_assoc]
      exact HP2.out

end Go.Proofs.YtjhffbhjiflfeaaDoor
