/-
  Slots of a command: their bytes, and what is read into them.
-/
import Derived.Test.YtjhffbhjiflfeaaDoorProg
import Derived.Test.YtjhffbhjiflfeaaDoorCmdE
import Derived.Test.YtjhffbhjiflfeaaDoorOctOne
import Derived.Test.YtjhffbhjiflfeaaDoorOctBack
namespace Go.Proofs.YtjhffbhjiflfeaaDoor
set_option linter.unusedVariables false
set_option linter.unusedSimpArgs false
set_option maxRecDepth 100000
open Go.RowKit

/-- A slot is a kind (0 a word, 1 a signed word, 2 a code, else a flag) and a place. -/
def slotV (q : Nat) (s : Nat × Nat) : Value :=
  match s.1 with
  | 0 => wordAt q s.2
  | 1 => intAt q s.2
  | 2 => errAt q s.2
  | _ => flagAt q s.2
/-- What a cell of a kind holds. -/
def cellV (t : Nat) (n : Int) : Value :=
  match t with
  | 0 => .int .u64 n
  | 1 => .int .i64 n
  | 2 => .int .i64 n
  | _ => .bool (decide (n = 1))
def FitS (t : Nat) (n : Int) : Prop :=
  match t with
  | 0 => Word n
  | 1 => -9223372036854775808 ≤ n ∧ n ≤ 9223372036854775807
  | 2 => -9223372036854775808 ≤ n ∧ n ≤ 9223372036854775807
  | _ => n = 0 ∨ n = 1
/-- The bytes of a kind's number. -/
def encS (t : Nat) (n : Int) : List Nat :=
  match t with
  | 0 => numB n.toNat
  | 1 => numB (zz n).toNat
  | 2 => numB (zz n).toNat
  | _ => [flagB (decide (n = 1))]
/-- What is read as a kind's number, what is left, and whether it has failed. -/
def rdV (t : Nat) (l : List Nat) : Int :=
  match t with
  | 0 => (numR l : Nat)
  | 1 => unz (numR l)
  | 2 => unz (numR l)
  | _ => if flagR l then 1 else 0
def rdL (t : Nat) (l : List Nat) : List Nat :=
  match t with
  | 0 => numL l
  | 1 => numL l
  | 2 => numL l
  | _ => flagL l
def rdF (t : Nat) (l : List Nat) (f : Bool) : Bool :=
  match t with
  | 0 => numF l
  | 1 => numF l
  | 2 => numF l
  | _ => flagF l f

theorem kinds (t : Nat) : t = 0 ∨ t = 1 ∨ t = 2 ∨ 3 ≤ t := by omega

theorem encS_bytes (t : Nat) (n : Int) : Bytes (encS t n) := by
  match t with
  | 0 => exact bytes_num _
  | 1 => exact bytes_num _
  | 2 => exact bytes_num _
  | t + 3 => exact bytes_one (by unfold flagB; split <;> omega)
theorem zz_lt {n : Int} (h0 : -9223372036854775808 ≤ n) (h1 : n ≤ 9223372036854775807) : (zz n).toNat < 18446744073709551616 := by
  have := zz_word h0 h1
  unfold Word at this
  omega
theorem encS_len {t : Nat} {n : Int} (h : FitS t n) : (encS t n).length ≤ 10 := by
  match t, h with
  | 0, h => exact numB_ten (by have : Word n := h; unfold Word at this; omega)
  | 1, h => exact numB_ten (zz_lt h.1 h.2)
  | 2, h => exact numB_ten (zz_lt h.1 h.2)
  | t + 3, _ => show 1 ≤ 10; omega
theorem encS_ne (t : Nat) (n : Int) : encS t n ≠ [] := by
  match t with
  | 0 => exact numB_ne _
  | 1 => exact numB_ne _
  | 2 => exact numB_ne _
  | t + 3 => simp [encS]
theorem flag_read (l : List Nat) (h : Bytes l) (b : Bool) : flagR (flagB b :: l) = b ∧ flagL (flagB b :: l) = l ∧ flagF (flagB b :: l) false = false := by
  cases b <;> simp [flagR, flagL, flagF, flagB, byteR, byteL, byteF]
/-- What is written is read as it was. -/
theorem rd_back {t : Nat} {n : Int} (r : List Nat) (hr : Bytes r) (h : FitS t n) : rdV t (encS t n ++ r) = n ∧ rdL t (encS t n ++ r) = r ∧ rdF t (encS t n ++ r) false = false := by
  match t, h with
  | 0, h =>
    have h : Word n := h
    unfold Word at h
    obtain ⟨a, b, c⟩ := num_some (decB_back (n := n.toNat) r (by omega))
    refine ⟨?_, b, c⟩
    show ((numR (numB n.toNat ++ r) : Nat) : Int) = n
    rw [a]; omega
  | 1, h =>
    obtain ⟨a, b, c⟩ := num_some (decB_back r (zz_lt h.1 h.2))
    exact ⟨by show unz (numR (numB (zz n).toNat ++ r)) = n; rw [a]; exact zz_unz h.1 h.2, b, c⟩
  | 2, h =>
    obtain ⟨a, b, c⟩ := num_some (decB_back r (zz_lt h.1 h.2))
    exact ⟨by show unz (numR (numB (zz n).toNat ++ r)) = n; rw [a]; exact zz_unz h.1 h.2, b, c⟩
  | t + 3, h =>
    obtain ⟨a, b, c⟩ := flag_read r hr (decide (n = 1))
    refine ⟨?_, b, c⟩
    show (if flagR (flagB (decide (n = 1)) :: r) = true then (1 : Int) else 0) = n
    rw [a]
    rcases h with rfl | rfl <;> rfl
theorem decB_bytes {l t : List Nat} {n : Nat} (h : Bytes l) (hd : decB 0 l = some (n, t)) : Bytes t := by
  obtain ⟨e, _⟩ := decB_only h hd
  exact fun x hx => h x (by rw [e]; exact List.mem_append.2 (Or.inr hx))
theorem byteL_bytes {l : List Nat} (h : Bytes l) : Bytes (byteL l) := by
  cases l with
  | nil => exact h
  | cons a l => exact fun x hx => h x (List.mem_cons_of_mem _ hx)
theorem rdL_bytes {t : Nat} {l : List Nat} (h : Bytes l) : Bytes (rdL t l) := by
  have hn : Bytes (numL l) := by
    unfold numL
    cases hd : decB 0 l with
    | none => exact fun x hx => by cases hx
    | some p => exact decB_bytes h hd
  match t with
  | 0 => exact hn
  | 1 => exact hn
  | 2 => exact hn
  | t + 3 =>
    show Bytes (flagL l)
    unfold flagL
    split
    · exact fun x hx => by cases hx
    · exact byteL_bytes h
/-- What is read has just those bytes. -/
theorem rd_one {t : Nat} {l : List Nat} (h : Bytes l) (hf : rdF t l false = false) : l = encS t (rdV t l) ++ rdL t l ∧ FitS t (rdV t l) := by
  have num : numF l = false → ∃ n t', decB 0 l = some (n, t') ∧ numR l = n ∧ numL l = t' ∧ l = numB n ++ t' ∧ n < 18446744073709551616 := by
    intro hf
    cases hd : decB 0 l with
    | none => rw [(num_none hd).2.2] at hf; cases hf
    | some p =>
      obtain ⟨n, t'⟩ := p
      obtain ⟨a, b, _⟩ := num_some hd
      obtain ⟨e, k⟩ := decB_only h hd
      exact ⟨n, t', rfl, a, b, e, k⟩
  match t, hf with
  | 0, hf =>
    obtain ⟨n, t', -, a, b, e, k⟩ := num hf
    show l = numB ((numR l : Nat) : Int).toNat ++ numL l ∧ Word ((numR l : Nat) : Int)
    rw [a, b]
    exact ⟨by rw [Int.toNat_natCast]; exact e, by unfold Word; omega⟩
  | 1, hf =>
    obtain ⟨n, t', -, a, b, e, k⟩ := num hf
    obtain ⟨u0, u1, u2⟩ := unz_range k
    show l = numB (zz (unz (numR l))).toNat ++ numL l ∧ _ ≤ unz (numR l) ∧ unz (numR l) ≤ _
    rw [a, b, u2]
    exact ⟨e, u0, u1⟩
  | 2, hf =>
    obtain ⟨n, t', -, a, b, e, k⟩ := num hf
    obtain ⟨u0, u1, u2⟩ := unz_range k
    show l = numB (zz (unz (numR l))).toNat ++ numL l ∧ _ ≤ unz (numR l) ∧ unz (numR l) ≤ _
    rw [a, b, u2]
    exact ⟨e, u0, u1⟩
  | t + 3, hf =>
    have hf : flagF l false = false := hf
    cases l with
    | nil => simp [flagF, byteR, byteF] at hf
    | cons x l =>
      have hx : ¬ 1 < x := by
        intro hx
        simp [flagF, byteR, hx] at hf
      have hx2 : x = 0 ∨ x = 1 := by omega
      show x :: l = [flagB (decide ((if flagR (x :: l) = true then (1 : Int) else 0) = 1))] ++ flagL (x :: l) ∧ ((if flagR (x :: l) = true then (1 : Int) else 0) = 0 ∨ (if flagR (x :: l) = true then (1 : Int) else 0) = 1)
      rcases hx2 with rfl | rfl <;> simp [flagR, flagL, flagB, byteR, byteL]
theorem rd_dead (t : Nat) : rdL t [] = [] ∧ rdF t [] true = true ∧ rdF t [] false = true := by
  match t with
  | 0 => exact ⟨rfl, rfl, rfl⟩
  | 1 => exact ⟨rfl, rfl, rfl⟩
  | 2 => exact ⟨rfl, rfl, rfl⟩
  | t + 3 => exact ⟨rfl, rfl, rfl⟩

/-- The bytes of slots, by what their places hold. -/
def encs (C : Nat → Int) : List (Nat × Nat) → List Nat
  | [] => []
  | s :: r => encS s.1 (C s.2) ++ encs C r
theorem encs_bytes (C : Nat → Int) : ∀ L, Bytes (encs C L)
  | [] => fun x hx => by cases hx
  | s :: r => (encS_bytes _ _).app (encs_bytes C r)
theorem encs_len {C : Nat → Int} : ∀ {L : List (Nat × Nat)}, (∀ s ∈ L, FitS s.1 (C s.2)) → (encs C L).length ≤ 10 * L.length
  | [], _ => Nat.le_refl _
  | s :: r, h => by
    have a := encS_len (h s (List.mem_cons_self ..))
    have b := encs_len (L := r) (fun x hx => h x (List.mem_cons_of_mem _ hx))
    simp only [encs, List.length_append, List.length_cons]
    omega
/-- The cells behind reading slots, what is left, and whether it has failed. -/
def reads : List (Nat × Nat) → Array Value → List Nat → Bool → Array Value × List Nat × Bool
  | [], cs, l, f => (cs, l, f)
  | s :: r, cs, l, f => reads r (cs.setIfInBounds s.2 (cellV s.1 (rdV s.1 l))) (rdL s.1 l) (rdF s.1 l f)
/-- What is read into each place. -/
def readV : List (Nat × Nat) → (Nat → Int) → List Nat → Nat → Int
  | [], C, _ => C
  | s :: r, C, l => readV r (fun k => if k = s.2 then rdV s.1 l else C k) (rdL s.1 l)

end Go.Proofs.YtjhffbhjiflfeaaDoor
