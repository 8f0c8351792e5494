/-
  What a pen does besides: signed numbers, flags, and what it tells of all that is written.
-/
import Derived.Test.YtjhffbhjiflfeaaDoorProg
import Derived.Test.YtjhffbhjiflfeaaDoorOctA
import Derived.Laws.BitsAllLaws
namespace Go.Proofs.YtjhffbhjiflfeaaDoor
set_option linter.unusedVariables false
set_option linter.unusedSimpArgs false
set_option maxRecDepth 100000
open Go.RowKit

/-- A signed number's number. -/
def zz (n : Int) : Int := if 0 ≤ n then 2 * n else -2 * n - 1
theorem zz_word {n : Int} (h0 : -9223372036854775808 ≤ n) (h1 : n ≤ 9223372036854775807) : Word (zz n) := by unfold zz Word; split <;> omega

theorem add_and_xor (a b : Nat) : a + b = 2 * (a &&& b) + (a ^^^ b) := by
  induction a using Nat.strongRecOn generalizing b with
  | _ a ih =>
    rcases Nat.eq_zero_or_pos a with h0 | h0
    · subst h0; simp
    · have hi := ih (a / 2) (by omega) (b / 2)
      have h1 : (a &&& b) / 2 = a / 2 &&& b / 2 := Nat.and_div_two
      have h2 : (a ^^^ b) / 2 = a / 2 ^^^ b / 2 := Nat.xor_div_two
      have h3 : (a &&& b) % 2 = (a % 2) &&& (b % 2) := by have := @Nat.and_mod_two_pow a b 1; simpa using this
      have h4 : (a ^^^ b) % 2 = (a % 2) ^^^ (b % 2) := by have := @Nat.xor_mod_two_pow a b 1; simpa using this
      have t1 : ∀ x y : Nat, x < 2 → y < 2 → 2 * (x &&& y) + (x ^^^ y) = x + y := by
        intro x y hx hy
        match x, hx, y, hy with
        | 0, _, 0, _ => rfl
        | 0, _, 1, _ => rfl
        | 1, _, 0, _ => rfl
        | 1, _, 1, _ => rfl
      have t2 := t1 (a % 2) (b % 2) (by omega) (by omega)
      rw [← h3, ← h4] at t2
      rw [← h1, ← h2] at hi
      omega

theorem xor_ones {x : Nat} (h : x < 18446744073709551616) : x ^^^ 18446744073709551615 = 18446744073709551615 - x := by
  have a := add_and_xor x 18446744073709551615
  have b : x &&& 18446744073709551615 = x % 2 ^ 64 := Nat.and_two_pow_sub_one_eq_mod x 64
  omega
theorem xor_pos {n : Int} (h0 : 0 ≤ n) (h1 : n ≤ 9223372036854775807) : bits .xor .u64 (n * 2) (n / 9223372036854775808) = zz n := by
  have e : n / 9223372036854775808 = 0 := by omega
  rw [e, u64_xor _ _ (by omega) (by omega) (by decide) (by decide)]
  unfold zz
  rw [if_pos h0]
  simp
  omega
theorem xor_neg {n : Int} (h0 : n < 0) (h1 : -9223372036854775808 ≤ n) : bits .xor .u64 (IntKind.u64.wrap (IntKind.u64.wrap n * 2)) (IntKind.u64.wrap (n / 9223372036854775808)) = zz n := by
  have e : IntKind.u64.wrap (n / 9223372036854775808) = 18446744073709551615 := by
    have : n / 9223372036854775808 = -1 := by omega
    rw [this]; decide
  have e2 : IntKind.u64.wrap (IntKind.u64.wrap n * 2) = 2 * n + 18446744073709551616 := by
    rw [IntKind.wrap_u64, IntKind.wrap_u64]; omega
  rw [e, e2, u64_xor _ _ (by omega) (by omega) (by decide) (by decide)]
  have := xor_ones (x := (2 * n + 18446744073709551616).toNat) (by omega)
  have e3 : (18446744073709551615 : Int).toNat = 18446744073709551615 := rfl
  unfold zz
  rw [if_neg (by omega), e3, this]
  omega

theorem penInt (B g : Nat) (n : Int) (r : Option Nat) (l : List Nat) (w : World) (h : PenAt w B g r l) (n0 : -9223372036854775808 ≤ n) (n1 : n ≤ 9223372036854775807) (hl : l.length + 10 ≤ 100000000000000) (hB : B ≤ w.heap.size) :
    Calls Tryd.prog 24 #[.pointer (some ⟨g, 0, none⟩), .int .i64 n] w fun e w' => e = .returned (.tuple #[]) ∧ PenTo B g r (l ++ numB (zz n).toNat) w w' := by
  have PN := Lib.hid (fun w h hB => penNum B g (zz n) r l w h (zz_word n0 n1) hl hB)
  have H := Lib.hid h
  clear h
  by_cases hn : 0 ≤ n
  · have X := xor_pos hn n1
    go_enter Tryd.func24, Tryd.ntmps24
    go_wp2_with fail
    refine (PN.out _ H.out hB).mono ?_
    rintro e w1 ⟨rfl, hp⟩
    have HP := Lib.hid hp
    clear hp
    go_wp2_with fail
    go_end0
    exact ⟨rfl, HP.out⟩
  · have X := xor_neg (Int.not_le.1 hn) n0
    go_enter Tryd.func24, Tryd.ntmps24
    go_wp2_with fail
    refine (PN.out _ H.out hB).mono ?_
    rintro e w1 ⟨rfl, hp⟩
    have HP := Lib.hid hp
    clear hp
    go_wp2_with fail
    go_end0
    exact ⟨rfl, HP.out⟩

def flagB (b : Bool) : Nat := if b then 1 else 0
theorem penFlag (B g : Nat) (b : Bool) (r : Option Nat) (l : List Nat) (w : World) (h : PenAt w B g r l) (hl : l.length + 1 ≤ 100000000000000) (hB : B ≤ w.heap.size) :
    Calls Tryd.prog 25 #[.pointer (some ⟨g, 0, none⟩), .bool b] w fun e w' => e = .returned (.tuple #[]) ∧ PenTo B g r (l ++ [flagB b]) w w' := by
  cases b with
  | true =>
    have PB := Lib.hid (fun w h hB => penByte B g 1 r l w h (by decide) (by decide) hl hB)
    have H := Lib.hid h
    clear h
    go_enter Tryd.func25, Tryd.ntmps25
    go_wp2_with fail
    with_reducible refine (PB.out _ H.out hB).mono ?_
    rintro e w1 ⟨rfl, hp⟩
    have HP := Lib.hid hp
    clear hp
    go_wp2_with fail
    go_end0
    exact ⟨rfl, HP.out⟩
  | false =>
    have PB := Lib.hid (fun w h hB => penByte B g 0 r l w h (by decide) (by decide) hl hB)
    have H := Lib.hid h
    clear h
    go_enter Tryd.func25, Tryd.ntmps25
    go_wp2_with fail
    with_reducible refine (PB.out _ H.out hB).mono ?_
    rintro e w1 ⟨rfl, hp⟩
    have HP := Lib.hid hp
    clear hp
    go_wp2_with fail
    go_end0
    exact ⟨rfl, HP.out⟩

theorem cells_of_bytes {l : List Nat} (h : Bytes l) (j : Nat) (hj : j < (l.map UInt8.ofNat).length) : (l.map byteV)[j]? = some (.int .u8 ((l.map UInt8.ofNat)[j].toNat : Int)) := by
  have hj' : j < l.length := by simpa using hj
  have := h l[j] (List.getElem_mem hj')
  simp [List.getElem?_eq_getElem hj', byteV]
  omega

/-- What is told of all that is written. -/
theorem penDone (B g : Nat) (r : Option Nat) (l : List Nat) (w : World) (h : PenAt w B g r l) (hl : l.length ≤ 4096) :
    Calls Tryd.prog 26 #[.pointer (some ⟨g, 0, none⟩)] w fun e w' => e = .returned (.tuple #[.string (bs l), .int .i64 0]) ∧ w = w' := by
  obtain ⟨v, hb, ho, hr, hbl⟩ := h
  have c0 : w.cell? ⟨g, 0, none⟩ = some v := hb.get 0 rfl
  have hs : Tryd.prog.underlying 68 = some (.slice 5) := Tryd.underlying68
  rcases ho.2 with ⟨rfl, h0⟩ | ⟨k, cap, cur, rfl, hB, hh, hc, hcap, hcs, htk⟩
  · have : l = [] := List.eq_nil_of_length_eq_zero h0
    subst this
    have cv : (convert 68 9 (.slice none 0 0)).run Tryd.prog w = .ok (.string (bs [])) w := run_convert_bytes_nil w 68 5 hs (by kernel_rfl) 0 0 9 (by kernel_rfl)
    clear ho hb
    go_enter Tryd.func26, Tryd.ntmps26
    go_wp2_with fail
    go_ret2
    exact ⟨rfl, rfl⟩
  · have cv : (convert 68 9 (.slice (some ⟨k, 0, none⟩) l.length cap)).run Tryd.prog w = .ok (.string (bs l)) w := by
      have := run_convert_bytes_back (P := Tryd.prog) w 68 9 5 ⟨k, 0, none⟩ cap (l.map UInt8.ofNat) hs (by kernel_rfl) (by kernel_rfl) (fun j hj => ho.cells rfl j _ (cells_of_bytes hbl j hj))
      rwa [List.length_map] at this
    have hl' : decide ((4096 : Int) < (l.length : Int)) = false := by simp; omega
    clear ho hb hh htk hcs
    go_enter Tryd.func26, Tryd.ntmps26
    go_wp2_with fail
    go_ret2
    exact ⟨rfl, rfl⟩
theorem penLong (B g : Nat) (r : Option Nat) (l : List Nat) (w : World) (h : PenAt w B g r l) (hl : 4096 < l.length) :
    Calls Tryd.prog 26 #[.pointer (some ⟨g, 0, none⟩)] w fun e w' => e = .returned (.tuple #[.string ⟨#[]⟩, .int .i64 3]) ∧ w = w' := by
  obtain ⟨v, hb, ho, hr, hbl⟩ := h
  have c0 : w.cell? ⟨g, 0, none⟩ = some v := hb.get 0 rfl
  rcases ho.2 with ⟨rfl, h0⟩ | ⟨k, cap, cur, rfl, hB, hh, hc, hcap, hcs, htk⟩
  · omega
  · have hl' : decide ((4096 : Int) < (l.length : Int)) = true := by simp; omega
    clear ho hb hh htk hcs
    go_enter Tryd.func26, Tryd.ntmps26
    go_wp2_with fail
    go_ret2
    exact ⟨rfl, rfl⟩
theorem penNil (w : World) :
    Calls Tryd.prog 26 #[.pointer none] w fun e w' => e = .returned (.tuple #[.string ⟨#[]⟩, .int .i64 1]) ∧ w = w' := by
  go_enter Tryd.func26, Tryd.ntmps26
  go_wp2_with fail
  go_ret2
  exact ⟨rfl, rfl⟩

end Go.Proofs.YtjhffbhjiflfeaaDoor
