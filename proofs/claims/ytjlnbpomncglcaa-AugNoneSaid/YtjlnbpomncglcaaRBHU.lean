/-
  Red-black trees in memory (h): the iterator.
-/
import Derived.Test.YtjlnbpomncglcaaProg
import Derived.Test.YtjlnbpomncglcaaRBHT
import Derived.Test.YtjlnbpomncglcaaRange
namespace Go.Proofs.Ytjlnbpomncglcaa
set_option linter.unusedVariables false
set_option linter.unusedSimpArgs false
set_option maxRecDepth 100000
open Go.RowKit Go.Shelf

attribute [local go_sem] Oper.semAt_some

/-- What an iterator over a tree gives in round k. -/
def encRB (L : List (RK × Int)) (k : Nat) : Array Value := #[.agg #[.int .u64 (L[k]?.getD ((0, 0), 0)).1.1, .int .i64 (L[k]?.getD ((0, 0), 0)).1.2], .int .u64 (L[k]?.getD ((0, 0), 0)).2]
theorem encRB_at {L : List (RK × Int)} {k : Nat} {p : RK × Int} (h : L[k]? = some p) : encRB L k = #[.agg #[.int .u64 p.1.1, .int .i64 p.1.2], .int .u64 p.2] := by
  unfold encRB
  rw [h]
  rfl

theorem rh_Each (p : Value) (hp : p.oneCell' = true) (w : World) : Calls Try.prog 77 #[p] w fun e w' => e = .returned (.func (.func 104) #[] #[.pointer (some ⟨w.heap.size, 0, none⟩)]) ∧ w' = w.alloc (.cells #[p] 98) := by
  go_enter Try.func77, Try.ntmps77
  go_wp2
  go_ret
  exact ⟨by simp, rfl⟩
theorem TrIsH.stays {w w' : World} {T : Nat} {t : RB (Int × Int)} {B : Nat} (h : TrIsH w T t) (hs : Stays B w w') : TrIsH w' T t := by
  have hr : ∀ t : RB (Int × Int), RepH w t → RepH w' t := by
    intro t
    induction t with
    | nil => exact fun h => h
    | node b c l k v s r il ir => exact fun h => ⟨h.1.stays hs, il h.2.1, ir h.2.2⟩
  exact ⟨h.blk.stays hs, hr t h.rep, h.nd, h.out, h.well, h.black, h.rises⟩
theorem TrIsH.fr {w w' : World} {T : Nat} {t : RB (Int × Int)} {S : Nat → Prop} (h : TrIsH w T t) (hf : Fr S w w') (hT : ¬ S T) (ht : ∀ b ∈ t.blocks, ¬ S b) : TrIsH w' T t := ⟨h.blk.fr hf hT, h.rep.fr hf ht, h.nd, h.out, h.well, h.black, h.rises⟩
set_option maxHeartbeats 4000000 in
theorem rh_yields (T B0 : Nat) (t : RB (Int × Int)) : Yields Try.prog 104 #[.pointer (some ⟨B0, 0, none⟩)] t.items.length (encRB t.items)
    (fun W => TrIsH W T t ∧ Blk W B0 98 #[.pointer (some ⟨T, 0, none⟩)]) := by
  intro l J Jx W hJ hJx hS hY h0
  have EH : EachHH l t.items J Jx t := ⟨hJ, fun k A h => (hS k A h).1.rep, fun i W k v e hj => by
    have := hY i W (List.getElem?_eq_some_iff.1 e).1 hj
    rw [encRB_at e] at this
    exact this⟩
  have EA := Lib.hid (fun w (h : J 0 w) => rh_each l t.items J Jx t EH t 0 w (fun W h => h) (fun j hj => by rw [Nat.zero_add]) (by omega) h)
  have HS := Lib.hid hS
  have H0 := Lib.hid h0
  clear hJ hJx hS hY h0 EH
  refine callsIn_of_wp Try.func104 rfl trivial ?_ rfl
  simp only [Try.ntmps104, List.size_toArray, List.length_cons, List.length_nil, Nat.reduceAdd, Nat.reduceSub, Array.replicate_succ, Array.replicate_zero, List.push_toArray, List.append_toArray, List.nil_append, List.cons_append]
  have cB := (HS.out 0 W H0.out).2.get 0 rfl
  have hd : 1 ≤ 6 := by omega
  have cR : W.cell? ⟨T, 2, none⟩ = some (.pointer (ptrO t)) := by rw [← ptrV_eq]; exact (HS.out 0 W H0.out).1.blk.get 2 rfl
  gi_wp2_with (first | (refine ⟨trivial, ?_⟩; gi_at_call 101; refine (callsIn_wide.2 (rh_none T W (HS.out 0 W H0.out).1.tre)).mono ?_; rintro e w' ⟨rfl, rfl⟩) | (refine ⟨trivial, ?_⟩; gi_at_call 105; refine (callsIn_wide.2 (EA.out W H0.out)).mono ?_; rintro e w' (⟨rfl, hj⟩ | ⟨rfl, x, hx, hj⟩)))
  · go_end0
    rw [Nat.zero_add] at hj
    exact ⟨⟨_, rfl⟩, .inl hj⟩
  · go_end0
    exact ⟨⟨_, rfl⟩, .inr ⟨x, hx, hj⟩⟩

end Go.Proofs.Ytjlnbpomncglcaa
