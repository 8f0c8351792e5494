/-
  The law CommandApart, walked: part walk.
-/
import Derived.Test.YtbageagobalgbaaProg
import Derived.Test.YtbageagobalgbaaCommandApartNo
import Derived.Test.YtbageagobalgbaaCommandApartNoB
import Derived.Test.YtbageagobalgbaaCommandApartNy
import Derived.Test.YtbageagobalgbaaCommandApartYy
namespace Go.Proofs.Ytbageagobalgbaa
set_option linter.unusedVariables false
set_option linter.unusedSimpArgs false
set_option maxRecDepth 100000
open Go.RowKit

theorem commandApart_walk (w : World) (a0 : Int) (fa0 : (Lit.int .u8 a0).wf = true) (a1 : Int) (fa1 : (Lit.int .u64 a1).wf = true) (a2 : Int) (fa2 : (Lit.int .i64 a2).wf = true) (a3 : Int) (fa3 : (Lit.int .u64 a3).wf = true) (a4 : Int) (fa4 : (Lit.int .i64 a4).wf = true) (a5 : Int) (fa5 : (Lit.int .i64 a5).wf = true) (a6 : Bool) (a7 : Int) (fa7 : (Lit.int .u64 a7).wf = true) (a8 : Int) (fa8 : (Lit.int .u64 a8).wf = true) (a9 : Int) (fa9 : (Lit.int .u64 a9).wf = true) (a10 : Int) (fa10 : (Lit.int .u64 a10).wf = true) (a11 : Int) (fa11 : (Lit.int .u64 a11).wf = true) (a12 : Int) (fa12 : (Lit.int .u64 a12).wf = true) (a13 : Int) (fa13 : (Lit.int .u64 a13).wf = true) (a14 : Int) (fa14 : (Lit.int .u64 a14).wf = true) (a15 : Int) (fa15 : (Lit.int .u64 a15).wf = true) (a16 : Int) (fa16 : (Lit.int .i64 a16).wf = true) (a17 : Int) (fa17 : (Lit.int .i64 a17).wf = true) (a18 : Int) (fa18 : (Lit.int .i64 a18).wf = true) (a19 : Int) (fa19 : (Lit.int .u64 a19).wf = true) (a20 : Int) (fa20 : (Lit.int .i64 a20).wf = true) (a21 : Int) (fa21 : (Lit.int .i64 a21).wf = true) (a22 : Int) (fa22 : (Lit.int .u64 a22).wf = true) (a23 : Int) (fa23 : (Lit.int .u64 a23).wf = true) (c0 : Int) (fc0 : (Lit.int .u8 c0).wf = true) (c1 : Int) (fc1 : (Lit.int .u64 c1).wf = true) (c2 : Int) (fc2 : (Lit.int .i64 c2).wf = true) (c3 : Int) (fc3 : (Lit.int .u64 c3).wf = true) (c4 : Int) (fc4 : (Lit.int .i64 c4).wf = true) (c5 : Int) (fc5 : (Lit.int .i64 c5).wf = true) (c6 : Bool) (c7 : Int) (fc7 : (Lit.int .u64 c7).wf = true) (c8 : Int) (fc8 : (Lit.int .u64 c8).wf = true) (c9 : Int) (fc9 : (Lit.int .u64 c9).wf = true) (c10 : Int) (fc10 : (Lit.int .u64 c10).wf = true) (c11 : Int) (fc11 : (Lit.int .u64 c11).wf = true) (c12 : Int) (fc12 : (Lit.int .u64 c12).wf = true) (c13 : Int) (fc13 : (Lit.int .u64 c13).wf = true) (c14 : Int) (fc14 : (Lit.int .u64 c14).wf = true) (c15 : Int) (fc15 : (Lit.int .u64 c15).wf = true) (c16 : Int) (fc16 : (Lit.int .i64 c16).wf = true) (c17 : Int) (fc17 : (Lit.int .i64 c17).wf = true) (c18 : Int) (fc18 : (Lit.int .i64 c18).wf = true) (c19 : Int) (fc19 : (Lit.int .u64 c19).wf = true) (c20 : Int) (fc20 : (Lit.int .i64 c20).wf = true) (c21 : Int) (fc21 : (Lit.int .i64 c21).wf = true) (c22 : Int) (fc22 : (Lit.int .u64 c22).wf = true) (c23 : Int) (fc23 : (Lit.int .u64 c23).wf = true) (r0 : Int) (fr0 : (Lit.int .i64 r0).wf = true) (r1 : Int) (fr1 : (Lit.int .u64 r1).wf = true) (r2 : Int) (fr2 : (Lit.int .u64 r2).wf = true) (r3 : Int) (fr3 : (Lit.int .u64 r3).wf = true) (r4 : Int) (fr4 : (Lit.int .u64 r4).wf = true) (r5 : Int) (fr5 : (Lit.int .u64 r5).wf = true) (r6 : Int) (fr6 : (Lit.int .u64 r6).wf = true) (r7 : Int) (fr7 : (Lit.int .u64 r7).wf = true) (r8 : Int) (fr8 : (Lit.int .u64 r8).wf = true) (r9 : Int) (fr9 : (Lit.int .u64 r9).wf = true) (q0 : Int) (fq0 : (Lit.int .i64 q0).wf = true) (q1 : Int) (fq1 : (Lit.int .u64 q1).wf = true) (q2 : Int) (fq2 : (Lit.int .u64 q2).wf = true) (q3 : Int) (fq3 : (Lit.int .u64 q3).wf = true) (q4 : Int) (fq4 : (Lit.int .u64 q4).wf = true) (q5 : Int) (fq5 : (Lit.int .u64 q5).wf = true) (q6 : Int) (fq6 : (Lit.int .u64 q6).wf = true) (q7 : Int) (fq7 : (Lit.int .u64 q7).wf = true) (q8 : Int) (fq8 : (Lit.int .u64 q8).wf = true) (q9 : Int) (fq9 : (Lit.int .u64 q9).wf = true) :
    Calls Try.prog 6 #[.agg #[.int .u8 a0, .int .u64 a1, .int .i64 a2, .int .u64 a3, .int .i64 a4, .int .i64 a5, .bool a6, .int .u64 a7, .int .u64 a8, .int .u64 a9, .int .u64 a10, .int .u64 a11, .int .u64 a12, .int .u64 a13, .int .u64 a14, .int .u64 a15, .int .i64 a16, .int .i64 a17, .int .i64 a18, .int .u64 a19, .int .i64 a20, .int .i64 a21, .int .u64 a22, .int .u64 a23], .agg #[.int .u8 c0, .int .u64 c1, .int .i64 c2, .int .u64 c3, .int .i64 c4, .int .i64 c5, .bool c6, .int .u64 c7, .int .u64 c8, .int .u64 c9, .int .u64 c10, .int .u64 c11, .int .u64 c12, .int .u64 c13, .int .u64 c14, .int .u64 c15, .int .i64 c16, .int .i64 c17, .int .i64 c18, .int .u64 c19, .int .i64 c20, .int .i64 c21, .int .u64 c22, .int .u64 c23], .agg #[.int .i64 r0, .int .u64 r1, .int .u64 r2, .int .u64 r3, .int .u64 r4, .int .u64 r5, .int .u64 r6, .int .u64 r7, .int .u64 r8, .int .u64 r9], .agg #[.int .i64 q0, .int .u64 q1, .int .u64 q2, .int .u64 q3, .int .u64 q4, .int .u64 q5, .int .u64 q6, .int .u64 q7, .int .u64 q8, .int .u64 q9]] w fun e w' => e = .returned (.bool true) ∧ Below w.heap.size w w' := by
  have ha : Fits cmdT 24 (fun i => match i with | 0 => a0 | 1 => a1 | 2 => a2 | 3 => a3 | 4 => a4 | 5 => a5 | 6 => (if a6 = true then 1 else 0) | 7 => a7 | 8 => a8 | 9 => a9 | 10 => a10 | 11 => a11 | 12 => a12 | 13 => a13 | 14 => a14 | 15 => a15 | 16 => a16 | 17 => a17 | 18 => a18 | 19 => a19 | 20 => a20 | 21 => a21 | 22 => a22 | 23 => a23 | _ => 0) := by
    intro i hi
    match i, hi with
    | 0, _ => exact wf_u8 fa0
    | 1, _ => exact word_of_wf fa1
    | 2, _ => exact wf_i64 fa2
    | 3, _ => exact word_of_wf fa3
    | 4, _ => exact wf_i64 fa4
    | 5, _ => exact wf_i64 fa5
    | 6, _ => exact (by cases a6 <;> first | exact Or.inl rfl | exact Or.inr rfl : (if a6 = true then (1:Int) else 0) = 0 ∨ (if a6 = true then (1:Int) else 0) = 1)
    | 7, _ => exact word_of_wf fa7
    | 8, _ => exact word_of_wf fa8
    | 9, _ => exact word_of_wf fa9
    | 10, _ => exact word_of_wf fa10
    | 11, _ => exact word_of_wf fa11
    | 12, _ => exact word_of_wf fa12
    | 13, _ => exact word_of_wf fa13
    | 14, _ => exact word_of_wf fa14
    | 15, _ => exact word_of_wf fa15
    | 16, _ => exact wf_i64 fa16
    | 17, _ => exact wf_i64 fa17
    | 18, _ => exact wf_i64 fa18
    | 19, _ => exact word_of_wf fa19
    | 20, _ => exact wf_i64 fa20
    | 21, _ => exact wf_i64 fa21
    | 22, _ => exact word_of_wf fa22
    | 23, _ => exact word_of_wf fa23
    | i + 24, hi => exact absurd hi (by omega)
  have ea : rowA cmdT 24 (fun i => match i with | 0 => a0 | 1 => a1 | 2 => a2 | 3 => a3 | 4 => a4 | 5 => a5 | 6 => (if a6 = true then 1 else 0) | 7 => a7 | 8 => a8 | 9 => a9 | 10 => a10 | 11 => a11 | 12 => a12 | 13 => a13 | 14 => a14 | 15 => a15 | 16 => a16 | 17 => a17 | 18 => a18 | 19 => a19 | 20 => a20 | 21 => a21 | 22 => a22 | 23 => a23 | _ => 0) = #[.int .u8 a0, .int .u64 a1, .int .i64 a2, .int .u64 a3, .int .i64 a4, .int .i64 a5, .bool a6, .int .u64 a7, .int .u64 a8, .int .u64 a9, .int .u64 a10, .int .u64 a11, .int .u64 a12, .int .u64 a13, .int .u64 a14, .int .u64 a15, .int .i64 a16, .int .i64 a17, .int .i64 a18, .int .u64 a19, .int .i64 a20, .int .i64 a21, .int .u64 a22, .int .u64 a23] := by cases a6 <;> rfl
  have hc : Fits cmdT 24 (fun i => match i with | 0 => c0 | 1 => c1 | 2 => c2 | 3 => c3 | 4 => c4 | 5 => c5 | 6 => (if c6 = true then 1 else 0) | 7 => c7 | 8 => c8 | 9 => c9 | 10 => c10 | 11 => c11 | 12 => c12 | 13 => c13 | 14 => c14 | 15 => c15 | 16 => c16 | 17 => c17 | 18 => c18 | 19 => c19 | 20 => c20 | 21 => c21 | 22 => c22 | 23 => c23 | _ => 0) := by
    intro i hi
    match i, hi with
    | 0, _ => exact wf_u8 fc0
    | 1, _ => exact word_of_wf fc1
    | 2, _ => exact wf_i64 fc2
    | 3, _ => exact word_of_wf fc3
    | 4, _ => exact wf_i64 fc4
    | 5, _ => exact wf_i64 fc5
    | 6, _ => exact (by cases c6 <;> first | exact Or.inl rfl | exact Or.inr rfl : (if c6 = true then (1:Int) else 0) = 0 ∨ (if c6 = true then (1:Int) else 0) = 1)
    | 7, _ => exact word_of_wf fc7
    | 8, _ => exact word_of_wf fc8
    | 9, _ => exact word_of_wf fc9
    | 10, _ => exact word_of_wf fc10
    | 11, _ => exact word_of_wf fc11
    | 12, _ => exact word_of_wf fc12
    | 13, _ => exact word_of_wf fc13
    | 14, _ => exact word_of_wf fc14
    | 15, _ => exact word_of_wf fc15
    | 16, _ => exact wf_i64 fc16
    | 17, _ => exact wf_i64 fc17
    | 18, _ => exact wf_i64 fc18
    | 19, _ => exact word_of_wf fc19
    | 20, _ => exact wf_i64 fc20
    | 21, _ => exact wf_i64 fc21
    | 22, _ => exact word_of_wf fc22
    | 23, _ => exact word_of_wf fc23
    | i + 24, hi => exact absurd hi (by omega)
  have ec : rowA cmdT 24 (fun i => match i with | 0 => c0 | 1 => c1 | 2 => c2 | 3 => c3 | 4 => c4 | 5 => c5 | 6 => (if c6 = true then 1 else 0) | 7 => c7 | 8 => c8 | 9 => c9 | 10 => c10 | 11 => c11 | 12 => c12 | 13 => c13 | 14 => c14 | 15 => c15 | 16 => c16 | 17 => c17 | 18 => c18 | 19 => c19 | 20 => c20 | 21 => c21 | 22 => c22 | 23 => c23 | _ => 0) = #[.int .u8 c0, .int .u64 c1, .int .i64 c2, .int .u64 c3, .int .i64 c4, .int .i64 c5, .bool c6, .int .u64 c7, .int .u64 c8, .int .u64 c9, .int .u64 c10, .int .u64 c11, .int .u64 c12, .int .u64 c13, .int .u64 c14, .int .u64 c15, .int .i64 c16, .int .i64 c17, .int .i64 c18, .int .u64 c19, .int .i64 c20, .int .i64 c21, .int .u64 c22, .int .u64 c23] := by cases c6 <;> rfl
  have hr : Fits replyT 10 (fun i => match i with | 0 => r0 | 1 => r1 | 2 => r2 | 3 => r3 | 4 => r4 | 5 => r5 | 6 => r6 | 7 => r7 | 8 => r8 | 9 => r9 | _ => 0) := by
    intro i hi
    match i, hi with
    | 0, _ => exact wf_i64 fr0
    | 1, _ => exact word_of_wf fr1
    | 2, _ => exact word_of_wf fr2
    | 3, _ => exact word_of_wf fr3
    | 4, _ => exact word_of_wf fr4
    | 5, _ => exact word_of_wf fr5
    | 6, _ => exact word_of_wf fr6
    | 7, _ => exact word_of_wf fr7
    | 8, _ => exact word_of_wf fr8
    | 9, _ => exact word_of_wf fr9
    | i + 10, hi => exact absurd hi (by omega)
  have er : rowA replyT 10 (fun i => match i with | 0 => r0 | 1 => r1 | 2 => r2 | 3 => r3 | 4 => r4 | 5 => r5 | 6 => r6 | 7 => r7 | 8 => r8 | 9 => r9 | _ => 0) = #[.int .i64 r0, .int .u64 r1, .int .u64 r2, .int .u64 r3, .int .u64 r4, .int .u64 r5, .int .u64 r6, .int .u64 r7, .int .u64 r8, .int .u64 r9] := by rfl
  have hq : Fits replyT 10 (fun i => match i with | 0 => q0 | 1 => q1 | 2 => q2 | 3 => q3 | 4 => q4 | 5 => q5 | 6 => q6 | 7 => q7 | 8 => q8 | 9 => q9 | _ => 0) := by
    intro i hi
    match i, hi with
    | 0, _ => exact wf_i64 fq0
    | 1, _ => exact word_of_wf fq1
    | 2, _ => exact word_of_wf fq2
    | 3, _ => exact word_of_wf fq3
    | 4, _ => exact word_of_wf fq4
    | 5, _ => exact word_of_wf fq5
    | 6, _ => exact word_of_wf fq6
    | 7, _ => exact word_of_wf fq7
    | 8, _ => exact word_of_wf fq8
    | 9, _ => exact word_of_wf fq9
    | i + 10, hi => exact absurd hi (by omega)
  have eq : rowA replyT 10 (fun i => match i with | 0 => q0 | 1 => q1 | 2 => q2 | 3 => q3 | 4 => q4 | 5 => q5 | 6 => q6 | 7 => q7 | 8 => q8 | 9 => q9 | _ => 0) = #[.int .i64 q0, .int .u64 q1, .int .u64 q2, .int .u64 q3, .int .u64 q4, .int .u64 q5, .int .u64 q6, .int .u64 q7, .int .u64 q8, .int .u64 q9] := by rfl
  rw [← ea, ← ec, ← er, ← eq]
  have za := wf_u8 fa0
  obtain ⟨ka, kae⟩ : ∃ k : Nat, a0 = (k : Int) := ⟨a0.toNat, by omega⟩
  have az : (fun i => match i with | 0 => a0 | 1 => a1 | 2 => a2 | 3 => a3 | 4 => a4 | 5 => a5 | 6 => (if a6 = true then 1 else 0) | 7 => a7 | 8 => a8 | 9 => a9 | 10 => a10 | 11 => a11 | 12 => a12 | 13 => a13 | 14 => a14 | 15 => a15 | 16 => a16 | 17 => a17 | 18 => a18 | 19 => a19 | 20 => a20 | 21 => a21 | 22 => a22 | 23 => a23 | _ => 0) 0 = (ka : Int) := kae
  generalize (fun i => match i with | 0 => a0 | 1 => a1 | 2 => a2 | 3 => a3 | 4 => a4 | 5 => a5 | 6 => (if a6 = true then 1 else 0) | 7 => a7 | 8 => a8 | 9 => a9 | 10 => a10 | 11 => a11 | 12 => a12 | 13 => a13 | 14 => a14 | 15 => a15 | 16 => a16 | 17 => a17 | 18 => a18 | 19 => a19 | 20 => a20 | 21 => a21 | 22 => a22 | 23 => a23 | _ => 0) = af at ha az ⊢
  have zc := wf_u8 fc0
  obtain ⟨kc, kce⟩ : ∃ k : Nat, c0 = (k : Int) := ⟨c0.toNat, by omega⟩
  have cz : (fun i => match i with | 0 => c0 | 1 => c1 | 2 => c2 | 3 => c3 | 4 => c4 | 5 => c5 | 6 => (if c6 = true then 1 else 0) | 7 => c7 | 8 => c8 | 9 => c9 | 10 => c10 | 11 => c11 | 12 => c12 | 13 => c13 | 14 => c14 | 15 => c15 | 16 => c16 | 17 => c17 | 18 => c18 | 19 => c19 | 20 => c20 | 21 => c21 | 22 => c22 | 23 => c23 | _ => 0) 0 = (kc : Int) := kce
  generalize (fun i => match i with | 0 => c0 | 1 => c1 | 2 => c2 | 3 => c3 | 4 => c4 | 5 => c5 | 6 => (if c6 = true then 1 else 0) | 7 => c7 | 8 => c8 | 9 => c9 | 10 => c10 | 11 => c11 | 12 => c12 | 13 => c13 | 14 => c14 | 15 => c15 | 16 => c16 | 17 => c17 | 18 => c18 | 19 => c19 | 20 => c20 | 21 => c21 | 22 => c22 | 23 => c23 | _ => 0) = cf at hc cz ⊢
  generalize (fun i => match i with | 0 => r0 | 1 => r1 | 2 => r2 | 3 => r3 | 4 => r4 | 5 => r5 | 6 => r6 | 7 => r7 | 8 => r8 | 9 => r9 | _ => 0) = rf at hr ⊢
  generalize (fun i => match i with | 0 => q0 | 1 => q1 | 2 => q2 | 3 => q3 | 4 => q4 | 5 => q5 | 6 => q6 | 7 => q7 | 8 => q8 | 9 => q9 | _ => 0) = qf at hq ⊢
  have TR : RTold (0 :: encs rf replySlots) rf := ⟨hr, rfl⟩
  have TQ : RTold (0 :: encs qf replySlots) qf := ⟨hq, rfl⟩
  have UV := rtold_alike TR TQ
  by_cases k1 : 1 ≤ ka ∧ ka ≤ 7
  · have TA := own_told ha az k1.1 k1.2
    by_cases k2 : 1 ≤ kc ∧ kc ≤ 7
    · have TC := own_told hc cz k2.1 k2.2
      exact capart_yy af cf rf qf ka kc _ _ _ _ _ _ w az cz (fits_own ha) (fits_own hc) TA.tell TC.tell TR.tell TQ.tell (told_alike TA TC) rfl UV rfl
    · exact capart_ny af cf rf qf ka kc _ _ _ _ _ w az cz TA.tell (own_no cz (by omega)) TR.tell TQ.tell UV rfl
  · by_cases k2 : 1 ≤ kc ∧ kc ≤ 7
    · have TC := own_told hc cz k2.1 k2.2
      exact capart_no2 af cf rf qf ka kc _ _ _ _ _ w az cz (own_no az (by omega)) TC.tell TR.tell TQ.tell UV rfl
    · exact capart_no af cf rf qf ka kc _ _ _ _ _ w az cz (own_no az (by omega)) (own_no cz (by omega)) TR.tell TQ.tell UV rfl

end Go.Proofs.Ytbageagobalgbaa
