/-
  A family, plainly: what is done to it, and what stays true.
-/
import Derived.Test.YtjhffbhjiflfeaaGreatVirtK
namespace Go.Proofs.YtjhffbhjiflfeaaGreat
set_option linter.unusedVariables false
set_option linter.unusedSimpArgs false

/-! ### Runs grow -/
theorem reach_mono {F L R y y' : Int} (hm : May F L R) (h0 : 0 ≤ y) (h : y ≤ y') : reachN F L R y ≤ reachN F L R y' := by
  have b := reach_bounds (y := y) hm h0
  have b' := reach_bounds (y := y') hm (by omega)
  rcases b'.2 with e | e
  · omega
  · have h1 := (reach_at (t := reachN F L R y') hm (show 0 ≤ y' by omega) b'.1 (by omega)).2 (Int.le_refl _)
    exact (reach_at (t := reachN F L R y') hm h0 b'.1 (by omega)).1 (by omega)
theorem reachB_mono {F L R n x f r y y' : Int} (h : Made F L R n x f r) (h0 : 0 ≤ y) (hy : y ≤ y') : reachB F R x f r y ≤ reachB F R x f r y' := by
  have b := reachB_bounds (y := y) h h0
  have b' := reachB_bounds (y := y') h (by omega)
  by_cases e : reachB F R x f r y' = 9223372036854775808
  · omega
  · have h1 := (reachB_at (t := reachB F R x f r y') h (show 0 ≤ y' by omega) b'.1 (by omega)).2 (Int.le_refl _)
    exact (reachB_at (t := reachB F R x f r y') h h0 b'.1 (by omega)).1 (by omega)
theorem minus_nonneg (a b : Int) : 0 ≤ minusN a b := by
  unfold minusN
  split
  · omega
  · exact stop_nonneg (by omega)
theorem minus_mono {a a' : Int} (b : Int) (h : a ≤ a') : minusN a b ≤ minusN a' b := by
  unfold minusN
  split
  · split
    · omega
    · exact stop_nonneg (by omega)
  · rw [if_neg (by omega)]
    exact stop_mono (by omega)
theorem RS.reach_bounds {s : RS} (h : s.ok) {y : Int} (hy : 0 ≤ y) : 0 ≤ s.reach y ∧ s.reach y ≤ 9223372036854775808 := by
  cases s with
  | bent F L R n x f r =>
    have := reachB_bounds (y := y) h hy
    have := h.x0
    show 0 ≤ (if n = 0 then (if y = 0 then (0 : Int) else 9223372036854775808) else reachB F R x f r y) ∧ (if n = 0 then (if y = 0 then (0 : Int) else 9223372036854775808) else reachB F R x f r y) ≤ _
    split
    · split <;> omega
    · omega
  | sag F L R n x K =>
    have h0 := h.x0
    have h1 := h.x1
    show 0 ≤ sReach F L R n x K y ∧ sReach F L R n x K y ≤ _
    unfold sReach
    split
    · split <;> omega
    · split
      · omega
      · have a := sGo_ge (f := fun k => reachN F L R (minusN y k.2)) (K := K) h1
        have b := sGo_le (f := fun k => reachN F L R (minusN y k.2)) (K := K) h1
        omega
theorem RS.reach_mono {s : RS} (h : s.ok) {y y' : Int} (h0 : 0 ≤ y) (hy : y ≤ y') : s.reach y ≤ s.reach y' := by
  cases s with
  | bent F L R n x f r =>
    show (if n = 0 then (if y = 0 then (0 : Int) else 9223372036854775808) else reachB F R x f r y) ≤ (if n = 0 then (if y' = 0 then (0 : Int) else 9223372036854775808) else reachB F R x f r y')
    split
    · split <;> split <;> omega
    · exact reachB_mono h h0 hy
  | sag F L R n x K =>
    have x1 := h.x1
    show sReach F L R n x K y ≤ sReach F L R n x K y'
    unfold sReach
    split
    · split <;> split <;> omega
    · split
      · rw [if_pos (by omega)]; omega
      · split
        · exact sGo_le x1
        · exact sGo_mono (fun k _ => Go.Proofs.YtjhffbhjiflfeaaGreat.reach_mono h.may (minus_nonneg _ _) (minus_mono _ hy)) (Int.le_refl _) x1
theorem RS.start_many (s : RS) (X Y : Int) : (s.start X Y).many = s.many + 1 := by cases s <;> rfl
theorem RS.start_reach {s : RS} (h : s.ok) {X Y y : Int} (hX : X ≤ 9223372036854775808) (hY : 0 ≤ Y) (hm : 0 ≤ s.many) (hy : 0 ≤ y) : X ≤ (s.start X Y).reach y := by
  have hs := RS.ok.start (X := X) h hY
  cases s with
  | bent F L R n x f r =>
    have hn : n + 1 ≠ 0 := by have : 0 ≤ n := hm; omega
    show X ≤ (if n + 1 = 0 then _ else reachB F R (nextX x X) (nextH F 0 n x f X Y) (nextH R ((F - R) * L) n x r X Y) y)
    rw [if_neg hn]
    have := (reachB_bounds (y := y) hs hy).1
    unfold nextX at this ⊢
    omega
  | sag F L R n x K =>
    have hn : n + 1 ≠ 0 := by have : 0 ≤ n := hm; omega
    show X ≤ sReach F L R (n + 1) (nextX x X) (sNext F L R x X Y K) y
    have hx : X ≤ nextX x X := by unfold nextX; omega
    have h1 : nextX x X ≤ 9223372036854775808 := nextX_le h.x1
    unfold sReach
    rw [if_neg hn]
    split
    · omega
    · exact Int.le_trans hx (sGo_ge h1)
theorem RS.many_nonneg {s : RS} (h : s.ok) : 0 ≤ s.many := by
  cases s with
  | bent F L R n x f r => exact h.n0
  | sag F L R n x K => exact h.n0

/-! ### A family -/
structure FS where
  k : Int
  L : List Mem
def FS.wake (id : Int) (S : FS) : FS := match fnd id S.L with
  | none => S
  | some x => if x.up = true then S else ⟨max S.k (startV S.k (ups S.L) x.v), setM (wokenM S.k S.L x) S.L⟩
def FS.sleep (id : Int) (S : FS) : FS := match fnd id S.L with
  | none => S
  | some x => ⟨S.k, setM { x with up := false } S.L⟩
def FS.gain (id g : Int) (S : FS) : FS := match fnd id S.L with
  | none => S
  | some x => if x.up = true then ⟨max S.k (x.s.reach (gainT x g)), setM { x with T := gainT x g, v := x.s.reach (gainT x g) } S.L⟩ else ⟨S.k, setM { x with T := gainT x g } S.L⟩
def FS.drop (id : Int) (S : FS) : FS := ⟨S.k, dropM id S.L⟩
def FS.add (id : Int) (m p q : Nat) (F L R : Int) (S : FS) : FS := ⟨S.k, S.L ++ [newM id m p q F L R]⟩

/-- A member is as it may be: N starts at most, virtual times at most k. -/
structure MOk (N : Nat) (k : Int) (x : Mem) : Prop where
  t0 : 0 ≤ x.T
  t1 : x.T ≤ 4611686018427387904
  ok : x.s.ok
  many : x.s.many ≤ N
  v0 : 0 ≤ x.v
  v1 : x.v ≤ k
  one : x.up = true → 1 ≤ x.s.many
  reach : x.up = true → x.v ≤ x.s.reach x.T
structure FS.ok (N : Nat) (S : FS) : Prop where
  k0 : 0 ≤ S.k
  k1 : S.k ≤ 9223372036854775808
  len : S.L.length ≤ N
  mem : ∀ x ∈ S.L, MOk N S.k x
theorem MOk.mono {N N' : Nat} {k k' : Int} {x : Mem} (h : MOk N k x) (hN : N ≤ N') (hk : k ≤ k') : MOk N' k' x :=
  ⟨h.t0, h.t1, h.ok, by have := h.many; omega, h.v0, by have := h.v1; omega, h.one, h.reach⟩
theorem FS.ok.more {N N' : Nat} {S : FS} (h : S.ok N) (hN : N ≤ N') : S.ok N' := ⟨h.k0, h.k1, by have := h.len; omega, fun x hx => (h.mem x hx).mono hN (Int.le_refl _)⟩
theorem setM_len (y : Mem) : ∀ Ms : List Mem, (setM y Ms).length = Ms.length
  | [] => rfl
  | x :: Ms => by
    unfold setM
    split
    · rfl
    · show (setM y Ms).length + 1 = Ms.length + 1; rw [setM_len y Ms]
theorem mem_set {y z : Mem} {Ms : List Mem} (h : z ∈ setM y Ms) : z = y ∨ z ∈ Ms := by
  rcases mem_setM h with h | h | h
  · exact Or.inl h
  · exact Or.inr h.1
  · exact Or.inr h
theorem FS.ok.vok {N : Nat} {S : FS} (h : S.ok N) : Vok S.L := fun y hy => ⟨(h.mem y hy).v0, Int.le_trans (h.mem y hy).v1 h.k1⟩
theorem MOk.memOk {N : Nat} {k : Int} {x : Mem} (h : MOk N k x) (hN : N ≤ 1000000) : MemOk x := ⟨h.t0, h.t1, h.ok, by have := h.many; omega⟩
theorem FS.ok.wake {N : Nat} {S : FS} (h : S.ok N) (id : Int) : (S.wake id).ok (N + 1) := by
  unfold FS.wake
  cases hf : fnd id S.L with
  | none => exact h.more (Nat.le_succ _)
  | some x =>
    have hx := h.mem x (fnd_mem hf).1
    dsimp only
    split
    · exact h.more (Nat.le_succ _)
    · have hb := startV_bounds h.vok (h.vok x (fnd_mem hf).1) ⟨h.k0, h.k1⟩
      have hmany := RS.many_nonneg hx.ok
      refine ⟨by have := h.k0; show 0 ≤ max _ _; omega, by have := h.k1; show max _ _ ≤ _; omega, by have := h.len; show (setM _ _).length ≤ _; rw [setM_len]; omega, fun z hz => ?_⟩
      rcases mem_set hz with rfl | hz
      · refine ⟨hx.t0, hx.t1, RS.ok.start hx.ok hx.t0, ?_, hb.1, by show startV S.k (ups S.L) x.v ≤ max S.k (startV S.k (ups S.L) x.v); omega, fun _ => ?_, fun _ => RS.start_reach hx.ok hb.2 hx.t0 hmany hx.t0⟩
        · show (x.s.start _ _).many ≤ _
          rw [RS.start_many]
          have := hx.many
          omega
        · show 1 ≤ (x.s.start _ _).many
          rw [RS.start_many]
          omega
      · exact (h.mem z hz).mono (Nat.le_succ _) (by show S.k ≤ max _ _; omega)
theorem FS.ok.sleep {N : Nat} {S : FS} (h : S.ok N) (id : Int) : (S.sleep id).ok N := by
  unfold FS.sleep
  cases hf : fnd id S.L with
  | none => exact h
  | some x =>
    have hx := h.mem x (fnd_mem hf).1
    refine ⟨h.k0, h.k1, by have := h.len; show (setM _ _).length ≤ _; rw [setM_len]; omega, fun z hz => ?_⟩
    rcases mem_set hz with rfl | hz
    · exact ⟨hx.t0, hx.t1, hx.ok, hx.many, hx.v0, hx.v1, fun e => Bool.noConfusion e, fun e => Bool.noConfusion e⟩
    · exact h.mem z hz
theorem FS.ok.gain {N : Nat} {S : FS} (h : S.ok N) (id : Int) {g : Int} (hg : Word g) : (S.gain id g).ok N := by
  unfold FS.gain
  cases hf : fnd id S.L with
  | none => exact h
  | some x =>
    have hx := h.mem x (fnd_mem hf).1
    have hg0 := hg.1
    have hT : 0 ≤ gainT x g ∧ gainT x g ≤ 4611686018427387904 := by
      have h0 := hx.t0
      have h1 := hx.t1
      unfold gainT
      omega
    dsimp only
    split
    · rename_i hu
      have hb := RS.reach_bounds hx.ok hT.1
      refine ⟨by have := h.k0; show 0 ≤ max _ _; omega, by have := h.k1; show max _ _ ≤ _; omega, by have := h.len; show (setM _ _).length ≤ _; rw [setM_len]; omega, fun z hz => ?_⟩
      rcases mem_set hz with rfl | hz
      · exact ⟨hT.1, hT.2, hx.ok, hx.many, hb.1, by show x.s.reach (gainT x g) ≤ max S.k (x.s.reach (gainT x g)); omega, fun _ => hx.one hu, fun _ => Int.le_refl _⟩
      · exact (h.mem z hz).mono (Nat.le_refl _) (by show S.k ≤ max _ _; omega)
    · rename_i hu
      refine ⟨h.k0, h.k1, by have := h.len; show (setM _ _).length ≤ _; rw [setM_len]; omega, fun z hz => ?_⟩
      rcases mem_set hz with rfl | hz
      · exact ⟨hT.1, hT.2, hx.ok, hx.many, hx.v0, hx.v1, fun e => absurd e hu, fun e => absurd e hu⟩
      · exact h.mem z hz
theorem FS.ok.drop {N : Nat} {S : FS} (h : S.ok N) (id : Int) : (S.drop id).ok N :=
  ⟨h.k0, h.k1, Nat.le_trans (dropM_sub id S.L).length_le h.len, fun x hx => h.mem x ((dropM_sub id S.L).subset hx)⟩
theorem FS.ok.add {N : Nat} {S : FS} (h : S.ok N) (id : Int) (m p q : Nat) {F L R : Int} (hm : May F L R) : (S.add id m p q F L R).ok (N + 1) := by
  refine ⟨h.k0, h.k1, by have := h.len; show (S.L ++ [_]).length ≤ _; simp; omega, fun x hx => ?_⟩
  rcases List.mem_append.1 hx with hx | hx
  · exact (h.mem x hx).mono (Nat.le_succ _) (Int.le_refl _)
  · rw [List.mem_singleton.1 hx]
    exact ⟨Int.le_refl _, by show (0 : Int) ≤ _; decide, RS.new_ok hm, by show (RS.new F L R).many ≤ _; rw [RS.new_many]; omega, Int.le_refl _, h.k0, fun e => Bool.noConfusion e, fun e => Bool.noConfusion e⟩
theorem fs_none : (FS.mk 0 []).ok 0 := ⟨Int.le_refl _, by decide, Nat.le_refl _, fun x hx => by cases hx⟩

end Go.Proofs.YtjhffbhjiflfeaaGreat

/-!
  A family in memory, what is done to it told plainly.
-/
namespace Go.Proofs.YtjhffbhjiflfeaaGreat
set_option linter.unusedVariables false
set_option linter.unusedSimpArgs false
open Go.RowKit Go.Shelf

structure FamIn (B : Nat) (w0 w : World) (f mb : Nat) (S : FS) : Prop where
  fam : FamAt w f mb S.k S.L
  lf : B ≤ f
  lm : B ≤ mb
  mem : ∀ x ∈ S.L, B ≤ x.m ∧ B ≤ x.q
  below : Below B w0 w
  size : B ≤ w0.heap.size
section
variable {B : Nat} {w0 w w' : World} {f mb : Nat} {S : FS}
theorem FamIn.next (h : FamIn B w0 w f mb S) (hb : Below w.heap.size w w') : FamIn B w0 w' f mb S :=
  ⟨h.fam.next hb, h.lf, h.lm, h.mem, h.below.trans (hb.mono (Nat.le_trans h.size h.below.size)), h.size⟩
/-- Blocks that are no family's lie as they lay. -/
def Spares (w w' : World) : Prop := ∀ (g : Nat) (t : TypeId) (cs : Array Value), t ≠ 43 → t ≠ 70 → t ≠ 120 → t ≠ 123 → Blk w g t cs → Blk w' g t cs
theorem Spares.refl (w : World) : Spares w w := fun _ _ _ _ _ _ _ h => h
theorem Spares.of_below {w w' : World} (h : Below w.heap.size w w') : Spares w w' := fun _ _ _ _ _ _ _ hb => hb.next h
theorem Spares.trans {w w1 w' : World} (h : Spares w w1) (k : Spares w1 w') : Spares w w' := fun g t cs a b c d hb => k g t cs a b c d (h g t cs a b c d hb)
theorem FamIn.to {S' : FS} {T : Nat → Prop} (h : FamIn B w0 w f mb S) (hf : FamAt w' f mb S'.k S'.L) (hfr : Fr T w w') (hT : ∀ k, T k → k = f ∨ k = mb ∨ ∃ x ∈ S.L, k = x.m ∨ k = x.q) (hm : ∀ x ∈ S'.L, B ≤ x.m ∧ B ≤ x.q) : FamIn B w0 w' f mb S' ∧ Spares w w' := by
  refine ⟨⟨hf, h.lf, h.lm, hm, h.below.trans (hfr.below (Nat.le_trans h.size h.below.size) (fun k hk ht => ?_)), h.size⟩, fun g t cs a b c d hb => hb.fr hfr fun ht => ?_⟩
  · rcases hT k ht with rfl | rfl | ⟨x, hx, rfl | rfl⟩
    · have := h.lf; omega
    · have := h.lm; omega
    · have := (h.mem x hx).1; omega
    · have := (h.mem x hx).2; omega
  · rcases hT g ht with e | e | ⟨x, hx, e | e⟩
    · exact Blk.ne_of_type hb h.fam.blk a e
    · exact h.fam.map.ne hb e.symm
    · exact Blk.ne_of_type hb (h.fam.mem x hx).1 b e
    · rcases (h.fam.mem x hx).2.parts.2 with ⟨c', hc⟩ | ⟨c', hc⟩
      · exact Blk.ne_of_type hb hc c e
      · exact Blk.ne_of_type hb hc d e
theorem fi_set {y x : Mem} {Ms : List Mem} (h : ∀ x ∈ Ms, B ≤ x.m ∧ B ≤ x.q) (hx : x ∈ Ms) (hm : y.m = x.m) (hq : y.q = x.q) : ∀ z ∈ setM y Ms, B ≤ z.m ∧ B ≤ z.q := by
  intro z hz
  rcases mem_set hz with rfl | hz
  · rw [hm, hq]; exact h x hx
  · exact h z hz
theorem fi_new (w : World) : Calls Tryz.prog 8 #[] w fun e w' => ∃ f mb, e = .returned (.pointer (some ⟨f, 0, none⟩)) ∧ FamIn w.heap.size w w' f mb ⟨0, []⟩ :=
  (vnew_any w).mono (by rintro e w' ⟨f, mb, rfl, h1, h2, h3, h4⟩; exact ⟨f, mb, rfl, h3, h1, h2, fun x hx => (by cases hx), h4, Nat.le_refl _⟩)
theorem fi_wake (id : Int) {N : Nat} (h : FamIn B w0 w f mb S) (ok : S.ok N) (hN : N ≤ 1000000) :
    Calls Tryz.prog 13 #[.pointer (some ⟨f, 0, none⟩), .int .i64 id] w fun e w' => e = .returned (.tuple #[]) ∧ FamIn B w0 w' f mb (S.wake id) ∧ Spares w w' := by
  unfold FS.wake
  cases hf : fnd id S.L with
  | none => exact (vwake_none f mb S.k id S.L w h.fam hf).mono (by rintro e w' ⟨rfl, rfl⟩; exact ⟨rfl, h, Spares.refl _⟩)
  | some x =>
    have hin := (fnd_mem hf).1
    have hx := ok.mem x hin
    dsimp only
    rcases Bool.eq_false_or_eq_true x.up with hu | hu
    · exact (vwake_up f mb S.k id S.L x w h.fam hf hu).mono (by rintro e w' ⟨rfl, rfl⟩; exact ⟨rfl, by rw [if_pos hu]; exact ⟨h, Spares.refl _⟩⟩)
    · refine (vwake_some f mb S.k id S.L x w h.fam hf hu ok.vok (hx.memOk hN) ⟨ok.k0, ok.k1⟩).mono ?_
      rintro e w' ⟨rfl, h1, h2⟩
      refine ⟨rfl, ?_⟩
      rw [if_neg (by rw [hu]; decide)]
      refine h.to (S' := ⟨max S.k (startV S.k (ups S.L) x.v), setM (wokenM S.k S.L x) S.L⟩) h1 h2 ?_ (fi_set h.mem hin rfl rfl)
      rintro k (e | e | e)
      · exact Or.inl e
      · exact Or.inr (Or.inr ⟨x, hin, Or.inl e⟩)
      · exact Or.inr (Or.inr ⟨x, hin, Or.inr e⟩)
theorem fi_sleep (id : Int) (h : FamIn B w0 w f mb S) :
    Calls Tryz.prog 15 #[.pointer (some ⟨f, 0, none⟩), .int .i64 id] w fun e w' => e = .returned (.tuple #[]) ∧ FamIn B w0 w' f mb (S.sleep id) ∧ Spares w w' := by
  refine (vsleep_any f mb S.k id S.L w h.fam).mono ?_
  rintro e w' ⟨rfl, h1⟩
  refine ⟨rfl, ?_⟩
  unfold FS.sleep
  cases hf : fnd id S.L with
  | none => rw [hf] at h1; subst h1; exact ⟨h, Spares.refl _⟩
  | some x =>
    rw [hf] at h1
    have hin := (fnd_mem hf).1
    exact h.to (S' := ⟨S.k, setM { x with up := false } S.L⟩) h1.1 h1.2 (fun k e => Or.inr (Or.inr ⟨x, hin, Or.inl e⟩)) (fi_set h.mem hin rfl rfl)
theorem fi_gain (id g : Int) {N : Nat} (h : FamIn B w0 w f mb S) (ok : S.ok N) (hN : N ≤ 1000000) (hg : Word g) :
    Calls Tryz.prog 17 #[.pointer (some ⟨f, 0, none⟩), .int .i64 id, .int .u64 g] w fun e w' => e = .returned (.tuple #[]) ∧ FamIn B w0 w' f mb (S.gain id g) ∧ Spares w w' := by
  unfold FS.gain
  cases hf : fnd id S.L with
  | none => exact (vgain_none f mb S.k id g S.L w h.fam hf).mono (by rintro e w' ⟨rfl, rfl⟩; exact ⟨rfl, h, Spares.refl _⟩)
  | some x =>
    have hin := (fnd_mem hf).1
    have hx := ok.mem x hin
    refine (vgain_some f mb S.k id g S.L x w h.fam hf (hx.memOk hN) hg).mono ?_
    rintro e w' ⟨rfl, h1, h2⟩
    refine ⟨rfl, ?_⟩
    have hT : ∀ k, (k = f ∨ k = x.m) → k = f ∨ k = mb ∨ ∃ x ∈ S.L, k = x.m ∨ k = x.q := by
      rintro k (e | e)
      · exact Or.inl e
      · exact Or.inr (Or.inr ⟨x, hin, Or.inl e⟩)
    dsimp only
    split at h1
    · rename_i hu
      rw [if_pos hu]
      exact h.to (S' := ⟨max S.k (x.s.reach (gainT x g)), setM { x with T := gainT x g, v := x.s.reach (gainT x g) } S.L⟩) h1 h2 hT (fi_set h.mem hin rfl rfl)
    · rename_i hu
      rw [if_neg hu]
      exact h.to (S' := ⟨S.k, setM { x with T := gainT x g } S.L⟩) h1 h2 hT (fi_set h.mem hin rfl rfl)
theorem drop_absent {id : Int} : ∀ {Ms : List Mem}, fnd id Ms = none → dropM id Ms = Ms
  | [], _ => rfl
  | x :: Ms, h => by
    unfold fnd at h
    split at h
    · cases h
    · rename_i hn
      unfold dropM
      rw [if_neg hn, drop_absent h]
theorem fi_drop (id : Int) (h : FamIn B w0 w f mb S) :
    Calls Tryz.prog 11 #[.pointer (some ⟨f, 0, none⟩), .int .i64 id] w fun e w' => e = .returned (.bool (fnd id S.L).isSome) ∧ FamIn B w0 w' f mb (S.drop id) ∧ Spares w w' := by
  unfold FS.drop
  cases hf : fnd id S.L with
  | none => exact (vdrop_none f mb S.k id S.L w h.fam hf).mono (by rintro e w' ⟨rfl, rfl⟩; rw [drop_absent hf]; exact ⟨rfl, h, Spares.refl _⟩)
  | some x =>
    refine (vdrop_some f mb S.k id S.L x w h.fam hf).mono ?_
    rintro e w' ⟨rfl, h1, h2⟩
    exact ⟨rfl, h.to (S' := ⟨S.k, dropM id S.L⟩) h1 h2 (fun k e => Or.inr (Or.inl e)) (fun x hx => h.mem x ((dropM_sub id S.L).subset hx))⟩
def addR (id F L R : Int) (S : FS) : Bool := (fnd id S.L).isNone && mayB F L R
/-- What a coming leaves. -/
def Added (id F L R : Int) (S S' : FS) : Prop := (addR id F L R S = true ∧ May F L R ∧ ∃ m p q, S' = S.add id m p q F L R) ∨ (addR id F L R S = false ∧ S' = S)
theorem fi_add (id F L R : Int) (h : FamIn B w0 w f mb S) (wF : Word F) (wL : Word L) (wR : Word R) :
    Calls Tryz.prog 9 #[.pointer (some ⟨f, 0, none⟩), .int .i64 id, .agg #[.int .u64 F, .int .u64 L, .int .u64 R]] w fun e w' => e = .returned (.bool (addR id F L R S)) ∧ ∃ S', Added id F L R S S' ∧ FamIn B w0 w' f mb S' ∧ Spares w w' := by
  unfold addR Added
  cases hf : fnd id S.L with
  | some x =>
    refine (vadd_here f mb S.k id S.L x F L R w h.fam hf).mono ?_
    rintro e w' ⟨rfl, hb⟩
    exact ⟨rfl, S, Or.inr ⟨by unfold addR; rw [hf]; rfl, rfl⟩, h.next hb, Spares.of_below hb⟩
  | none =>
    cases hm : mayB F L R with
    | false =>
      refine (vadd_bad f mb S.k id S.L F L R w h.fam hf wF wL wR hm).mono ?_
      rintro e w' ⟨rfl, hb⟩
      exact ⟨rfl, S, Or.inr ⟨by unfold addR; rw [hf, hm]; rfl, rfl⟩, h.next hb, Spares.of_below hb⟩
    | true =>
      refine (vadd_some f mb S.k id S.L F L R w h.fam hf wF wL wR hm).mono ?_
      rintro e w' ⟨rfl, ⟨m, p, q, h1, h2, h3⟩, h4⟩
      have hs := Nat.le_trans h.size h.below.size
      refine ⟨rfl, S.add id m p q F L R, Or.inl ⟨by unfold addR; rw [hf, hm]; rfl, may_of wF wL wR hm, m, p, q, rfl⟩, h.to (S' := S.add id m p q F L R) h3 h4 (fun k e => Or.inr (Or.inl e)) (fun x hx => ?_)⟩
      rcases List.mem_append.1 hx with hx | hx
      · exact h.mem x hx
      · rw [List.mem_singleton.1 hx]
        exact ⟨Nat.le_trans hs h1, Nat.le_trans hs h2⟩
theorem fi_v (id : Int) (h : FamIn B w0 w f mb S) : Calls Tryz.prog 22 #[.pointer (some ⟨f, 0, none⟩), .int .i64 id] w fun e w' => e = .returned (.int .u64 (vOf id S.L)) ∧ w = w' := vv_any f mb S.k id S.L w h.fam
theorem fi_total (id : Int) (h : FamIn B w0 w f mb S) : Calls Tryz.prog 23 #[.pointer (some ⟨f, 0, none⟩), .int .i64 id] w fun e w' => e = .returned (.int .u64 (tOf id S.L)) ∧ w = w' := vtotal_any f mb S.k id S.L w h.fam
theorem fi_awake (id : Int) (h : FamIn B w0 w f mb S) : Calls Tryz.prog 21 #[.pointer (some ⟨f, 0, none⟩), .int .i64 id] w fun e w' => e = .returned (.bool (upOf id S.L)) ∧ w = w' := vawake_any f mb S.k id S.L w h.fam
theorem fi_mark (h : FamIn B w0 w f mb S) : Calls Tryz.prog 24 #[.pointer (some ⟨f, 0, none⟩)] w fun e w' => e = .returned (.int .u64 S.k) ∧ w = w' := vmark_any f mb S.k S.L w h.fam
theorem fi_ids {N : Nat} (h : FamIn B w0 w f mb S) (ok : S.ok N) (hN : N ≤ 100000) : Calls Tryz.prog 25 #[.pointer (some ⟨f, 0, none⟩)] w fun e w' =>
    ∃ v L, e = .returned v ∧ IdsOf S.L L ∧ w'.ownsRow w.heap.size 3 1 v L.length (L.map idVal) ∧ Below w.heap.size w w' := vids_any f mb S.k S.L w h.fam (Nat.le_trans ok.len hN)
end

/-- A row of whole numbers, its cells. -/
theorem row_form {w : World} {B n : Nat} {v : Value} {xs : List Value} (h : w.ownsRow B 3 1 v n xs) : ∃ A c, v = .slice A n c ∧ n ≤ c ∧ (0 < n → ∃ (g : Nat) (cs : Array Value), A = some ⟨g, 0, none⟩ ∧ B ≤ g ∧ Blk w g 3 cs ∧ ∀ (j : Nat) (u : Value), xs[j]? = some u → cs[j]? = some u) := by
  obtain ⟨hx, h⟩ := h
  rcases h with ⟨rfl, h0⟩ | ⟨g, cap, cur, rfl, hg, hh, hn, hc, hs, ht⟩
  · exact ⟨none, 0, by rw [h0], by omega, fun e => by omega⟩
  · refine ⟨_, cap, rfl, hn, fun _ => ⟨g, cur, rfl, hg, hh, fun j u hj => ?_⟩⟩
    rw [← ht, Nat.mul_one] at hj
    have hlt : j < n := by
      rcases Nat.lt_or_ge j n with h | h
      · exact h
      · rw [List.getElem?_eq_none (by simp; omega)] at hj; cases hj
    rw [List.getElem?_take_of_lt hlt] at hj
    simpa using hj

end Go.Proofs.YtjhffbhjiflfeaaGreat

/-!
  The chapter's example.
-/
namespace Go.Proofs.YtjhffbhjiflfeaaGreat
set_option linter.unusedVariables false
set_option linter.unusedSimpArgs false
set_option maxRecDepth 100000
open Go.RowKit Go.Shelf

def aw2 (m1 p1 q1 m2 p2 q2 : Nat) : FS := ((FS.mk 0 []).add 1 m1 p1 q1 0 0 256).add 2 m2 p2 q2 0 0 512
def aw6 (m1 p1 q1 m2 p2 q2 : Nat) : FS := (((aw2 m1 p1 q1 m2 p2 q2).wake 1).wake 2).gain 1 1024
def aw7 (m1 p1 q1 m2 p2 q2 : Nat) : FS := (aw6 m1 p1 q1 m2 p2 q2).gain 2 1024
def aw9 (m1 p1 q1 m2 p2 q2 : Nat) : FS := ((aw7 m1 p1 q1 m2 p2 q2).sleep 1).gain 1 256
section
variable (m1 p1 q1 m2 p2 q2 : Nat)
theorem aw6_v : vOf 1 (aw6 m1 p1 q1 m2 p2 q2).L = 4 := by kernel_rfl
theorem aw9_v2 : vOf 2 (aw9 m1 p1 q1 m2 p2 q2).L = 2 := by kernel_rfl
theorem aw9_k : (aw9 m1 p1 q1 m2 p2 q2).k = 4 := by kernel_rfl
theorem aw9_t : tOf 1 (aw9 m1 p1 q1 m2 p2 q2).L = 1280 := by kernel_rfl
theorem aw9_v1 : vOf 1 (aw9 m1 p1 q1 m2 p2 q2).L = 4 := by kernel_rfl
theorem aw9_u1 : upOf 1 (aw9 m1 p1 q1 m2 p2 q2).L = false := by kernel_rfl
theorem aw9_u2 : upOf 2 (aw9 m1 p1 q1 m2 p2 q2).L = true := by kernel_rfl
theorem aw7_ups : ∃ x y, ups (aw7 m1 p1 q1 m2 p2 q2).L = [x, y] ∧ x.v = 4 ∧ y.v = 2 ∧ x.id = 1 ∧ y.id = 2 := ⟨⟨1, m1, p1, q1, 1024, 4, true, .sag 0 0 256 1 0 [(0, 0)]⟩, ⟨2, m2, p2, q2, 1024, 2, true, .sag 0 0 512 1 0 [(0, 0)]⟩, by kernel_rfl, rfl, rfl, rfl, rfl⟩
end
theorem ids_two {Ms L : List Mem} {x y : Mem} (h : IdsOf Ms L) (hu : ups Ms = [x, y]) (hlt : mlt y x) : L = [y, x] := by
  obtain ⟨hp, hs⟩ := h
  rw [hu] at hp
  have hl := hp.length_eq
  match L, hl with
  | [a, b], _ =>
    have hxy : x ≠ y := by rintro rfl; unfold mlt at hlt; omega
    have ha : a ∈ [x, y] := hp.subset (List.mem_cons_self ..)
    have hpw := List.rel_of_pairwise_cons hs (List.mem_cons_self ..)
    simp only [List.mem_cons, List.not_mem_nil, or_false] at ha
    rcases ha with rfl | rfl
    · have hb := List.Perm.cons_inv hp
      have := List.perm_singleton.1 hb
      cases this
      exact absurd hlt hpw
    · have hb := List.Perm.cons_inv (hp.trans (List.Perm.swap _ _ _))
      have := List.perm_singleton.1 hb
      cases this
      rfl


set_option maxHeartbeats 8000000 in
theorem vawake_law (w : World) : Calls Tryz.prog 26 #[] w fun e w' => e = .returned (.bool true) ∧ Below w.heap.size w w' := by
  go_enter Tryz.func26, Tryz.ntmps26
  go_wp2_with fail
  with_reducible refine (fi_new w).mono ?_
  rintro e w1 ⟨f, mb, rfl, h1⟩
  go_wp2_with fail
  with_reducible refine (fi_add 1 0 0 256 h1 (by decide) (by decide) (by decide)).mono ?_
  rintro e w2 ⟨rfl, S1, had1, h2, -⟩
  obtain ⟨m1, p1, q1, rfl⟩ : ∃ m p q, S1 = (FS.mk 0 []).add 1 m p q 0 0 256 := by
    rcases had1 with ⟨-, -, h⟩ | ⟨h, -⟩
    · exact h
    · cases (show addR 1 0 0 256 ⟨0, []⟩ = true by kernel_rfl).symm.trans h
  rw [show addR 1 0 0 256 ⟨0, []⟩ = true by kernel_rfl]
  clear had1 h1
  go_wp2_with fail
  with_reducible refine (fi_add 2 0 0 512 h2 (by decide) (by decide) (by decide)).mono ?_
  rintro e w3 ⟨rfl, S2, had2, h3, -⟩
  have e2 : addR 2 0 0 512 ((FS.mk 0 []).add 1 m1 p1 q1 0 0 256) = true := by kernel_rfl
  obtain ⟨m2, p2, q2, rfl⟩ : ∃ m p q, S2 = ((FS.mk 0 []).add 1 m1 p1 q1 0 0 256).add 2 m p q 0 0 512 := by
    rcases had2 with ⟨-, -, h⟩ | ⟨h, -⟩
    · exact h
    · cases e2.symm.trans h
  rw [e2]
  clear had2 h2 e2
  have h3 : FamIn w.heap.size w w3 f mb (aw2 m1 p1 q1 m2 p2 q2) := h3
  go_wp2_with fail
  with_reducible refine (fi_add 2 0 0 5 h3 (by decide) (by decide) (by decide)).mono ?_
  rintro e w4 ⟨rfl, S3, had3, h4, -⟩
  have e3 : addR 2 0 0 5 (aw2 m1 p1 q1 m2 p2 q2) = false := by kernel_rfl
  obtain rfl : S3 = aw2 m1 p1 q1 m2 p2 q2 := by
    rcases had3 with ⟨h, -⟩ | ⟨-, h⟩
    · cases e3.symm.trans h
    · exact h
  rw [e3]
  clear had3 h3 e3
  have ok2 : (aw2 m1 p1 q1 m2 p2 q2).ok 2 := (fs_none.add 1 m1 p1 q1 (may_of (by decide) (by decide) (by decide) (by kernel_rfl))).add 2 m2 p2 q2 (may_of (by decide) (by decide) (by decide) (by kernel_rfl))
  have ok4 := (ok2.wake 1).wake 2
  have ok6 : (aw6 m1 p1 q1 m2 p2 q2).ok 4 := ok4.gain 1 (g := 1024) (by decide)
  have ok7 : (aw7 m1 p1 q1 m2 p2 q2).ok 4 := ok6.gain 2 (g := 1024) (by decide)
  have ok8 := ok7.sleep 1
  have HOK := Lib.hid (And.intro ok2 (And.intro (ok2.wake 1) (And.intro ok4 (And.intro ok6 (And.intro ok7 ok8)))))
  have H4 := Lib.hid h4
  clear ok2 ok4 ok6 ok7 ok8 h4
  go_wp2_with fail
  with_reducible refine (fi_wake 1 H4.out HOK.out.1 (by decide)).mono ?_
  rintro e w5 ⟨rfl, h5, -⟩
  have H5 := Lib.hid h5
  clear h5
  go_wp2_with fail
  with_reducible refine (fi_wake 2 H5.out HOK.out.2.1 (by decide)).mono ?_
  rintro e w6 ⟨rfl, h6, -⟩
  have H6 := Lib.hid h6
  clear h6
  go_wp2_with fail
  with_reducible refine (fi_gain 1 1024 H6.out HOK.out.2.2.1 (by decide) (by decide)).mono ?_
  rintro e w7 ⟨rfl, h7, -⟩
  have H7 : Hid (FamIn w.heap.size w w7 f mb (aw6 m1 p1 q1 m2 p2 q2)) := h7
  clear h7
  go_wp2_with fail
  with_reducible refine (fi_v 1 H7.out).mono ?_
  rintro e wx ⟨rfl, rfl⟩
  rw [aw6_v]
  go_wp2_with fail
  with_reducible refine (fi_gain 2 1024 H7.out HOK.out.2.2.2.1 (by decide) (by decide)).mono ?_
  rintro e w8 ⟨rfl, h8, -⟩
  have H8 : Hid (FamIn w.heap.size w w8 f mb (aw7 m1 p1 q1 m2 p2 q2)) := h8
  clear h8
  go_wp2_with fail
  with_reducible refine (fi_ids H8.out HOK.out.2.2.2.2.1 (by decide)).mono ?_
  rintro e w9 ⟨v, L, rfl, hL, hown, hb9⟩
  obtain ⟨x, y, hu, hx, hy, hxi, hyi⟩ := aw7_ups m1 p1 q1 m2 p2 q2
  obtain rfl := ids_two hL hu (by unfold mlt; omega)
  obtain ⟨A, c, rfl, -, hrow⟩ := row_form hown
  obtain ⟨g, cs, rfl, hg, hbg, hcs⟩ := hrow (Nat.zero_lt_succ _)
  have hc0 := hcs 0 _ rfl
  unfold idVal at hc0
  rw [hyi] at hc0
  have H9 := Lib.hid (H8.out.next hb9)
  have HR := Lib.hid (And.intro hbg hc0)
  clear hL hown hb9 hu hx hy hxi hyi hrow hg hbg hcs hc0
  go_wp2_with fail
  with_reducible refine (fi_sleep 1 H9.out).mono ?_
  rintro e w10 ⟨rfl, h10, hs10⟩
  have H10 := Lib.hid (And.intro h10 (hs10 g _ cs (by decide) (by decide) (by decide) (by decide) HR.out.1))
  clear h10 hs10
  go_wp2_with fail
  with_reducible refine (fi_gain 1 256 H10.out.1 HOK.out.2.2.2.2.2 (by decide) (by decide)).mono ?_
  rintro e w11 ⟨rfl, h11, hs11⟩
  have c0 := (hs11 g _ cs (by decide) (by decide) (by decide) (by decide) H10.out.2).get 0 HR.out.2
  have H11 : Hid (FamIn w.heap.size w w11 f mb (aw9 m1 p1 q1 m2 p2 q2)) := h11
  clear h11 hs11
  go_wp2_with fail
  with_reducible refine (fi_v 2 H11.out).mono ?_
  rintro e wx ⟨rfl, rfl⟩
  rw [aw9_v2]
  go_wp2_with fail
  with_reducible refine (fi_mark H11.out).mono ?_
  rintro e wx ⟨rfl, rfl⟩
  rw [aw9_k]
  go_wp2_with fail
  with_reducible refine (fi_total 1 H11.out).mono ?_
  rintro e wx ⟨rfl, rfl⟩
  rw [aw9_t]
  go_wp2_with fail
  with_reducible refine (fi_v 1 H11.out).mono ?_
  rintro e wx ⟨rfl, rfl⟩
  rw [aw9_v1]
  go_wp2_with fail
  with_reducible refine (fi_awake 1 H11.out).mono ?_
  rintro e wx ⟨rfl, rfl⟩
  rw [aw9_u1]
  go_wp2_with fail
  with_reducible refine (fi_awake 2 H11.out).mono ?_
  rintro e wx ⟨rfl, rfl⟩
  rw [aw9_u2]
  go_wp2_with fail
  go_ret
  exact ⟨by simp, H11.out.below⟩

end Go.Proofs.YtjhffbhjiflfeaaGreat

/-!
  A family, plainly: virtual times don't fall, the mark is the greatest one, who wakes is between those awake; the acts as they come in.
-/
namespace Go.Proofs.YtjhffbhjiflfeaaGreat
set_option linter.unusedVariables false
set_option linter.unusedSimpArgs false
open Go.RowKit Go.Shelf

theorem vOf_set {y x : Mem} {Ms : List Mem} {id : Int} (hf : fnd id Ms = some x) (hy : y.id = id) : vOf id (setM y Ms) = y.v := by
  subst hy
  unfold vOf
  rw [fnd_set y hf]
theorem upOf_set {y x : Mem} {Ms : List Mem} {id : Int} (hf : fnd id Ms = some x) (hy : y.id = id) : upOf id (setM y Ms) = y.up := by
  subst hy
  unfold upOf
  rw [fnd_set y hf]
theorem vOf_some {x : Mem} {Ms : List Mem} {id : Int} (hf : fnd id Ms = some x) : vOf id Ms = x.v := by unfold vOf; rw [hf]
theorem vOf_none {Ms : List Mem} {id : Int} (hf : fnd id Ms = none) : vOf id Ms = 0 := by unfold vOf; rw [hf]
theorem upOf_some {x : Mem} {Ms : List Mem} {id : Int} (hf : fnd id Ms = some x) : upOf id Ms = x.up := by unfold upOf; rw [hf]
theorem upOf_none {Ms : List Mem} {id : Int} (hf : fnd id Ms = none) : upOf id Ms = false := by unfold upOf; rw [hf]
theorem FS.ok.vOf_le {N : Nat} {S : FS} (h : S.ok N) (id : Int) : 0 ≤ vOf id S.L ∧ vOf id S.L ≤ S.k := by
  cases hf : fnd id S.L with
  | none => rw [vOf_none hf]; exact ⟨Int.le_refl _, h.k0⟩
  | some x => rw [vOf_some hf]; have := h.mem x (fnd_mem hf).1; exact ⟨this.v0, this.v1⟩
/-- What is done leaves the mark the greatest there was, and no virtual time less. -/
def Fine (id : Int) (S S' : FS) : Prop := S'.k = max S.k (vOf id S'.L) ∧ vOf id S.L ≤ vOf id S'.L
theorem fine_same {N : Nat} {S : FS} (h : S.ok N) (id : Int) : Fine id S S := ⟨by have := h.vOf_le id; omega, Int.le_refl _⟩
theorem startV_ge (mark : Int) (A : List Mem) (v : Int) : v ≤ startV mark A v := by unfold startV; split <;> omega
theorem fine_wake {N : Nat} {S : FS} (h : S.ok N) (id : Int) : Fine id S (S.wake id) := by
  cases hf : fnd id S.L with
  | none => unfold FS.wake; rw [hf]; exact fine_same h id
  | some x =>
    have hid := (fnd_mem hf).2
    rcases Bool.eq_false_or_eq_true x.up with hu | hu
    · unfold FS.wake; rw [hf]; dsimp only; rw [if_pos hu]; exact fine_same h id
    · unfold FS.wake; rw [hf]; dsimp only; rw [if_neg (by rw [hu]; decide)]
      unfold Fine
      dsimp only
      rw [vOf_set (y := wokenM S.k S.L x) hf hid, vOf_some hf]
      exact ⟨rfl, startV_ge ..⟩
theorem fine_sleep {N : Nat} {S : FS} (h : S.ok N) (id : Int) : Fine id S (S.sleep id) := by
  cases hf : fnd id S.L with
  | none => unfold FS.sleep; rw [hf]; exact fine_same h id
  | some x =>
    have hid := (fnd_mem hf).2
    have hx := h.mem x (fnd_mem hf).1
    unfold FS.sleep; rw [hf]
    unfold Fine
    dsimp only
    rw [vOf_set (y := { x with up := false }) hf hid, vOf_some hf]
    exact ⟨by have := hx.v1; show S.k = max S.k x.v; omega, Int.le_refl _⟩
theorem gainT_ge {x : Mem} {g : Int} (h : x.T ≤ 4611686018427387904) (hg : 0 ≤ g) : x.T ≤ gainT x g := by unfold gainT; omega
theorem fine_gain {N : Nat} {S : FS} (h : S.ok N) (id : Int) {g : Int} (hg : Word g) : Fine id S (S.gain id g) := by
  cases hf : fnd id S.L with
  | none => unfold FS.gain; rw [hf]; exact fine_same h id
  | some x =>
    have hid := (fnd_mem hf).2
    have hx := h.mem x (fnd_mem hf).1
    rcases Bool.eq_false_or_eq_true x.up with hu | hu
    · unfold FS.gain; rw [hf]; dsimp only; rw [if_pos hu]
      unfold Fine
      dsimp only
      rw [vOf_set (y := { x with T := gainT x g, v := x.s.reach (gainT x g) }) hf hid, vOf_some hf]
      exact ⟨rfl, Int.le_trans (hx.reach hu) (RS.reach_mono hx.ok hx.t0 (gainT_ge hx.t1 hg.1))⟩
    · unfold FS.gain; rw [hf]; dsimp only; rw [if_neg (by rw [hu]; decide)]
      unfold Fine
      dsimp only
      rw [vOf_set (y := { x with T := gainT x g }) hf hid, vOf_some hf]
      exact ⟨by have := hx.v1; show S.k = max S.k x.v; omega, Int.le_refl _⟩
/-- Who has just come: nothing is his. -/
theorem fnd_app_new {id : Int} {y : Mem} (hy : y.id = id) : ∀ {Ms : List Mem}, fnd id Ms = none → fnd id (Ms ++ [y]) = some y
  | [], _ => by show (if y.id = id then some y else none) = some y; rw [if_pos hy]
  | x :: Ms, h => by
    unfold fnd at h
    split at h
    · cases h
    · rename_i hn
      show (if x.id = id then some x else fnd id (Ms ++ [y])) = some y
      rw [if_neg hn, fnd_app_new hy h]
theorem added_new {id F L R : Int} {S S' : FS} (h : Added id F L R S S') (ha : addR id F L R S = true) : vOf id S'.L = 0 ∧ tOf id S'.L = 0 ∧ upOf id S'.L = false := by
  rcases h with ⟨h1, -, m, p, q, rfl⟩ | ⟨h1, -⟩
  · have hn : fnd id S.L = none := by
      unfold addR at h1
      cases e : fnd id S.L with
      | none => rfl
      | some x => rw [e] at h1; cases h1
    have : fnd id (S.L ++ [newM id m p q F L R]) = some (newM id m p q F L R) := fnd_app_new (y := newM id m p q F L R) rfl hn
    unfold vOf tOf upOf FS.add
    dsimp only
    rw [this]
    exact ⟨rfl, rfl, rfl⟩
  · rw [ha] at h1; cases h1
theorem added_ok {N : Nat} {id F L R : Int} {S S' : FS} (h : Added id F L R S S') (ok : S.ok N) : S'.ok (N + 1) ∧ S'.k = S.k := by
  rcases h with ⟨-, hm, m, p, q, rfl⟩ | ⟨-, rfl⟩
  · exact ⟨ok.add id m p q hm, rfl⟩
  · exact ⟨ok.more (Nat.le_succ _), rfl⟩

/-! ### In order -/
theorem low_le : ∀ {D : List Mem} {x : Mem}, x ∈ D → lowOf D ≤ x.v ∧ x.v ≤ highOf D
  | y :: D, x, h => by
    show min (lowOf D) y.v ≤ x.v ∧ x.v ≤ max (highOf D) y.v
    rcases List.mem_cons.1 h with rfl | h
    · omega
    · have := low_le h; omega
theorem low_is : ∀ {D : List Mem}, (lowOf D = 9223372036854775808 ∨ ∃ x ∈ D, x.v = lowOf D) ∧ (highOf D = 0 ∨ ∃ x ∈ D, x.v = highOf D)
  | [] => ⟨Or.inl rfl, Or.inl rfl⟩
  | y :: D => by
    obtain ⟨h1, h2⟩ := low_is (D := D)
    constructor
    · show min (lowOf D) y.v = _ ∨ ∃ x ∈ y :: D, x.v = min (lowOf D) y.v
      rcases Int.le_total y.v (lowOf D) with h | h
      · exact Or.inr ⟨y, List.mem_cons_self .., by omega⟩
      · rcases h1 with h1 | ⟨x, hx, h1⟩
        · left; omega
        · exact Or.inr ⟨x, List.mem_cons_of_mem _ hx, by omega⟩
    · show max (highOf D) y.v = _ ∨ ∃ x ∈ y :: D, x.v = max (highOf D) y.v
      rcases Int.le_total (highOf D) y.v with h | h
      · exact Or.inr ⟨y, List.mem_cons_self .., by omega⟩
      · rcases h2 with h2 | ⟨x, hx, h2⟩
        · left; omega
        · exact Or.inr ⟨x, List.mem_cons_of_mem _ hx, by omega⟩
theorem ids_mem {Ms L : List Mem} (h : IdsOf Ms L) {x : Mem} (hx : x ∈ L) : x ∈ Ms ∧ x.up = true := List.mem_filter.1 (h.1.subset hx)
/-- The first one has the least, the last one the greatest. -/
theorem ids_first {Ms L : List Mem} (h : IdsOf Ms L) (hv : Vok Ms) {j : Nat} (hj : j < L.length) : (j = 0 → (L[j]).v = lowOf (ups Ms)) ∧ (j + 1 = L.length → (L[j]).v = highOf (ups Ms)) := by
  have hm : ∀ i (hi : i < L.length), lowOf (ups Ms) ≤ (L[i]).v ∧ (L[i]).v ≤ highOf (ups Ms) := fun i hi => low_le (h.1.subset (List.getElem_mem hi))
  have hb := fun i (hi : i < L.length) => hv _ (ids_mem h (List.getElem_mem hi)).1
  have hp := List.pairwise_iff_getElem.1 h.2
  have hin : ∀ x ∈ ups Ms, ∃ i, ∃ hi : i < L.length, L[i] = x := fun x hx => List.getElem_of_mem (h.1.symm.subset hx)
  constructor
  · rintro rfl
    have h0 := hm 0 hj
    rcases (low_is (D := ups Ms)).1 with e | ⟨x, hx, e⟩
    · have := hb 0 hj; omega
    · obtain ⟨i, hi, rfl⟩ := hin x hx
      rcases Nat.eq_zero_or_pos i with rfl | hpos
      · omega
      · have := hp 0 i hj hi hpos
        unfold mlt at this
        omega
  · intro hl
    have h0 := hm j hj
    rcases (low_is (D := ups Ms)).2 with e | ⟨x, hx, e⟩
    · have := hb j hj; omega
    · obtain ⟨i, hi, rfl⟩ := hin x hx
      by_cases e2 : i = j
      · subst e2; omega
      · have := hp i j hi hj (by omega)
        unfold mlt at this
        omega
/-- Who wakes. -/
theorem wake_tells {N : Nat} {S : FS} (h : S.ok N) {id : Int} {x : Mem} (hf : fnd id S.L = some x) (hu : x.up = false) :
    (ups S.L = [] → vOf id (S.wake id).L = max (vOf id S.L) S.k) ∧ (ups S.L ≠ [] → vOf id (S.wake id).L = vOf id S.L ∨ (lowOf (ups S.L) ≤ vOf id (S.wake id).L ∧ vOf id (S.wake id).L ≤ highOf (ups S.L))) := by
  have hid := (fnd_mem hf).2
  have e : vOf id (S.wake id).L = startV S.k (ups S.L) x.v := by
    unfold FS.wake; rw [hf]; dsimp only; rw [if_neg (by rw [hu]; decide)]
    exact vOf_set (y := wokenM S.k S.L x) hf hid
  rw [e, vOf_some hf]
  constructor
  · intro hn
    rw [hn]
    rfl
  · intro hn
    obtain ⟨y, hy⟩ := List.exists_mem_of_ne_nil _ hn
    have hb := low_le hy
    unfold startV
    rw [if_neg (by omega)]
    omega

/-! ### The acts -/
structure VActs (w : World) (A : Option Addr) (n : Nat) (K I F L R G : Nat → Int) : Prop where
  addr : 0 < n → ∃ b off, A = some ⟨b, off, none⟩ ∧ b < w.heap.size
  cells : ∀ b off, A = some ⟨b, off, none⟩ → ∀ i, i < n → w.cell? ⟨b, off + i * 6, none⟩ = some (.int .u8 (K i)) ∧ w.cell? ⟨b, off + i * 6 + 1, none⟩ = some (.int .i64 (I i)) ∧ w.cell? ⟨b, off + i * 6 + 2, none⟩ = some (.int .u64 (F i)) ∧
    w.cell? ⟨b, off + i * 6 + 3, none⟩ = some (.int .u64 (L i)) ∧ w.cell? ⟨b, off + i * 6 + 4, none⟩ = some (.int .u64 (R i)) ∧ w.cell? ⟨b, off + i * 6 + 5, none⟩ = some (.int .u64 (G i))
theorem VActs.below {w w' : World} {A : Option Addr} {n : Nat} {K I F L R G : Nat → Int} (h : VActs w A n K I F L R G) (hb : Below w.heap.size w w') : VActs w' A n K I F L R G := by
  refine ⟨fun hn => ?_, fun b off e i hi => ?_⟩
  · obtain ⟨b, off, e, hl⟩ := h.addr hn
    exact ⟨b, off, e, Nat.lt_of_lt_of_le hl hb.size⟩
  · obtain ⟨b', off', e', hl⟩ := h.addr (by omega)
    rw [e] at e'
    cases e'
    obtain ⟨h0, h1, h2, h3, h4, h5⟩ := h.cells b off e i hi
    have k : ∀ o, w'.cell? ⟨b, o, none⟩ = w.cell? ⟨b, o, none⟩ := fun o => World.cell?_of_block (hb.block b hl)
    exact ⟨(k _).trans h0, (k _).trans h1, (k _).trans h2, (k _).trans h3, (k _).trans h4, (k _).trans h5⟩

end Go.Proofs.YtjhffbhjiflfeaaGreat
