/-
  A sagging run: when it has so much.
-/
import Derived.Test.YtjhffbhjiflfeaaGreatSagB
import Derived.Test.YtjhffbhjiflfeaaGreatCurveE
import Derived.Test.YtjhffbhjiflfeaaGreatRatioAwake
namespace Go.Proofs.YtjhffbhjiflfeaaGreat
set_option linter.unusedVariables false
set_option linter.unusedSimpArgs false
set_option maxRecDepth 100000
open Go.RowKit Go.Shelf

theorem snone_any (q : Nat) (F L R n x : Int) (kv : Value) (b : Bool) (w : World) (h : IsSag w q F L R n x kv) (hb : (n == 0) = b) :
    Calls Tryz.prog 144 #[.pointer (some ⟨q, 0, none⟩)] w fun e w' => e = .returned (.bool b) ∧ w = w' := by
  have c4 : World.cell? w ⟨q, 4, none⟩ = some (.int .i64 n) := Blk.get h 4 rfl
  clear h
  go_enter Tryz.func144, Tryz.ntmps144
  go_wp2_with fail
  go_ret
  exact ⟨by simp, rfl⟩

/-- When the closure is asked. -/
theorem sneeds_any (bx q : Nat) (F L R n x m v : Int) (kv : Value) (w : World) (hc : w.cell? ⟨bx, 0, none⟩ = some (.pointer (some ⟨q, 0, none⟩))) (h : IsSag w q F L R n x kv) (my : May F L R) (wm : Word m) (hv : reachN F L R m = v) :
    Calls Tryz.prog 138 #[.int .u64 m, .pointer (some ⟨bx, 0, none⟩)] w fun e w' => e = .returned (.int .u64 v) ∧ Below w.heap.size w w' := by
  have c0 : World.cell? w ⟨q, 0, none⟩ = some (.int .u64 F) := Blk.get h 0 rfl
  have c1 : World.cell? w ⟨q, 1, none⟩ = some (.int .u64 L) := Blk.get h 1 rfl
  have c2 : World.cell? w ⟨q, 2, none⟩ = some (.int .u64 R) := Blk.get h 2 rfl
  have RV := Lib.hid (fun w => reach_val F L R m v w my wm hv)
  clear h my wm hv
  go_enter Tryz.func138, Tryz.ntmps138
  go_wp2_with fail
  with_reducible refine (RV.out _).mono ?_
  rintro e w1 ⟨rfl, hb1⟩
  have B1 : Below w.heap.size w w1 := by first | with_reducible exact hb1 | exact Below.trans (by go_grown) (hb1.mono (by simp only [World.size_alloc]; omega))
  clear hb1
  go_wp2_with fail
  go_ret
  exact ⟨by simp, B1⟩

theorem reach_word {F L R y : Int} (hm : May F L R) (hy : Word y) : Word (reachN F L R y) := by
  have := reach_bounds hm hy.1
  unfold Word
  omega
theorem minus_word {a b : Int} (ha : Word a) (hb : 0 ≤ b) : Word (minusN a b) := by
  unfold minusN stopN Word
  have h0 := ha.1
  have h1 := ha.2
  split
  · omega
  · split <;> omega

set_option maxHeartbeats 8000000 in
theorem slast_any (q : Nat) (F L R n x y : Int) (K : List (Int × Int)) (kv : Value) (w : World) (f : Nat) (cap : Array Value) (g : Int → Int) (hE : ∀ args w, (callFunc f args).run Tryz.prog w = .ok (.enter f args) w) (h : IsSag w q F L R n x kv) (hk : OwnK w 0 kv K) (ok : SagOk F L R n x K) (hn : n ≤ 1000000) (wy : Word y)
    (hg : ∀ (W : World) (m : Int), Below w.heap.size w W → Word m → Calls Tryz.prog f (#[.int .u64 m] ++ cap) W fun e w' => e = .returned (.int .u64 (g m)) ∧ Below W.heap.size W w') (hgw : ∀ m, Word m → Word (g m)) :
    Calls Tryz.prog 137 #[.pointer (some ⟨q, 0, none⟩), .int .u64 y, .func (.func f) #[] cap] w fun e w' =>
      e = .returned (.int .u64 (if n = 0 then (if y = 0 then 0 else 9223372036854775808) else if 4611686018427387904 < y then 9223372036854775808 else sGo (fun k => g (minusN y k.2)) K x)) ∧ Below w.heap.size w w' := by
  have c5 : World.cell? w ⟨q, 5, none⟩ = some (.int .u64 x) := Blk.get h 5 rfl
  have c6 : World.cell? w ⟨q, 6, none⟩ = some kv := Blk.get h 6 rfl
  obtain ⟨bn, hbn⟩ : ∃ b : Bool, (n == 0) = b := ⟨_, rfl⟩
  have NO := Lib.hid (fun W (hW : Below w.heap.size w W) => snone_any q F L R n x kv bn W (h.next hW) hbn)
  have n0 := ok.n0
  have HG := Lib.hid hg
  have HGW := Lib.hid hgw
  have HOK := Lib.hid ok
  have HWY := Lib.hid wy
  have HKN := Lib.hid (show K.length ≤ 1000000 by have := ok.len; omega)
  cases bn with
  | true =>
    obtain rfl : n = 0 := by simpa using hbn
    rw [if_pos rfl]
    clear hg hgw ok hk h wy n0
    by_cases hy : y = 0
    · subst hy
      rw [if_pos rfl]
      go_enter Tryz.func137, Tryz.ntmps137
      go_wp2_with fail
      with_reducible refine (NO.out w (Below.refl _ _)).mono ?_
      rintro e wx ⟨rfl, rfl⟩
      go_wp2_with fail
      go_ret
      exact ⟨by simp, Below.refl _ _⟩
    · rw [if_neg hy]
      have ey : (y == 0) = false := beq_eq_false_iff_ne.2 hy
      go_enter Tryz.func137, Tryz.ntmps137
      go_wp2_with fail
      with_reducible refine (NO.out w (Below.refl _ _)).mono ?_
      rintro e wx ⟨rfl, rfl⟩
      go_wp2_with fail
      with_reducible refine (NO.out w (Below.refl _ _)).mono ?_
      rintro e wx ⟨rfl, rfl⟩
      go_wp2_with fail
      go_ret
      exact ⟨by simp, Below.refl _ _⟩
  | false =>
    have hn0 : ¬ n = 0 := by simpa using hbn
    rw [if_neg hn0]
    by_cases hy : 4611686018427387904 < y
    · rw [if_pos hy]
      have ey : decide (4611686018427387904 < y) = true := decide_eq_true hy
      clear hg hgw ok hk h wy n0
      go_enter Tryz.func137, Tryz.ntmps137
      go_wp2_with fail
      with_reducible refine (NO.out w (Below.refl _ _)).mono ?_
      rintro e wx ⟨rfl, rfl⟩
      go_wp2_with fail
      with_reducible refine (NO.out w (Below.refl _ _)).mono ?_
      rintro e wx ⟨rfl, rfl⟩
      go_wp2_with fail
      go_ret
      exact ⟨by simp, Below.refl _ _⟩
    · rw [if_neg hy]
      have ey : decide (4611686018427387904 < y) = false := decide_eq_false hy
      obtain ⟨A, cc, rfl⟩ := hk.len
      have HK := Lib.hid hk
      clear hg hgw ok hk h wy n0 hn hbn hn0 hy
      go_enter Tryz.func137, Tryz.ntmps137
      go_wp2_with fail
      with_reducible refine (NO.out w (Below.refl _ _)).mono ?_
      rintro e wx ⟨rfl, rfl⟩
      go_wp2_with fail
      with_reducible refine (NO.out w (Below.refl _ _)).mono ?_
      rintro e wx ⟨rfl, rfl⟩
      go_wp2_with fail
      clear c5 c6 NO ey
      go_loopg [7, 34] K.length (fun gk av iv wr => ∃ (i : Nat) (a : Int), i + gk = K.length ∧ iv = .int .i64 i ∧ av = .int .u64 a ∧ sGo (fun k => g (minusN y k.2)) (K.drop i) a = sGo (fun k => g (minusN y k.2)) K x ∧ 0 ≤ a ∧ a ≤ 9223372036854775808 ∧ Below w.heap.size w wr)
      case atStart => exact ⟨0, x, by omega, rfl, rfl, rfl, HOK.out.x0, HOK.out.x1, Below.refl _ _⟩
      case round =>
        obtain ⟨i, a, hi, rfl, rfl, hgo, ha0, ha1, hb⟩ := hrel
        obtain ⟨wo, rfl⟩ : ∃ z : World, z = wr := ⟨_, rfl⟩
        by_cases hlt : i < K.length
        · obtain ⟨gm, rfl⟩ : ∃ z, gk = z + 1 := ⟨gk - 1, by omega⟩
          obtain ⟨k, hki⟩ : ∃ k, K[i]? = some k := ⟨K[i], List.getElem?_eq_getElem _⟩
          obtain ⟨kx, ky⟩ := k
          have kb := HOK.out.at' _ (List.mem_of_getElem? hki)
          obtain ⟨g2, c2, e1, -, -⟩ := HK.out.form (by intro e; rw [e] at hlt; cases hlt)
          injection e1 with eA eN ec
          subst eA ec
          obtain ⟨r0, r1⟩ := OwnK.cell (HK.out.next hb) hki
          have kb0 : 0 ≤ kx := kb.1
          have kb1 : kx ≤ 9223372036854775808 := Int.le_trans kb.2.1 HOK.out.x1
          have kb2 : 0 ≤ ky := kb.2.2.1
          have kb3 : ky ≤ 4611686018427387904 := kb.2.2.2
          have wm := minus_word HWY.out kb2
          obtain ⟨m, em⟩ : ∃ z, minusN y ky = z := ⟨_, rfl⟩
          have hdrop : K.drop i = (kx, ky) :: K.drop (i + 1) := by
            rw [List.drop_eq_getElem_cons hlt]
            rw [List.getElem?_eq_getElem hlt] at hki
            injection hki with hki
            rw [hki]
          rw [hdrop] at hgo
          have hgo2 : (if 9223372036854775808 - kx ≤ g m then 9223372036854775808 else sGo (fun k => g (minusN y k.2)) (K.drop (i + 1)) (max a (kx + g m))) = sGo (fun k => g (minusN y k.2)) K x := by rw [← em]; exact hgo
          rw [em] at wm
          have wg := HGW.out m wm
          have MI := Lib.hid (fun W => minus_val y ky m W HWY.out ⟨kb2, by omega⟩ em)
          have HGM := Lib.hid (fun W (hW : Below w.heap.size w W) => HG.out W m hW wm)
          obtain ⟨t, et⟩ : ∃ z, g m = z := ⟨_, rfl⟩
          rw [et] at HGM hgo2 wg
          have t0 := wg.1
          have t1 := wg.2
          have p0 : (0 : Int) ≤ (i : Int) := by omega
          have p1 : (i : Int) < (K.length : Int) := by omega
          have e8 : wrap64 ((i : Int) + 1) = ((i + 1 : Nat) : Int) := by have := HKN.out; unfold wrap64; omega
          have ed : IntKind.u64.wrap (9223372036854775808 - kx) = 9223372036854775808 - kx := by rw [IntKind.wrap_u64]; omega
          obtain ⟨wx, hwx⟩ : ∃ z, wo.alloc (.cells #[.int .u64 kx, .int .u64 ky] 192) = z := ⟨_, rfl⟩
          have bx : Blk wx wo.heap.size 192 #[.int .u64 kx, .int .u64 ky] := by rw [← hwx]; exact Blk.new _ _ _
          have hbx : Below wo.heap.size wo wx := by rw [← hwx]; go_grown
          have HWX := Lib.hid hwx
          have HBX := Lib.hid (below_next hb hbx)
          have HI := Lib.hid hi
          have hgo3 := Lib.hid hgo2
          clear hi hb hbx hwx hki kb hgo hgo2 hdrop wg kb2 kb3 wm hlt em et
          go_upto_region 9 with (fail)
          rw [HWX.out]
          clear r0 r1
          have x1 := bx.get 1 rfl
          go_wp2_with fail
          with_reducible refine (MI.out _).mono ?_
          rintro e wz ⟨rfl, rfl⟩
          go_wp2_with fail
          with_reducible refine (HGM.out _ HBX.out).mono ?_
          rintro e w2 ⟨rfl, hb2⟩
          have y0 := (bx.next hb2).get 0 rfl
          have HB2 := Lib.hid (below_next HBX.out hb2)
          clear x1 bx hb2
          by_cases hge : 9223372036854775808 - kx ≤ t
          · have eg : decide (9223372036854775808 - kx ≤ t) = true := decide_eq_true hge
            go_wp2_with fail
            go_ret
            have := hgo3.out
            rw [if_pos hge] at this
            rw [← this]
            exact ⟨by simp, HB2.out⟩
          · have eg : decide (9223372036854775808 - kx ≤ t) = false := decide_eq_false hge
            have es : IntKind.u64.wrap (kx + t) = kx + t := by rw [IntKind.wrap_u64]; omega
            have hgo4 := hgo3.out
            rw [if_neg hge] at hgo4
            have HG4 := Lib.hid hgo4
            clear hgo4 hge
            go_wp2_with fail
            go_roundg gm
            case rel => exact ⟨i + 1, max a (kx + t), by have := HI.out; omega, by first | rfl | go_num | (rw [e8]), by first | rfl | simp, HG4.out, by omega, by have := of_decide_eq_false eg; omega, HB2.out⟩
            case measure => omega
        · obtain rfl : gk = 0 := by omega
          obtain rfl : i = K.length := by omega
          rw [List.drop_length] at hgo
          have hgo : a = sGo (fun k => g (minusN y k.2)) K x := hgo
          have HGO := Lib.hid hgo
          have HB := Lib.hid hb
          clear hgo hb hlt hi
          go_wp2_with fail
          go_ret
          exact ⟨by first | (simp; done) | simp [HGO.out], HB.out⟩

set_option maxHeartbeats 2000000 in
theorem sreach_any (q : Nat) (F L R n x y : Int) (K : List (Int × Int)) (kv : Value) (w : World) (h : IsSag w q F L R n x kv) (hk : OwnK w 0 kv K) (ok : SagOk F L R n x K) (hn : n ≤ 1000000) (wy : Word y) :
    Calls Tryz.prog 134 #[.pointer (some ⟨q, 0, none⟩), .int .u64 y] w fun e w' => e = .returned (.int .u64 (sReach F L R n x K y)) ∧ Below w.heap.size w w' := by
  obtain ⟨wx, hwx⟩ : ∃ z, w.alloc (.cells #[.pointer (some ⟨q, 0, none⟩)] 99) = z := ⟨_, rfl⟩
  have bx : Blk wx w.heap.size 99 #[.pointer (some ⟨q, 0, none⟩)] := by rw [← hwx]; exact Blk.new _ _ _
  have hb : Below w.heap.size w wx := by rw [← hwx]; go_grown
  have hs : IsSag wx q F L R n x kv := h.next hb
  have hmf : ∀ (fn : Fn) (first cap : Array Value) (w : World), (Instr.makeFunc fn first cap).run Tryz.prog w = .ok (.func fn first cap) w := fun _ _ _ _ => rfl
  have LA : Hid (Calls Tryz.prog 137 #[.pointer (some ⟨q, 0, none⟩), .int .u64 y, .func (.func 138) #[] #[.pointer (some ⟨w.heap.size, 0, none⟩)]] wx fun e w' => e = .returned (.int .u64 (sReach F L R n x K y)) ∧ Below wx.heap.size wx w') := (slast_any q F L R n x y K kv wx 138 #[.pointer (some ⟨w.heap.size, 0, none⟩)] (fun m => reachN F L R m) (enters_of Tryz.func138 (by kernel_rfl) rfl) hs (hk.next hb) ok hn wy
    (fun W m hW wm => sneeds_any w.heap.size q F L R n x m _ kv W ((bx.next hW).get 0 rfl) (hs.next hW) ok.may wm rfl) (fun m wm => reach_word ok.may wm))
  obtain ⟨v, hv⟩ : ∃ z, sReach F L R n x K y = z := ⟨_, rfl⟩
  rw [hv] at LA ⊢
  have HWX := Lib.hid hwx
  have HB := Lib.hid hb
  have c0 : World.cell? wx ⟨w.heap.size, 0, none⟩ = some (.pointer (some ⟨q, 0, none⟩)) := bx.get 0 rfl
  clear h hk ok hn wy hwx hb hs bx hv
  go_enter Tryz.func134, Tryz.ntmps134
  go_upto_region 1 with (fail)
  rw [HWX.out]
  go_wp2_with fail
  with_reducible refine (LA.out).mono ?_
  rintro e w1 ⟨rfl, hb1⟩
  have HB1 := Lib.hid (below_next HB.out hb1)
  clear hb1
  go_wp2_with fail
  go_ret
  exact ⟨rfl, HB1.out⟩

end Go.Proofs.YtjhffbhjiflfeaaGreat
