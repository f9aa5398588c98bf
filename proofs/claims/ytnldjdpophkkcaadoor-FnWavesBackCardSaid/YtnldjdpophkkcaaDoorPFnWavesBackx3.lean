/- FnWavesBack: the law. Written by wip/barred/gen_wavesback.py. -/
import Derived.Test.YtnldjdpophkkcaaDoorPFnWavesBackx2
import Derived.Test.YtnldjdpophkkcaaDoorPFnExactWavesx16
import Derived.Test.YtnldjdpophkkcaaDoorWavesSum
import Derived.Test.YtnldjdpophkkcaaDoorWGuard
import Derived.Outline
import Derived.LoopN
import Derived.RegionTactic
import Derived.BigRegion
import Derived.Deep.QuietTactic
import Derived.BigQuiet
namespace Go.Proofs.YtnldjdpophkkcaaDoor.PFnWavesBack
open Go.RowKit Go.Proofs.YtnldjdpophkkcaaDoorW.PrintWords Go.Proofs.YtnldjdpophkkcaaDoorW.PrintLast Go.Proofs.YtnldjdpophkkcaaDoorW.PrintMore Go.Proofs.YtnldjdpophkkcaaDoor.Fl Go.Proofs.YtnldjdpophkkcaaDoor.PFnExactWaves Go.Proofs.YtnldjdpophkkcaaDoor.WavesPure
attribute [local go_sem] run_store_float
set_option linter.unusedVariables false
set_option linter.unusedSimpArgs false
attribute [local go_sem] max2_int min2_int max_two min_two max_three min_three max_four min_four
/-- Pairs of whole numbers as pairs of words. -/
def FP (ps : List (Int × Int)) : List (Nat × Nat) := ps.map fun p => (floatOfInt .f64 p.1, floatOfInt .f64 p.2)
theorem FP_length (ps : List (Int × Int)) : (FP ps).length = ps.length := by simp [FP]
theorem FP_snoc (ps : List (Int × Int)) (x y : Int) : FP (ps ++ [(x, y)]) = FP ps ++ [(floatOfInt .f64 x, floatOfInt .f64 y)] := by simp [FP]
theorem FP_at (ps : List (Int × Int)) (t : Nat) (ht : t < ps.length) : (FP ps).getD t (0, 0) = (floatOfInt .f64 (ps.getD t (0, 0)).1, floatOfInt .f64 (ps.getD t (0, 0)).2) := by simp [FP, ht]
def Bd (ps : List (Int × Int)) : Prop := ∀ t, (-1000 ≤ (ps.getD t (0, 0)).1 ∧ (ps.getD t (0, 0)).1 ≤ 1000) ∧ (-1000 ≤ (ps.getD t (0, 0)).2 ∧ (ps.getD t (0, 0)).2 ≤ 1000)
theorem snoc_getD (ps : List (Int × Int)) (p : Int × Int) (t : Nat) : (ps ++ [p]).getD t (0, 0) = if t < ps.length then ps.getD t (0, 0) else if t = ps.length then p else (0, 0) := by
  rw [List.getD_eq_getElem?_getD, List.getD_eq_getElem?_getD]
  rcases Nat.lt_trichotomy t ps.length with h | h | h
  · rw [List.getElem?_append_left h, if_pos h]
  · rw [List.getElem?_append_right (by omega), if_neg (by omega), if_pos h, show t - ps.length = 0 by omega]; rfl
  · rw [List.getElem?_append_right (by omega), if_neg (by omega), if_neg (by omega), List.getElem?_eq_none (by simp; omega)]; rfl
theorem Bd.nil : Bd [] := fun t => by simp
theorem Bd.snoc {ps : List (Int × Int)} (h : Bd ps) {x y : Int} (hx : -1000 ≤ x ∧ x ≤ 1000) (hy : -1000 ≤ y ∧ y ≤ 1000) : Bd (ps ++ [(x, y)]) := fun t => by
  rw [snoc_getD]
  split
  · exact h t
  · split
    · exact ⟨hx, hy⟩
    · simp
theorem su_congr {f g : Nat → Int} : ∀ k : Nat, (∀ t, t < k → f t = g t) → su f k = su g k
  | 0 => fun _ => rfl
  | k + 1 => fun h => by
    unfold su
    rw [su_congr k (fun t ht => h t (by omega)), h k (by omega)]
/-- The sums. -/
def S1 (ps : List (Int × Int)) : Int := su (fun t => (ps.getD t (0, 0)).1) ps.length
def S2' (ps : List (Int × Int)) : Int := su (fun t => (ps.getD t (0, 0)).2) ps.length
theorem S1_snoc (ps : List (Int × Int)) (x y : Int) : S1 (ps ++ [(x, y)]) = S1 ps + x := by
  unfold S1
  rw [List.length_append, List.length_singleton]
  show su _ ps.length + _ = _
  rw [su_congr (g := fun t => (ps.getD t (0, 0)).1) ps.length (fun t ht => by rw [snoc_getD, if_pos ht])]
  show _ + ((ps ++ [(x, y)]).getD ps.length (0, 0)).1 = _
  rw [snoc_getD, if_neg (by omega), if_pos rfl]
theorem S2_snoc (ps : List (Int × Int)) (x y : Int) : S2' (ps ++ [(x, y)]) = S2' ps + y := by
  unfold S2'
  rw [List.length_append, List.length_singleton]
  show su _ ps.length + _ = _
  rw [su_congr (g := fun t => (ps.getD t (0, 0)).2) ps.length (fun t ht => by rw [snoc_getD, if_pos ht])]
  show _ + ((ps ++ [(x, y)]).getD ps.length (0, 0)).2 = _
  rw [snoc_getD, if_neg (by omega), if_pos rfl]
theorem S_bd {ps : List (Int × Int)} (h : Bd ps) : (-(1000 * (ps.length : Int)) ≤ S1 ps ∧ S1 ps ≤ 1000 * (ps.length : Int)) ∧ (-(1000 * (ps.length : Int)) ≤ S2' ps ∧ S2' ps ≤ 1000 * (ps.length : Int)) :=
  ⟨su_bd _ (fun t => (h t).1) _, su_bd _ (fun t => (h t).2) _⟩
/-- What the law asks of the waves. -/
def WOk (n : Nat) (ps : List (Int × Int)) (ws : List (Nat × Nat)) : Prop := (Rp (ws.getD 0 (0, 0)).1 (S1 ps) ∧ Rp (ws.getD 0 (0, 0)).2 (S2' ps)) ∧
    ∀ bs, SP bs (wvs true ws) → bs.length = n ∧ ∀ i, i < n → (∀ r, Same r (fo .sub (bs.getD i (0, 0)).1 (floatOfInt .f64 (ps.getD i (0, 0)).1)) → (FloatKind.f64.format.order r 4517329193108106637 == some .gt) = false ∧ (FloatKind.f64.format.order r 13740701229962882445 == some .lt) = false) ∧
      (∀ r, Same r (fo .sub (bs.getD i (0, 0)).2 (floatOfInt .f64 (ps.getD i (0, 0)).2)) → (FloatKind.f64.format.order r 4517329193108106637 == some .gt) = false ∧ (FloatKind.f64.format.order r 13740701229962882445 == some .lt) = false)
theorem waves_ok (n : Nat) (hn : n = 1 ∨ n = 2 ∨ n = 4 ∨ n = 8) (ps : List (Int × Int)) (hl : ps.length = n) (hb : Bd ps) (ws : List (Nat × Nat)) (hws : SP ws (trn false (FP ps))) : ws.length = n ∧ WOk n ps ws := by
  have h := all_ok n hn (FP ps) (by rw [FP_length, hl]) (fun t => (ps.getD t (0, 0)).1) (fun t => (ps.getD t (0, 0)).2) (fun t => (hb t).1) (fun t => (hb t).2) (fun t ht => FP_at ps t (by omega)) ws hws
  refine ⟨h.1, ⟨?_, h.2.2⟩⟩
  unfold S1 S2'
  rw [hl]
  exact h.2.1
theorem ne_next {gs : Nat} {v v1 : Value} {W : World} (hne : some gs ≠ v.ownBlock) (hlt : gs < W.heap.size) (hat : v1.ownBlock = v.ownBlock ∨ ∃ b, v1.ownBlock = some b ∧ W.heap.size ≤ b) : some gs ≠ v1.ownBlock := by
  rcases hat with h | ⟨b, h, hb⟩
  · rw [h]; exact hne
  · rw [h]
    intro e
    have h2 := Option.some.inj e
    omega
theorem run_eq_floatD (d x y : Nat) (h : FloatKind.f64.format.order x y = some .eq) (w : World) : (Op.equalIn (d + 1) 26 (.float .f64 x) (.float .f64 y)).run Tryd.prog w = .ok true w := by
  have e : Op.floatEq .f64 x y = true := by unfold Op.floatEq; rw [h]; rfl
  simp [Op.equalIn, run_underlying Tryd.underlying26, e]
theorem run_eq_float (x y : Nat) (h : FloatKind.f64.format.order x y = some .eq) (w : World) : (Op.equalIn 9999 26 (.float .f64 x) (.float .f64 y)).run Tryd.prog w = .ok true w := run_eq_floatD 9998 x y h w
theorem pow_cases {p : Nat} (h : p ≤ 3) : 2 ^ p = 1 ∨ 2 ^ p = 2 ∨ 2 ^ p = 4 ∨ 2 ^ p = 8 := by
  have : p = 0 ∨ p = 1 ∨ p = 2 ∨ p = 3 := by omega
  rcases this with rfl | rfl | rfl | rfl <;> simp
theorem nn_le {nn kk p : Nat} (h : nn * 2 ^ kk = 2 ^ p) (hp : p ≤ 3) : nn ≤ 8 := by
  have h1 := pow_cases hp
  have h2 : nn * 1 ≤ nn * 2 ^ kk := Nat.mul_le_mul_left _ (Nat.two_pow_pos kk)
  omega
/-- What the law comes to: true, where the code's numbers are bytes. -/
def laws_FnWavesBack.f (l0 : List Int) : Option Bool := if (∀ x ∈ l0, 0 ≤ x ∧ x ≤ 255) then some true else none
set_option maxHeartbeats 8000000 in
set_option maxRecDepth 100000 in
theorem core (A0 : Option Addr) (c0 : Nat) (l0 : List Int) (w : World) (hr0 : Aside0 (Kd.C (Kd.int .u8) w A0 l0.length l0)) (hc0 : Aside0 (l0.length ≤ c0)) (hm : Aside0 (Mx w)) (hby : Bytes l0) :
    Calls Tryd.prog 3 #[.slice A0 l0.length c0] w fun e w' => e = .returned (.bool true) ∧ Below w.heap.size w w' := by
  have hu2 := Tryd.underlying2
  have hu3 := Tryd.underlying3
  have hu5 := Tryd.underlying5
  have hu22 := Tryd.underlying22
  have hu25 := Tryd.underlying25
  have hu26 := Tryd.underlying26
  have hu28 := Tryd.underlying28
  have HB := Aside0.mk (Below.refl w.heap.size w)
  by_cases q : 4096 < l0.length
  · have hbig : laws_big.f l0 = some true := by simp only [laws_big.f, Option.some.injEq, decide_eq_true_eq]; omega
    have HBIG := Aside0.mk hbig
    clear hbig
    go_enter Tryd.func3, Tryd.ntmps3
    go_wp2_with (first | ((with_reducible refine gate_dst (N := 15) rfl ?_); refine goesL_ (some 15) rfl rfl Tryd.func6 (by kernel_rfl) rfl #[.slice A0 l0.length c0] rfl (by (try simp only [List.map_toArray, List.map_cons, List.map_nil]); first | done | rfl) ?_; (with_reducible refine (laws_big.calls A0 c0 l0 true _ hr0.out hc0.out HBIG.out).mono ?_); rintro e W1 ⟨rfl, hD⟩; refine ⟨_, rfl, ?_⟩; have hb := hD.below; replace HB := Aside0.mk (below_step HB.out hb); clear hb hD))
    go_ret
    exact ⟨rfl, HB.out⟩
  have hbig : laws_big.f l0 = some false := by simp only [laws_big.f, Option.some.injEq, decide_eq_false_iff_not]; omega
  have HBIG := Aside0.mk hbig
  have hq : Aside0 (l0.length ≤ 4096) := ⟨by omega⟩
  clear hbig
  obtain ⟨k1, p, hp4, hk1⟩ := pick_some l0 4 (by omega) hby (by omega)
  have HK1 := Aside0.mk hk1
  have HBY := Aside0.mk hby
  have HP4 : Aside0 (p ≤ 3) := ⟨by omega⟩
  clear q hk1 hby hp4
  go_enter Tryd.func3, Tryd.ntmps3
  go_wp2_with (first | ((with_reducible refine gate_dst (N := 15) rfl ?_); refine goesL_ (some 15) rfl rfl Tryd.func6 (by kernel_rfl) rfl #[.slice A0 l0.length c0] rfl (by (try simp only [List.map_toArray, List.map_cons, List.map_nil]); first | done | rfl) ?_; (with_reducible refine (laws_big.calls A0 c0 l0 false _ hr0.out hc0.out HBIG.out).mono ?_); rintro e W1 ⟨rfl, hD⟩; refine ⟨_, rfl, ?_⟩; have hb := hD.below; replace HB := Aside0.mk (below_step HB.out hb); clear hb hD) | ((with_reducible refine gate_dst (N := 17) rfl ?_); refine goesL_ (some 17) rfl rfl Tryd.func7 (by kernel_rfl) rfl #[.slice A0 l0.length c0, .int .i64 4] rfl (by (try simp only [List.map_toArray, List.map_cons, List.map_nil]); first | done | rfl) ?_; (with_reducible refine (laws_pick.calls k1 A0 c0 l0 4 (p : Int) _ (Kd.C_below hr0.out HB.out) hc0.out HK1.out).mono ?_); rintro e W1 ⟨rfl, hD⟩; refine ⟨_, rfl, ?_⟩; have hb := hD.below; replace HB := Aside0.mk (below_step HB.out hb); clear hb hD))
  go_loopg [3, 4] p (fun kq v3 v4 w' => ∃ (nn kk : Nat), v3 = .int .i64 (nn : Int) ∧ v4 = .int .i64 (kk : Int) ∧ Aside0 (kk = kq) ∧ Aside0 (nn * 2 ^ kk = 2 ^ p) ∧ Aside0 (Below w.heap.size w w'))
  case atStart => exact ⟨1, p, rfl, rfl, ⟨rfl⟩, ⟨by rw [Nat.one_mul]⟩, HB⟩
  case round =>
    clear HB
    obtain ⟨nn, kk, rfl, rfl, HKQ, HNN, HB⟩ := hrel
    have hn8 : nn ≤ 8 := nn_le HNN.out HP4.out
    by_cases hkk : 0 < kk
    · have hgt : decide (0 < kk) = true := decide_eq_true hkk
      have hgt2 : decide ((0 : Int) < (kk : Int)) = true := decide_eq_true (by omega)
      have hk3 : Aside0 (0 < kk) := ⟨hkk⟩
      have hkb : kk ≤ 1000 := by
        have h1 := HNN.out
        have h2 := pow_cases HP4.out
        rcases Nat.lt_or_ge kk 4 with h | h
        · omega
        · exfalso
          have h3 : 2 ^ 4 ≤ 2 ^ kk := Nat.pow_le_pow_right (by omega) h
          rcases Nat.eq_zero_or_pos nn with e | e
          · rw [e, Nat.zero_mul] at h1; omega
          · have h4 : 1 * 2 ^ kk ≤ nn * 2 ^ kk := Nat.mul_le_mul_right _ e
            omega
      go_wp2
      go_roundg (gk - 1)
      case measure => have := HKQ.out; have := hk3.out; omega
      case rel => exact ⟨2 * nn, kk - 1, by first | rfl | simp, by first | rfl | (congr 1; have := hk3.out; omega), ⟨by have := HKQ.out; omega⟩, ⟨by
        have h1 := HNN.out
        have h2 : kk = (kk - 1) + 1 := by have := hk3.out; omega
        rw [h2, Nat.pow_succ] at h1
        rw [← h1, Nat.mul_comm 2 nn, Nat.mul_assoc, Nat.mul_comm 2]⟩, HB⟩
    · have hgt : decide (0 < kk) = false := decide_eq_false hkk
      have hgt2 : decide ((0 : Int) < (kk : Int)) = false := decide_eq_false (by omega)
      have HN4 : Aside0 (nn = 1 ∨ nn = 2 ∨ nn = 4 ∨ nn = 8) := ⟨by
        have h1 := HNN.out
        rw [show kk = 0 by omega, Nat.pow_zero, Nat.mul_one] at h1
        rw [h1]
        exact pow_cases HP4.out⟩
      have hn1 : 1 ≤ nn := by have := HN4.out; omega
      clear HKQ HNN HK1 HP4
      go_wp2
      have HO : Aside0 ((wr.alloc (.cells #[] 28)).ownsRow w.heap.size 28 2 (.slice (some ⟨wr.heap.size, 0, none⟩) 0 0) 0 (VF (flat (FP [])))) := ⟨by simpa [VF, flat, FP] using World.ownsRow_lit (base := w.heap.size) (e := 28) (size := 2) wr #[] 0 HB.out.size (by decide) rfl⟩
      have BX : Aside0 (((wr.alloc (.cells #[] 28)).alloc (.cells #[.float .f64 0, .float .f64 0] 28)).heap[wr.heap.size + 1]? = some (.cells #[.float .f64 0, .float .f64 0] 28 (0, 0))) := ⟨by simpa using blk_new (wr.alloc (.cells #[] 28)) (.cells #[.float .f64 0, .float .f64 0] 28)⟩
      have LG : Aside0 (w.heap.size ≤ wr.heap.size + 1) := ⟨by have := HB.out.size; omega⟩
      have NE : Aside0 (some (wr.heap.size + 1) ≠ (Value.slice (some ⟨wr.heap.size, 0, none⟩) 0 0).ownBlock) := ⟨by simp [Value.ownBlock]⟩
      replace HO := Aside0.mk (own_alloc HO.out (.cells #[.float .f64 0, .float .f64 0] 28))
      replace HB := Aside0.mk (below_alloc (below_alloc HB.out (.cells #[] 28)) (.cells #[.float .f64 0, .float .f64 0] 28))
      generalize (wr.alloc (.cells #[] 28)).alloc (.cells #[.float .f64 0, .float .f64 0] 28) = V at BX HO HB ⊢
      generalize wr.heap.size + 1 = gs at BX LG NE ⊢
      go_loopg [5, 7] nn (fun kq v5 v7 w' => ∃ (i : Nat) (ps : List (Int × Int)) (s1 s2 : Nat), v7 = .int .i64 (i : Int) ∧ Aside0 (i + kq = nn ∧ ps.length = i ∧ Bd ps) ∧ Aside0 (w'.heap[gs]? = some (.cells #[.float .f64 s1, .float .f64 s2] 28 (0, 0))) ∧ Aside0 (Rp s1 (S1 ps) ∧ Rp s2 (S2' ps)) ∧ Aside0 (some gs ≠ v5.ownBlock) ∧ Aside0 (w'.ownsRow w.heap.size 28 2 v5 i (VF (flat (FP ps)))) ∧ Aside0 (Below w.heap.size w w'))
      case atStart => exact ⟨0, [], 0, 0, rfl, ⟨by omega, rfl, Bd.nil⟩, BX, ⟨zero_Rp, zero_Rp⟩, NE, HO, HB⟩
      case round =>
        clear HB HO BX NE
        obtain ⟨i, ps, s1, s2, rfl, HK, BX, HSS, NE, HO, HB⟩ := hrel
        by_cases hi : i < nn
        case neg =>
          have e : i = nn := by have := HK.out; omega
          have hlt : decide (i < nn) = false := decide_eq_false hi
          have HF : Aside0 (∃ B c, u5 = .slice B nn c ∧ Row wr w.heap.size B nn 28 (flat (FP ps))) := ⟨by have h1 := HO.out; rw [e] at h1; exact Row.of_own h1⟩
          have HPL : Aside0 (ps.length = nn ∧ Bd ps) := ⟨by rw [HK.out.2.1, e], HK.out.2.2⟩
          clear e HK HO hi
          obtain ⟨B, c, rfl, h2⟩ := HF.out
          have RX : Aside0 (RC wr B (FP ps)) := ⟨RC.of_row h2 (by rw [FP_length, HPL.out.1])⟩
          clear HF h2 NE
          have HWV : Aside0 (∀ W : World, RC W B (FP ps) → Mx W → Calls Tryd.prog 8 #[.slice B nn c] W fun e w' => ∃ B2 c2 ws, e = .returned (.slice B2 nn c2) ∧ RC w' B2 ws ∧ (ws.length = nn ∧ WOk nn ps ws) ∧ Below W.heap.size W w') := ⟨fun W h1 h2 => by
            have h := impl_Waves.calls B c (FP ps) W ⟨h1⟩ ⟨h2⟩
            rw [FP_length, HPL.out.1] at h
            refine h.mono ?_
            rintro e w' ⟨B2, c2, ws, rfl, hr, hs, hb⟩
            have ok := waves_ok nn HN4.out ps HPL.out.1 HPL.out.2 ws hs
            exact ⟨B2, c2, ws, by rw [ok.1], RC.of_row hr rfl, ok, hb⟩⟩
          have HBK : Aside0 (∀ (W : World) (B2 : Option Addr) (c2 : Nat) (ws : List (Nat × Nat)), ws.length = nn → WOk nn ps ws → RC W B2 ws → Mx W → Calls Tryd.prog 9 #[.slice B2 nn c2] W fun e w' => ∃ B3 c3 bs, e = .returned (.slice B3 nn c3) ∧ RC w' B3 bs ∧ (bs.length = nn ∧ SP bs (wvs true ws)) ∧ Below W.heap.size W w') := ⟨fun W B2 c2 ws h0 h1 h2 h3 => by
            have h := impl_Back.calls B2 c2 ws W ⟨h2⟩ ⟨h3⟩
            rw [h0] at h
            refine h.mono ?_
            rintro e w' ⟨B3, c3, bs, rfl, hr, hs, hb⟩
            have hl := (h1.2 bs hs).1
            exact ⟨B3, c3, bs, by rw [hl], RC.of_row hr rfl, ⟨hl, hs⟩, hb⟩⟩
          go_upto_region 18 with (first | ((with_reducible refine gate_dst (N := 64) rfl ?_); refine goesL_ (some 64) rfl rfl Tryd.func8 (by kernel_rfl) rfl #[.slice B nn c] rfl (by (try simp only [List.map_toArray, List.map_cons, List.map_nil]); first | done | rfl) ?_; (with_reducible refine (HWV.out _ RX.out (hm.out.below HB.out)).mono ?_); rintro e W1 ⟨B2, c2, ws, rfl, hR, hok, hb⟩; refine ⟨_, rfl, ?_⟩; have RW := Aside0.mk hR; have WO := Aside0.mk hok; replace RX := Aside0.mk (RX.out.below hb); replace BX := Aside0.mk (blk_below BX.out hb); replace HB := Aside0.mk (below_step HB.out hb); clear hR hok hb) | ((with_reducible refine gate_dst (N := 66) rfl ?_); refine goesL_ (some 66) rfl rfl Tryd.func9 (by kernel_rfl) rfl #[.slice B2 nn c2] rfl (by (try simp only [List.map_toArray, List.map_cons, List.map_nil]); first | done | rfl) ?_; (with_reducible refine (HBK.out _ B2 c2 ws WO.out.1 WO.out.2 RW.out (hm.out.below HB.out)).mono ?_); rintro e W1 ⟨B3, c3, bs, rfl, hR, hok, hb⟩; refine ⟨_, rfl, ?_⟩; have RB := Aside0.mk hR; have BO := Aside0.mk hok; replace RW := Aside0.mk (RW.out.below hb); replace RX := Aside0.mk (RX.out.below hb); replace BX := Aside0.mk (blk_below BX.out hb); replace HB := Aside0.mk (below_step HB.out hb); clear hR hok hb))
          obtain ⟨ad2, ea2, w0, w1⟩ := RW.out 0 (by rw [WO.out.1]; omega)
          cases ea2
          have hq1 := Rp.eq_order WO.out.2.1.1 HSS.out.1
          have hq2 := Rp.eq_order WO.out.2.1.2 HSS.out.2
          generalize (ws.getD 0 (0, 0)).1 = z1 at w0 hq1
          generalize (ws.getD 0 (0, 0)).2 = z2 at w1 hq2
          have eq1 := run_eq_float z1 s1 hq1
          have eq2 := run_eq_float z2 s2 hq2
          have b0 : W1.cell? ⟨gs, 0, none⟩ = some (.float .f64 s1) := (blk_cell BX.out 0).trans rfl
          have b1 : W1.cell? ⟨gs, 1, none⟩ = some (.float .f64 s2) := (blk_cell BX.out 1).trans rfl
          have nn0 : (0 < nn) = True := eq_true (by omega)
          have w0' : W1.cell? ad2 = some (.float .f64 z1) := w0
          have w1' : W1.cell? ⟨ad2.block, ad2.off + 1, none⟩ = some (.float .f64 z2) := w1
          clear w0 w1
          refine start_ (n := 17) (S := fun w' => w'.cell? ad2 = some (.float .f64 z1) ∧ w'.cell? ⟨ad2.block, ad2.off + 1, none⟩ = some (.float .f64 z2) ∧ w'.cell? ⟨gs, 0, none⟩ = some (.float .f64 s1) ∧ w'.cell? ⟨gs, 1, none⟩ = some (.float .f64 s2)) (ds := []) #[false, false, false, false, false, false, false, false, false, false, false, false, false, false, false, false, false] (by kernel_rfl) rfl rfl ⟨w0', w1', b0, b1⟩ (fun hHeld => ?_)
          clear w0' w1' b0 b1
          replace RX := Aside0.mk (RX.out.below (below_drew1 (Below.refl _ _)))
          replace RB := Aside0.mk (RB.out.below (below_drew1 (Below.refl _ _)))
          replace HB := Aside0.mk (below_drew1 HB.out)
          clear RW BX
          generalize World.drew _ = V2 at hHeld RX RB HB ⊢
          refine pure_ (i := 0) (N := some 67) (v := ?_) (a' := ?_) #[true, false, false, false, false, false, false, false, false, false, false, false, false, false, false, false, false] rfl rfl (by kernel_rfl) (fun _ _ _ h => h) (Or.inl ⟨by rfl, ?_⟩) ?_ ?_
          rotate_left
          · intro w'
            go_simp
            with_reducible rfl
          rotate_left
          · simp only [Act.put, List.setIfInBounds_toArray, List.set_cons_zero, List.set_cons_succ, i64_w, i32_w]
            rfl
          refine pure_ (i := 1) (N := some 68) (v := ?_) (a' := ?_) #[true, true, false, false, false, false, false, false, false, false, false, false, false, false, false, false, false] rfl rfl (by kernel_rfl) (fun _ _ _ h => h) (Or.inl ⟨by rfl, ?_⟩) ?_ ?_
          rotate_left
          · intro w'
            go_simp
            with_reducible rfl
          rotate_left
          · simp only [Act.put, List.setIfInBounds_toArray, List.set_cons_zero, List.set_cons_succ, i64_w, i32_w]
            rfl
          refine pure_ (i := 2) (N := some 69) (v := ?_) (a' := ?_) #[true, true, true, false, false, false, false, false, false, false, false, false, false, false, false, false, false] rfl rfl (by kernel_rfl) (fun _ _ _ h => h) (Or.inl ⟨by rfl, ?_⟩) ?_ ?_
          rotate_left
          · intro w'
            go_simp
            with_reducible rfl
          rotate_left
          · simp only [Act.put, List.setIfInBounds_toArray, List.set_cons_zero, List.set_cons_succ, i64_w, i32_w]
            rfl
          refine pure_ (i := 3) (N := some 70) (v := ?_) (a' := ?_) #[true, true, true, true, false, false, false, false, false, false, false, false, false, false, false, false, false] rfl rfl (by kernel_rfl) (fun _ _ _ h => h) (Or.inl ⟨by rfl, ?_⟩) ?_ ?_
          rotate_left
          · intro w'
            go_simp
            with_reducible rfl
          rotate_left
          · simp only [Act.put, List.setIfInBounds_toArray, List.set_cons_zero, List.set_cons_succ, i64_w, i32_w]
            rfl
          refine pure_ (i := 4) (N := some 71) (v := ?_) (a' := ?_) #[true, true, true, true, true, false, false, false, false, false, false, false, false, false, false, false, false] rfl rfl (by kernel_rfl) (fun _ _ _ h => h) (Or.inl ⟨by rfl, ?_⟩) ?_ ?_
          rotate_left
          · intro w'
            go_simp
            with_reducible rfl
          rotate_left
          · simp only [Act.put, List.setIfInBounds_toArray, List.set_cons_zero, List.set_cons_succ, i64_w, i32_w]
            rfl
          refine pure_ (i := 5) (N := some 72) (v := ?_) (a' := ?_) #[true, true, true, true, true, true, false, false, false, false, false, false, false, false, false, false, false] rfl rfl (by kernel_rfl) (fun _ _ _ h => h) (Or.inl ⟨by rfl, ?_⟩) ?_ ?_
          rotate_left
          · intro w'
            go_simp
            with_reducible rfl
          rotate_left
          · simp only [Act.put, List.setIfInBounds_toArray, List.set_cons_zero, List.set_cons_succ, i64_w, i32_w]
            rfl
          refine pure_ (i := 6) (N := some 73) (v := ?_) (a' := ?_) #[true, true, true, true, true, true, true, false, false, false, false, false, false, false, false, false, false] rfl rfl (by kernel_rfl) (fun _ _ _ h => h) (Or.inl ⟨by rfl, ?_⟩) ?_ ?_
          rotate_left
          · intro w'
            go_simp
            with_reducible rfl
          rotate_left
          · simp only [Act.put, List.setIfInBounds_toArray, List.set_cons_zero, List.set_cons_succ, i64_w, i32_w]
            rfl
          refine pure_ (i := 7) (N := some 74) (v := ?_) (a' := ?_) #[true, true, true, true, true, true, true, true, false, false, false, false, false, false, false, false, false] rfl rfl (by kernel_rfl) (fun _ _ _ h => h) (Or.inl ⟨by rfl, ?_⟩) ?_ ?_
          rotate_left
          · intro w'
            go_simp
            with_reducible rfl
          rotate_left
          · simp only [Act.put, List.setIfInBounds_toArray, List.set_cons_zero, List.set_cons_succ, i64_w, i32_w]
            rfl
          refine pure_ (i := 8) (N := some 75) (v := ?_) (a' := ?_) #[true, true, true, true, true, true, true, true, true, false, false, false, false, false, false, false, false] rfl rfl (by kernel_rfl) (fun _ _ _ h => h) (Or.inl ⟨by rfl, ?_⟩) ?_ ?_
          rotate_left
          · intro w'
            go_simp
            with_reducible rfl
          rotate_left
          · simp only [Act.put, List.setIfInBounds_toArray, List.set_cons_zero, List.set_cons_succ, i64_w, i32_w]
            rfl
          refine pure_ (i := 9) (N := some 76) (v := ?_) (a' := ?_) #[true, true, true, true, true, true, true, true, true, true, false, false, false, false, false, false, false] rfl rfl (by kernel_rfl) (fun _ _ _ h => h) (Or.inl ⟨by rfl, ?_⟩) ?_ ?_
          rotate_left
          · intro w'
            go_simp
            with_reducible rfl
          rotate_left
          · simp only [Act.put, List.setIfInBounds_toArray, List.set_cons_zero, List.set_cons_succ, i64_w, i32_w]
            rfl
          refine pure_ (i := 10) (N := some 77) (v := ?_) (a' := ?_) #[true, true, true, true, true, true, true, true, true, true, true, false, false, false, false, false, false] rfl rfl (by kernel_rfl) (fun _ _ _ h => h) (Or.inl ⟨by rfl, ?_⟩) ?_ ?_
          rotate_left
          · intro w'
            go_simp
            with_reducible rfl
          rotate_left
          · simp only [Act.put, List.setIfInBounds_toArray, List.set_cons_zero, List.set_cons_succ, i64_w, i32_w]
            rfl
          refine pure_ (i := 11) (N := some 78) (v := ?_) (a' := ?_) #[true, true, true, true, true, true, true, true, true, true, true, true, false, false, false, false, false] rfl rfl (by kernel_rfl) (fun _ _ _ h => h) (Or.inl ⟨by rfl, ?_⟩) ?_ ?_
          rotate_left
          · intro w'
            go_simp
            with_reducible rfl
          rotate_left
          · simp only [Act.put, List.setIfInBounds_toArray, List.set_cons_zero, List.set_cons_succ, i64_w, i32_w]
            rfl
          refine pure_ (i := 12) (N := some 79) (v := ?_) (a' := ?_) #[true, true, true, true, true, true, true, true, true, true, true, true, true, false, false, false, false] rfl rfl (by kernel_rfl) (fun _ _ _ h => h) (Or.inl ⟨by rfl, ?_⟩) ?_ ?_
          rotate_left
          · intro w'
            go_simp
            with_reducible rfl
          rotate_left
          · simp only [Act.put, List.setIfInBounds_toArray, List.set_cons_zero, List.set_cons_succ, i64_w, i32_w]
            rfl
          refine take_ (i := 13) (N := some 80) (v := ?_) (a' := ?_) #[true, true, true, true, true, true, true, true, true, true, true, true, true, true, false, false, false] rfl rfl (by kernel_rfl) (fun _ _ _ h => h) (Or.inl ⟨by rfl, ?_⟩) hHeld ?_ ?_
          rotate_left
          · rintro w' ⟨s0, s1, s2, s3⟩
            go_simp
            with_reducible rfl
          rotate_left
          · simp only [Act.put, List.setIfInBounds_toArray, List.set_cons_zero, List.set_cons_succ, i64_w, i32_w]
            rfl
          refine take_ (i := 14) (N := some 81) (v := ?_) (a' := ?_) #[true, true, true, true, true, true, true, true, true, true, true, true, true, true, true, false, false] rfl rfl (by kernel_rfl) (fun _ _ _ h => h) (Or.inl ⟨by rfl, ?_⟩) hHeld ?_ ?_
          rotate_left
          · rintro w' ⟨s0, s1, s2, s3⟩
            go_simp
            with_reducible rfl
          rotate_left
          · simp only [Act.put, List.setIfInBounds_toArray, List.set_cons_zero, List.set_cons_succ, i64_w, i32_w]
            rfl
          refine pure_ (i := 15) (N := some 82) (v := ?_) (a' := ?_) #[true, true, true, true, true, true, true, true, true, true, true, true, true, true, true, true, false] rfl rfl (by kernel_rfl) (fun _ _ _ h => h) (Or.inl ⟨by rfl, ?_⟩) ?_ ?_
          rotate_left
          · intro w'
            go_simp
            with_reducible rfl
          rotate_left
          · simp only [Act.put, List.setIfInBounds_toArray, List.set_cons_zero, List.set_cons_succ, i64_w, i32_w]
            rfl
          refine pure_ (i := 16) (N := some 83) (v := ?_) (a' := ?_) #[true, true, true, true, true, true, true, true, true, true, true, true, true, true, true, true, true] rfl rfl (by kernel_rfl) (fun _ _ _ h => h) (Or.inl ⟨by rfl, ?_⟩) ?_ ?_
          rotate_left
          · intro w'
            go_simp
            with_reducible rfl
          rotate_left
          · simp only [Act.put, List.setIfInBounds_toArray, List.set_cons_zero, List.set_cons_succ, i64_w, i32_w]
            rfl
          refine done_ (by kernel_rfl) ?_
          clear hHeld
          go_wp2
          have HB0 := HB
          replace HB := Aside0.mk (Below.refl V2.heap.size V2)
          go_loopg [11] nn (fun kq v11 w' => ∃ i : Nat, v11 = .int .i64 (i : Int) ∧ Aside0 (i + kq = nn) ∧ Aside0 (Below V2.heap.size V2 w'))
          case atStart => exact ⟨0, rfl, ⟨by omega⟩, HB⟩
          case round =>
            clear HB hlt hq1 hq2 eq1 eq2
            obtain ⟨i, rfl, HK, HB⟩ := hrel
            by_cases hi : i < nn
            case neg =>
              have hlt : decide (i < nn) = false := decide_eq_false hi
              go_wp2
              go_ret
              exact ⟨rfl, below_step HB0.out HB.out⟩
            have hlt : decide (i < nn) = true := decide_eq_true hi
            have HI := Aside0.mk hi
            obtain ⟨ad3, ea3, u0, u1⟩ := RB.out.below HB.out i (by rw [BO.out.1]; exact hi)
            obtain ⟨ad4, ea4, x0, x1⟩ := RX.out.below HB.out i (by rw [FP_length, HPL.out.1]; exact hi)
            have ht := (WO.out.2.2 bs BO.out.2).2 i hi
            rw [FP_at ps i (by rw [HPL.out.1]; exact hi)] at x0 x1
            generalize (bs.getD i (0, 0)).1 = y1 at u0 ht
            generalize (bs.getD i (0, 0)).2 = y2 at u1 ht
            generalize floatOfInt .f64 (ps.getD i (0, 0)).1 = z1 at x0 ht
            generalize floatOfInt .f64 (ps.getD i (0, 0)).2 = z2 at x1 ht
            have HT := Aside0.mk ht
            have p0 : (0 ≤ (i : Int)) = True := eq_true (by omega)
            have p1 : ((i : Int) < (nn : Int)) = True := eq_true (by omega)
            have Hwi : Aside0 (wrap64 ((i : Int) + 1) = ((i + 1 : Nat) : Int)) := ⟨by unfold wrap64; omega⟩
            clear hi ht
            cases ea3
            cases ea4
            go_upto_region 23 with (fail)
            have HH := And.intro u0 (And.intro u1 (And.intro x0 x1))
            clear u0 u1 x0 x1
            refine start_ (n := 12) (S := fun w' => w'.cell? (ad3.add (i * 2)) = some (.float .f64 y1) ∧ w'.cell? ⟨(ad3.add (i * 2)).block, (ad3.add (i * 2)).off + 1, none⟩ = some (.float .f64 y2) ∧ w'.cell? (ad4.add (i * 2)) = some (.float .f64 z1) ∧ w'.cell? ⟨(ad4.add (i * 2)).block, (ad4.add (i * 2)).off + 1, none⟩ = some (.float .f64 z2)) (ds := []) #[false, false, false, false, false, false, false, false, false, false, false, false] (by kernel_rfl) rfl rfl ⟨HH.1, HH.2.1, HH.2.2.1, HH.2.2.2⟩ (fun hHeld => ?_)
            clear HH
            replace HB := Aside0.mk (below_drew1 HB.out)
            generalize World.drew _ = V3 at HB hHeld ⊢
            refine pure_ (i := 0) (N := some 90) (v := ?_) (a' := ?_) #[true, false, false, false, false, false, false, false, false, false, false, false] rfl rfl (by kernel_rfl) (fun _ _ _ h => h) (Or.inl ⟨by rfl, ?_⟩) ?_ ?_
            rotate_left
            · intro w'
              go_simp
              with_reducible rfl
            rotate_left
            · simp only [Act.put, List.setIfInBounds_toArray, List.set_cons_zero, List.set_cons_succ, i64_w, i32_w]
              rfl
            refine pure_ (i := 1) (N := some 91) (v := ?_) (a' := ?_) #[true, true, false, false, false, false, false, false, false, false, false, false] rfl rfl (by kernel_rfl) (fun _ _ _ h => h) (Or.inl ⟨by rfl, ?_⟩) ?_ ?_
            rotate_left
            · intro w'
              go_simp
              with_reducible rfl
            rotate_left
            · simp only [Act.put, List.setIfInBounds_toArray, List.set_cons_zero, List.set_cons_succ, i64_w, i32_w]
              rfl
            refine pure_ (i := 2) (N := some 92) (v := ?_) (a' := ?_) #[true, true, true, false, false, false, false, false, false, false, false, false] rfl rfl (by kernel_rfl) (fun _ _ _ h => h) (Or.inl ⟨by rfl, ?_⟩) ?_ ?_
            rotate_left
            · intro w'
              go_simp
              with_reducible rfl
            rotate_left
            · simp only [Act.put, List.setIfInBounds_toArray, List.set_cons_zero, List.set_cons_succ, i64_w, i32_w]
              rfl
            refine pure_ (i := 3) (N := some 93) (v := ?_) (a' := ?_) #[true, true, true, true, false, false, false, false, false, false, false, false] rfl rfl (by kernel_rfl) (fun _ _ _ h => h) (Or.inl ⟨by rfl, ?_⟩) ?_ ?_
            rotate_left
            · intro w'
              go_simp
              with_reducible rfl
            rotate_left
            · simp only [Act.put, List.setIfInBounds_toArray, List.set_cons_zero, List.set_cons_succ, i64_w, i32_w]
              rfl
            refine take_ (i := 4) (N := some 94) (v := ?_) (a' := ?_) #[true, true, true, true, true, false, false, false, false, false, false, false] rfl rfl (by kernel_rfl) (fun _ _ _ h => h) (Or.inl ⟨by rfl, ?_⟩) hHeld ?_ ?_
            rotate_left
            · rintro w' ⟨s0, s1, s2, s3⟩
              go_simp
              with_reducible rfl
            rotate_left
            · simp only [Act.put, List.setIfInBounds_toArray, List.set_cons_zero, List.set_cons_succ, i64_w, i32_w]
              rfl
            refine pure_ (i := 5) (N := some 95) (v := ?_) (a' := ?_) #[true, true, true, true, true, true, false, false, false, false, false, false] rfl rfl (by kernel_rfl) (fun _ _ _ h => h) (Or.inl ⟨by rfl, ?_⟩) ?_ ?_
            rotate_left
            · intro w'
              go_simp
              with_reducible rfl
            rotate_left
            · simp only [Act.put, List.setIfInBounds_toArray, List.set_cons_zero, List.set_cons_succ, i64_w, i32_w]
              rfl
            refine pure_ (i := 6) (N := some 96) (v := ?_) (a' := ?_) #[true, true, true, true, true, true, true, false, false, false, false, false] rfl rfl (by kernel_rfl) (fun _ _ _ h => h) (Or.inl ⟨by rfl, ?_⟩) ?_ ?_
            rotate_left
            · intro w'
              go_simp
              with_reducible rfl
            rotate_left
            · simp only [Act.put, List.setIfInBounds_toArray, List.set_cons_zero, List.set_cons_succ, i64_w, i32_w]
              rfl
            refine pure_ (i := 7) (N := some 97) (v := ?_) (a' := ?_) #[true, true, true, true, true, true, true, true, false, false, false, false] rfl rfl (by kernel_rfl) (fun _ _ _ h => h) (Or.inl ⟨by rfl, ?_⟩) ?_ ?_
            rotate_left
            · intro w'
              go_simp
              with_reducible rfl
            rotate_left
            · simp only [Act.put, List.setIfInBounds_toArray, List.set_cons_zero, List.set_cons_succ, i64_w, i32_w]
              rfl
            refine pure_ (i := 8) (N := some 98) (v := ?_) (a' := ?_) #[true, true, true, true, true, true, true, true, true, false, false, false] rfl rfl (by kernel_rfl) (fun _ _ _ h => h) (Or.inl ⟨by rfl, ?_⟩) ?_ ?_
            rotate_left
            · intro w'
              go_simp
              with_reducible rfl
            rotate_left
            · simp only [Act.put, List.setIfInBounds_toArray, List.set_cons_zero, List.set_cons_succ, i64_w, i32_w]
              rfl
            refine take_ (i := 9) (N := some 99) (v := ?_) (a' := ?_) #[true, true, true, true, true, true, true, true, true, true, false, false] rfl rfl (by kernel_rfl) (fun _ _ _ h => h) (Or.inl ⟨by rfl, ?_⟩) hHeld ?_ ?_
            rotate_left
            · rintro w' ⟨s0, s1, s2, s3⟩
              go_simp
              with_reducible rfl
            rotate_left
            · simp only [Act.put, List.setIfInBounds_toArray, List.set_cons_zero, List.set_cons_succ, i64_w, i32_w]
              rfl
            refine one_ (i := 10) (N := some 100) #[true, true, true, true, true, true, true, true, true, true, true, false] rfl rfl (by kernel_rfl) (by decide) (fun K hK => ?_)
            refine one_op (by rfl) .sub 26 _ _ 26 rfl rfl (Same.rfl (x := y1)) (Same.rfl (x := z1)) rfl rfl ?_
            intro r1 n1 hs1
            have hr1 := Aside0.mk hs1
            clear hs1
            replace HB := Aside0.mk (pw_below_drewN HB.out n1)
            refine hK.out _ _ hHeld (fun _ => ?_)
            clear hK K
            refine norm_ (a' := ?_) ?_ ?_
            rotate_left
            · show Act.put _ (some 100) _ = _
              simp only [Act.put, List.setIfInBounds_toArray, List.set_cons_zero, List.set_cons_succ, i64_w, i32_w]
              rfl
            refine pure_ (i := 11) (N := some 12) (v := ?_) (a' := ?_) #[true, true, true, true, true, true, true, true, true, true, true, true] rfl rfl (by kernel_rfl) (fun _ _ _ h => h) (Or.inl ⟨by rfl, ?_⟩) ?_ ?_
            rotate_left
            · intro w'
              go_simp
              with_reducible rfl
            rotate_left
            · simp only [Act.put, List.setIfInBounds_toArray, List.set_cons_zero, List.set_cons_succ, i64_w, i32_w]
              rfl
            refine done_ (by kernel_rfl) ?_
            go_upto_region 24 with (fail)
            have HH := hHeld
            clear hHeld
            refine start_ (n := 12) (S := fun w' => w'.cell? (ad3.add (i * 2)) = some (.float .f64 y1) ∧ w'.cell? ⟨(ad3.add (i * 2)).block, (ad3.add (i * 2)).off + 1, none⟩ = some (.float .f64 y2) ∧ w'.cell? (ad4.add (i * 2)) = some (.float .f64 z1) ∧ w'.cell? ⟨(ad4.add (i * 2)).block, (ad4.add (i * 2)).off + 1, none⟩ = some (.float .f64 z2)) (ds := []) #[false, false, false, false, false, false, false, false, false, false, false, false] (by kernel_rfl) rfl rfl ⟨HH.1, HH.2.1, HH.2.2.1, HH.2.2.2⟩ (fun hHeld => ?_)
            clear HH
            replace HB := Aside0.mk (below_drew1 HB.out)
            generalize World.drew _ = V4 at HB hHeld ⊢
            refine pure_ (i := 0) (N := some 101) (v := ?_) (a' := ?_) #[true, false, false, false, false, false, false, false, false, false, false, false] rfl rfl (by kernel_rfl) (fun _ _ _ h => h) (Or.inl ⟨by rfl, ?_⟩) ?_ ?_
            rotate_left
            · intro w'
              go_simp
              with_reducible rfl
            rotate_left
            · simp only [Act.put, List.setIfInBounds_toArray, List.set_cons_zero, List.set_cons_succ, i64_w, i32_w]
              rfl
            refine pure_ (i := 1) (N := some 102) (v := ?_) (a' := ?_) #[true, true, false, false, false, false, false, false, false, false, false, false] rfl rfl (by kernel_rfl) (fun _ _ _ h => h) (Or.inl ⟨by rfl, ?_⟩) ?_ ?_
            rotate_left
            · intro w'
              go_simp
              with_reducible rfl
            rotate_left
            · simp only [Act.put, List.setIfInBounds_toArray, List.set_cons_zero, List.set_cons_succ, i64_w, i32_w]
              rfl
            refine pure_ (i := 2) (N := some 103) (v := ?_) (a' := ?_) #[true, true, true, false, false, false, false, false, false, false, false, false] rfl rfl (by kernel_rfl) (fun _ _ _ h => h) (Or.inl ⟨by rfl, ?_⟩) ?_ ?_
            rotate_left
            · intro w'
              go_simp
              with_reducible rfl
            rotate_left
            · simp only [Act.put, List.setIfInBounds_toArray, List.set_cons_zero, List.set_cons_succ, i64_w, i32_w]
              rfl
            refine pure_ (i := 3) (N := some 104) (v := ?_) (a' := ?_) #[true, true, true, true, false, false, false, false, false, false, false, false] rfl rfl (by kernel_rfl) (fun _ _ _ h => h) (Or.inl ⟨by rfl, ?_⟩) ?_ ?_
            rotate_left
            · intro w'
              go_simp
              with_reducible rfl
            rotate_left
            · simp only [Act.put, List.setIfInBounds_toArray, List.set_cons_zero, List.set_cons_succ, i64_w, i32_w]
              rfl
            refine take_ (i := 4) (N := some 105) (v := ?_) (a' := ?_) #[true, true, true, true, true, false, false, false, false, false, false, false] rfl rfl (by kernel_rfl) (fun _ _ _ h => h) (Or.inl ⟨by rfl, ?_⟩) hHeld ?_ ?_
            rotate_left
            · rintro w' ⟨s0, s1, s2, s3⟩
              go_simp
              with_reducible rfl
            rotate_left
            · simp only [Act.put, List.setIfInBounds_toArray, List.set_cons_zero, List.set_cons_succ, i64_w, i32_w]
              rfl
            refine pure_ (i := 5) (N := some 106) (v := ?_) (a' := ?_) #[true, true, true, true, true, true, false, false, false, false, false, false] rfl rfl (by kernel_rfl) (fun _ _ _ h => h) (Or.inl ⟨by rfl, ?_⟩) ?_ ?_
            rotate_left
            · intro w'
              go_simp
              with_reducible rfl
            rotate_left
            · simp only [Act.put, List.setIfInBounds_toArray, List.set_cons_zero, List.set_cons_succ, i64_w, i32_w]
              rfl
            refine pure_ (i := 6) (N := some 107) (v := ?_) (a' := ?_) #[true, true, true, true, true, true, true, false, false, false, false, false] rfl rfl (by kernel_rfl) (fun _ _ _ h => h) (Or.inl ⟨by rfl, ?_⟩) ?_ ?_
            rotate_left
            · intro w'
              go_simp
              with_reducible rfl
            rotate_left
            · simp only [Act.put, List.setIfInBounds_toArray, List.set_cons_zero, List.set_cons_succ, i64_w, i32_w]
              rfl
            refine pure_ (i := 7) (N := some 108) (v := ?_) (a' := ?_) #[true, true, true, true, true, true, true, true, false, false, false, false] rfl rfl (by kernel_rfl) (fun _ _ _ h => h) (Or.inl ⟨by rfl, ?_⟩) ?_ ?_
            rotate_left
            · intro w'
              go_simp
              with_reducible rfl
            rotate_left
            · simp only [Act.put, List.setIfInBounds_toArray, List.set_cons_zero, List.set_cons_succ, i64_w, i32_w]
              rfl
            refine pure_ (i := 8) (N := some 109) (v := ?_) (a' := ?_) #[true, true, true, true, true, true, true, true, true, false, false, false] rfl rfl (by kernel_rfl) (fun _ _ _ h => h) (Or.inl ⟨by rfl, ?_⟩) ?_ ?_
            rotate_left
            · intro w'
              go_simp
              with_reducible rfl
            rotate_left
            · simp only [Act.put, List.setIfInBounds_toArray, List.set_cons_zero, List.set_cons_succ, i64_w, i32_w]
              rfl
            refine take_ (i := 9) (N := some 110) (v := ?_) (a' := ?_) #[true, true, true, true, true, true, true, true, true, true, false, false] rfl rfl (by kernel_rfl) (fun _ _ _ h => h) (Or.inl ⟨by rfl, ?_⟩) hHeld ?_ ?_
            rotate_left
            · rintro w' ⟨s0, s1, s2, s3⟩
              go_simp
              with_reducible rfl
            rotate_left
            · simp only [Act.put, List.setIfInBounds_toArray, List.set_cons_zero, List.set_cons_succ, i64_w, i32_w]
              rfl
            refine one_ (i := 10) (N := some 111) #[true, true, true, true, true, true, true, true, true, true, true, false] rfl rfl (by kernel_rfl) (by decide) (fun K hK => ?_)
            refine one_op (by rfl) .sub 26 _ _ 26 rfl rfl (Same.rfl (x := y2)) (Same.rfl (x := z2)) rfl rfl ?_
            intro r2 n2 hs2
            have hr2 := Aside0.mk hs2
            clear hs2
            replace HB := Aside0.mk (pw_below_drewN HB.out n2)
            refine hK.out _ _ hHeld (fun _ => ?_)
            clear hK K
            refine norm_ (a' := ?_) ?_ ?_
            rotate_left
            · show Act.put _ (some 111) _ = _
              simp only [Act.put, List.setIfInBounds_toArray, List.set_cons_zero, List.set_cons_succ, i64_w, i32_w]
              rfl
            refine pure_ (i := 11) (N := some 13) (v := ?_) (a' := ?_) #[true, true, true, true, true, true, true, true, true, true, true, true] rfl rfl (by kernel_rfl) (fun _ _ _ h => h) (Or.inl ⟨by rfl, ?_⟩) ?_ ?_
            rotate_left
            · intro w'
              go_simp
              with_reducible rfl
            rotate_left
            · simp only [Act.put, List.setIfInBounds_toArray, List.set_cons_zero, List.set_cons_succ, i64_w, i32_w]
              rfl
            refine done_ (by kernel_rfl) ?_
            clear hHeld
            have g1 := (HT.out.1 r1 hr1.out).1
            have g2 := (HT.out.1 r1 hr1.out).2
            have g3 := (HT.out.2 r2 hr2.out).1
            have g4 := (HT.out.2 r2 hr2.out).2
            go_wp2
            go_roundg (gk - 1)
            case measure => have := HK.out; have := HI.out; omega
            case rel => exact ⟨i + 1, by first | rfl | rw [Hwi.out], ⟨by have := HK.out; have := HI.out; omega⟩, HB⟩
        have hlt : decide (i < nn) = true := decide_eq_true hi
        obtain ⟨L1, hL1⟩ : ∃ L : List Int, L = [(i : Int)] ++ l0 := ⟨_, rfl⟩
        obtain ⟨L2, hL2⟩ : ∃ L : List Int, L = [(i : Int), 1] ++ l0 := ⟨_, rfl⟩
        obtain ⟨k2, qa, hqa, hk2⟩ := pick_some L1 2001 (by omega) (by rw [hL1]; exact HBY.out.cons i (by omega) (by omega)) (by rw [hL1]; have := hq.out; simp; omega)
        obtain ⟨k3, qb, hqb, hk3⟩ := pick_some L2 2001 (by omega) (by rw [hL2]; exact (HBY.out.cons 1 (by omega) (by omega)).cons i (by omega) (by omega)) (by rw [hL2]; have := hq.out; simp; omega)
        have HL1 := Aside0.mk hL1
        have HL2 := Aside0.mk hL2
        have HK2 := Aside0.mk hk2
        have HK3 := Aside0.mk hk3
        have HI := Aside0.mk hi
        have hi8 : i < 8 := by omega
        have hqa2 : qa ≤ 2000 := by omega
        have hqb2 : qb ≤ 2000 := by omega
        clear hL1 hL2 hk2 hk3 hqa hqb hi
        go_upto_region 14 with (first | ((with_reducible refine gate_dst (N := 35) rfl ?_); at_builtin; refine print_append_row (w0 := w) w.heap.size rfl (.tmp 33) (.tmp 34) 22 5 .u8 1 (by rfl) Tryd.underlying22 (by kernel_rfl) (by decide) (.slice (some ⟨_, 0, none⟩) 1 1) [(i : Int)] l0 A0 l0.length c0 (by rfl) (by rfl) (lit_byte _ _ _ HB.out.size) (Kd.reads_of_C (d := (0 : Int)) (Kd.C_alloc (Kd.C_below hr0.out HB.out) _)) (below_alloc HB.out _) (below_size (below_alloc HB.out _)) (by have := hq.out; simp only [List.length_cons, List.length_nil]; omega) ?_; intro v1 w2 ho hbel hgr hat; have nB := Aside0.mk (blk_grown (blk_alloc BX.out _) hgr (by simp [Value.ownBlock]; have := blk_lt BX.out; omega)); have nO := Aside0.mk (own_other (own_alloc HO.out _) hgr (Or.inr (fun h => Nat.lt_irrefl _ (own_lt HO.out _ h)))); clear BX HO; have BX := nB; have HO := nO; clear nB nO; rw [← HL1.out] at ho; obtain ⟨A1, c1, rfl, hRI⟩ := own_reads ho; have HC1 := Aside0.mk (own_cap ho); have HCL : Aside0 (Kd.C (Kd.int .u8) w2 A1 _ _) := ⟨Kd.C_of_reads (d := (0 : Int)) (readsInt_of.1 hRI)⟩; replace HB := Aside0.mk hbel; clear ho hbel hgr hat hRI) | ((with_reducible refine gate_dst (N := 36) rfl ?_); refine goesL_ (some 36) rfl rfl Tryd.func7 (by kernel_rfl) rfl #[.slice A1 L1.length c1, .int .i64 2001] rfl (by (try simp only [List.map_toArray, List.map_cons, List.map_nil]); first | done | rfl) ?_; (with_reducible refine (laws_pick.calls k2 A1 c1 L1 2001 (qa : Int) _ HCL.out HC1.out HK2.out).mono ?_); rintro e W1 ⟨rfl, hD⟩; refine ⟨_, rfl, ?_⟩; have hb := hD.below; replace BX := Aside0.mk (blk_below BX.out hb); replace HO := Aside0.mk (pw_own_below HO.out hb); replace HB := Aside0.mk (below_step HB.out hb); clear hb hD) | ((with_reducible refine gate_dst (N := 43) rfl ?_); at_builtin; refine print_append_row (w0 := w) w.heap.size rfl (.tmp 41) (.tmp 42) 22 5 .u8 1 (by rfl) Tryd.underlying22 (by kernel_rfl) (by decide) (.slice (some ⟨_, 0, none⟩) 2 2) [(i : Int), 1] l0 A0 l0.length c0 (by rfl) (by rfl) (lit_two _ _ _ _ HB.out.size) (Kd.reads_of_C (d := (0 : Int)) (Kd.C_alloc (Kd.C_below hr0.out HB.out) _)) (below_alloc HB.out _) (below_size (below_alloc HB.out _)) (by have := hq.out; simp only [List.length_cons, List.length_nil]; omega) ?_; intro v1 w2 ho hbel hgr hat; have nB := Aside0.mk (blk_grown (blk_alloc BX.out _) hgr (by simp [Value.ownBlock]; have := blk_lt BX.out; omega)); have nO := Aside0.mk (own_other (own_alloc HO.out _) hgr (Or.inr (fun h => Nat.lt_irrefl _ (own_lt HO.out _ h)))); clear BX HO; have BX := nB; have HO := nO; clear nB nO; rw [← HL2.out] at ho; obtain ⟨A1, c1, rfl, hRI⟩ := own_reads ho; have HC1 := Aside0.mk (own_cap ho); have HCL : Aside0 (Kd.C (Kd.int .u8) w2 A1 _ _) := ⟨Kd.C_of_reads (d := (0 : Int)) (readsInt_of.1 hRI)⟩; replace HB := Aside0.mk hbel; clear ho hbel hgr hat hRI) | ((with_reducible refine gate_dst (N := 44) rfl ?_); refine goesL_ (some 44) rfl rfl Tryd.func7 (by kernel_rfl) rfl #[.slice A1 L2.length c1, .int .i64 2001] rfl (by (try simp only [List.map_toArray, List.map_cons, List.map_nil]); first | done | rfl) ?_; (with_reducible refine (laws_pick.calls k3 A1 c1 L2 2001 (qb : Int) _ HCL.out HC1.out HK3.out).mono ?_); rintro e W1 ⟨rfl, hD⟩; refine ⟨_, rfl, ?_⟩; have hb := hD.below; replace BX := Aside0.mk (blk_below BX.out hb); replace HO := Aside0.mk (pw_own_below HO.out hb); replace HB := Aside0.mk (below_step HB.out hb); clear hb hD))
        have hx : -1000 ≤ (qa : Int) - 1000 ∧ (qa : Int) - 1000 ≤ 1000 := by omega
        have hy : -1000 ≤ (qb : Int) - 1000 ∧ (qb : Int) - 1000 ≤ 1000 := by omega
        have HXB := Aside0.mk (And.intro hx hy)
        clear hx hy hqa2 hqb2
        have BT : Aside0 ((W1.alloc (.cells #[.float .f64 (floatOfInt .f64 ((qa : Int) - 1000)), .float .f64 (floatOfInt .f64 ((qb : Int) - 1000))] 28)).heap[W1.heap.size]? = some (.cells #[.float .f64 (floatOfInt .f64 ((qa : Int) - 1000)), .float .f64 (floatOfInt .f64 ((qb : Int) - 1000))] 28 (0, 0))) := ⟨blk_new _ _⟩
        have NG : Aside0 (gs ≠ W1.heap.size) := ⟨Nat.ne_of_lt (blk_lt BX.out)⟩
        replace BX := Aside0.mk (blk_alloc BX.out (.cells #[.float .f64 (floatOfInt .f64 ((qa : Int) - 1000)), .float .f64 (floatOfInt .f64 ((qb : Int) - 1000))] 28))
        replace HO := Aside0.mk (own_alloc HO.out (.cells #[.float .f64 (floatOfInt .f64 ((qa : Int) - 1000)), .float .f64 (floatOfInt .f64 ((qb : Int) - 1000))] 28))
        replace HB := Aside0.mk (below_alloc HB.out (.cells #[.float .f64 (floatOfInt .f64 ((qa : Int) - 1000)), .float .f64 (floatOfInt .f64 ((qb : Int) - 1000))] 28))
        generalize W1.alloc _ = V1 at BT BX HO HB ⊢
        generalize W1.heap.size = g8 at BT NG ⊢
        obtain ⟨x, hx⟩ : ∃ x : Int, x = (qa : Int) - 1000 := ⟨_, rfl⟩
        obtain ⟨y, hy⟩ : ∃ y : Int, y = (qb : Int) - 1000 := ⟨_, rfl⟩
        rw [← hx] at BT HXB ⊢
        rw [← hy] at BT HXB ⊢
        clear hx hy
        generalize hfx : floatOfInt .f64 x = fx at BT ⊢
        generalize hfy : floatOfInt .f64 y = fy at BT ⊢
        have HFX := Aside0.mk hfx
        have HFY := Aside0.mk hfy
        clear hfx hfy
        have c0' : V1.cell? ⟨gs, 0, none⟩ = some (.float .f64 s1) := (blk_cell BX.out 0).trans rfl
        have c1' : V1.cell? ⟨gs, 1, none⟩ = some (.float .f64 s2) := (blk_cell BX.out 1).trans rfl
        have f0' := blk_frozen BX.out 0
        have f1' := blk_frozen BX.out 1
        have d0' : V1.cell? ⟨g8, 0, none⟩ = some (.float .f64 fx) := (blk_cell BT.out 0).trans rfl
        have d1' : V1.cell? ⟨g8, 1, none⟩ = some (.float .f64 fy) := (blk_cell BT.out 1).trans rfl
        have ng := NG.out
        have ng2 := Ne.symm NG.out
        go_wp2_with (first | ((with_reducible refine gate_ (.binOp .add 26 (.tmp 49) (.tmp 51) 26) rfl ?_); refine step_op rfl .add 26 _ _ 26 rfl rfl (Aside0.mk (Same.rfl (x := s1))).out (Aside0.mk (Same.rfl (x := fx))).out rfl rfl ?_; intro r1 n1 hs1; have hr1 := Aside0.mk hs1; clear hs1) | ((with_reducible refine gate_ (.binOp .add 26 (.tmp 54) (.tmp 56) 26) rfl ?_); refine step_op rfl .add 26 _ _ 26 rfl rfl (Aside0.mk (Same.rfl (x := s2))).out (Aside0.mk (Same.rfl (x := fy))).out rfl rfl ?_; intro r2 n2 hs2; have hr2 := Aside0.mk hs2; clear hs2) | ((with_reducible refine gate_dst (N := 62) rfl ?_); at_builtin; refine append_pair (w0 := w) w.heap.size rfl (.tmp 59) (.tmp 61) (by rfl) u5 (FP ps) fx fy (by rfl) (by first | rfl | (refine Eq.trans (b := Value.slice (some ⟨V1.heap.size, 0, none⟩) 1 1) rfl ?_; simp)) ?h1 ?h2 ?h3 ?h4 ?_; (case h1 => (rw [FP_length, HK.out.2.1]; exact own_setCell (own_setCell (pw_own_drewN HO.out _) (p := ⟨gs, 0, none⟩) NE.out _) (p := ⟨gs, 1, none⟩) NE.out _)); (case h2 => exact below_set (below_set (pw_below_drewN HB.out _) LG.out) LG.out); (case h3 => exact below_size (below_set (below_set (pw_below_drewN HB.out _) LG.out) LG.out)); (case h4 => (rw [FP_length]; have := HK.out; have := HI.out; omega)); intro v1 w2 ho hbel hgr hat; have HO2 := Aside0.mk ho; have HB2 := Aside0.mk hbel; have hBP := blk_put (cs := #[.float .f64 r1, .float .f64 s2]) (blk_put (cs := #[.float .f64 s1, .float .f64 s2]) (blk_drewN BX.out (n1 + n2)) 0 (.float .f64 r1) rfl) 1 (.float .f64 r2) (cs' := #[.float .f64 r1, .float .f64 r2]) rfl; have BX2 := Aside0.mk (blk_grown hBP hgr NE.out); have NE2 := Aside0.mk (ne_next NE.out (blk_lt hBP) hat); clear hBP; clear ho hbel hgr hat))
        go_roundg (gk - 1)
        case measure => have := HK.out; have := HI.out; omega
        case rel => exact ⟨i + 1, ps ++ [(x, y)], r1, r2, by first | rfl | simp, ⟨by have := HK.out; have := HI.out; omega, by rw [List.length_append, HK.out.2.1]; rfl, HK.out.2.2.snoc HXB.out.1 HXB.out.2⟩, BX2, ⟨by
          have h1 := S_bd HK.out.2.2
          have h2 := HXB.out
          have h3 := HK.out.2.1
          rw [S1_snoc, S2_snoc]
          refine ⟨Rp.of_same (Rp.add HSS.out.1 (HFX.out ▸ Rp.int x (by omega)) (by omega)) hr1.out, Rp.of_same (Rp.add HSS.out.2 (HFY.out ▸ Rp.int y (by omega)) (by omega)) hr2.out⟩⟩, NE2, ⟨by have h := HO2.out; rw [FP_length, HK.out.2.1] at h; rw [FP_snoc, HFX.out, HFY.out]; exact h⟩, HB2⟩
theorem laws_FnWavesBack.calls (A0 : Option Addr) (c0 : Nat) (l0 : List Int) (r : Bool) (w : World) (hr0 : Kd.C (Kd.int .u8) w A0 l0.length l0) (hc0 : l0.length ≤ c0) (hm : Mx w) (h : laws_FnWavesBack.f l0 = some r) :
    Calls Tryd.prog 3 #[.slice A0 l0.length c0] w fun e w' => e = .returned (.bool r) ∧ Below w.heap.size w w' := by
  unfold laws_FnWavesBack.f at h
  split at h
  · rename_i hb
    obtain rfl : true = r := Option.some.inj h
    exact core A0 c0 l0 w ⟨hr0⟩ ⟨hc0⟩ ⟨hm⟩ (fun i hi => by
      have := hb (l0.getD i 0) (by rw [List.getD_eq_getElem?_getD, List.getElem?_eq_getElem hi]; exact List.getElem_mem hi)
      exact this)
  · cases h
end Go.Proofs.YtnldjdpophkkcaaDoor.PFnWavesBack
