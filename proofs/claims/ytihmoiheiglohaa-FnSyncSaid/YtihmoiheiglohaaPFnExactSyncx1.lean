/- FnExactSync: the walks, floats told up to NaN. Written by wip/wave/gen_sync.py. -/
import Derived.Test.YtihmoiheiglohaaPFnExactAgreex5
import Derived.Outline
import Derived.LoopN
import Derived.RegionTactic
import Derived.BigRegion
namespace Go.Proofs.Ytihmoiheiglohaa.PFnExactSync
open Go.RowKit Go.Proofs.Ytihmoiheiglohaa.PFnExactAgree Go.Proofs.YtihmoiheiglohaaW.PrintWords Go.Proofs.YtihmoiheiglohaaW.PrintLast Go.Proofs.YtihmoiheiglohaaW.PrintMore Go.Proofs.Ytihmoiheiglohaa.Fl Go.Proofs.Ytihmoiheiglohaa.PFnExactProduct
attribute [local go_sem] run_store_float
set_option linter.unusedVariables false
set_option linter.unusedSimpArgs false
attribute [local go_sem] max2_int min2_int max_two min_two max_three min_three max_four min_four
def ord (x y : Nat) : Option Ordering := FloatKind.f64.format.order x y
/-- x takes top's place. -/
def bt (x t : Nat) : Bool := (FloatKind.f64.format.order x t == some .gt) || ((FloatKind.f64.format.order x x == some .eq) && (FloatKind.f64.format.order t t != some .eq))
theorem bt_same {x t X Y : Nat} (hx : Same x X) (ht : Same t Y) : bt x t = bt X Y := by
  unfold bt
  have h1 : FloatKind.f64.format.order x t = FloatKind.f64.format.order X Y := order_same hx ht
  have h2 : FloatKind.f64.format.order x x = FloatKind.f64.format.order X X := order_same hx hx
  have h3 : FloatKind.f64.format.order t t = FloatKind.f64.format.order Y Y := order_same ht ht
  rw [h1, h2, h3]
def lagOf (m : Nat) : Int := if m % 2 = 0 then ((m / 2 : Nat) : Int) + 1 else -(((m / 2 : Nat) : Int) + 1)
theorem lagOf_even (q : Nat) : lagOf (2 * q + 0) = (q : Int) + 1 := by unfold lagOf; rw [if_pos (by omega)]; omega
theorem lagOf_odd (q : Nat) : lagOf (2 * q + 1) = -((q : Int) + 1) := by unfold lagOf; rw [if_neg (by omega)]; omega
theorem w_id (x : Int) (h1 : -1000 ≤ x) (h2 : x ≤ 1000) : wrap64 x = x := by unfold wrap64; omega
theorem lg (E1 E2 LG K most : Int) (s q : Nat) (h1 : 0 ≤ most ∧ most ≤ 64) (h2 : K = q + 1) (h3 : E1 = 2 * K) (h4 : K ≤ most) (hs2 : s < 2) (hE2 : wrap64 (E1 * (s : Int)) = E2) (hLG : wrap64 (K - E2) = LG) : LG = lagOf (2 * q + s) := by
  have hs : s = 0 ∨ s = 1 := by omega
  rcases hs with rfl | rfl
  · have e2 : E2 = 0 := by rw [← hE2, show E1 * ((0 : Nat) : Int) = 0 from Int.mul_zero _]; exact w_id _ (by omega) (by omega)
    rw [lagOf_even, ← hLG, e2, w_id _ (by omega) (by omega)]; omega
  · have e2 : E2 = 2 * K := by rw [← hE2, show E1 * ((1 : Nat) : Int) = E1 from Int.mul_one _, h3]; exact w_id _ (by omega) (by omega)
    rw [lagOf_odd, ← hLG, e2, w_id _ (by omega) (by omega)]; omega
/-- The best lag and its sum behind m lags. -/
def sy (xs ys : List Nat) : Nat → Int × Nat
  | 0 => (0, agr xs ys 0)
  | m + 1 => if bt (agr xs ys (lagOf m)) (sy xs ys m).2 = true then (lagOf m, agr xs ys (lagOf m)) else sy xs ys m
theorem sy_yes {xs ys : List Nat} {m r t : Nat} (hr : Same r (agr xs ys (lagOf m))) (ht : Same t (sy xs ys m).2) (hb : bt r t = true) : (sy xs ys (m + 1)).1 = lagOf m ∧ Same r (sy xs ys (m + 1)).2 := by
  rw [sy, if_pos (by rw [← bt_same hr ht]; exact hb)]
  exact ⟨rfl, hr⟩
theorem sy_no {xs ys : List Nat} {m r t : Nat} (hr : Same r (agr xs ys (lagOf m))) (ht : Same t (sy xs ys m).2) (hb : bt r t = false) : sy xs ys (m + 1) = sy xs ys m := by
  rw [sy, if_neg (by rw [← bt_same hr ht, hb]; simp)]
/-- What Sync comes to. -/
def syn (xs ys : List Nat) (most : Int) : Int := if xs.length ≤ 4096 ∧ ys.length ≤ 4096 ∧ 0 ≤ most ∧ most ≤ 64 then (sy xs ys (2 * most.toNat)).1 else 0
set_option maxHeartbeats 8000000 in
set_option maxRecDepth 100000 in
theorem spec_l1In.calls64 (x : Int) (b : Bool) (hb : Aside0 (b = (decide (0 ≤ x) && decide (x ≤ 64)))) (w : World) : Calls Try.prog 39 #[.int .i64 x, .int .i64 0, .int .i64 64] w fun e w' => e = .returned (.bool b) ∧ w' = w := by
  obtain ⟨hb⟩ := hb
  by_cases h1 : 0 ≤ x <;> by_cases h2 : x ≤ 64 <;> simp only [h1, h2, decide_true, decide_false, Bool.and_true, Bool.and_false, Bool.true_and, Bool.false_and] at hb <;> subst hb
  all_goals (go_enter Try.func39, Try.ntmps39; go_wp2)
  all_goals (go_ret; exact ⟨by first | rfl | simp [h1, h2], rfl⟩)
set_option maxHeartbeats 8000000 in
set_option maxRecDepth 100000 in
theorem impl_in.calls64 (x : Int) (b : Bool) (hb : Aside0 (b = (decide (0 ≤ x) && decide (x ≤ 64)))) (w : World) : Calls Try.prog 40 #[.int .i64 x, .int .i64 0, .int .i64 64] w fun e w' => e = .returned (.bool b) ∧ w' = w := by
  obtain ⟨hb⟩ := hb
  by_cases h1 : 0 ≤ x <;> by_cases h2 : x ≤ 64 <;> simp only [h1, h2, decide_true, decide_false, Bool.and_true, Bool.and_false, Bool.true_and, Bool.false_and] at hb <;> subst hb
  all_goals (go_enter Try.func40, Try.ntmps40; go_wp2)
  all_goals (go_ret; exact ⟨by first | rfl | simp [h1, h2], rfl⟩)
set_option maxHeartbeats 8000000 in
set_option maxRecDepth 100000 in
theorem spec_Sync.calls (A B : Option Addr) (ca cb : Nat) (xs ys : List Nat) (most : Int) (w : World) (hx : Aside0 (RF w A xs)) (hy : Aside0 (RF w B ys)) :
    Calls Try.prog 24 #[.slice A xs.length ca, .slice B ys.length cb, .int .i64 most] w fun e w' => e = .returned (.int .i64 (syn xs ys most)) ∧ Below w.heap.size w w' := by
  have hu36 := Try.underlying36
  have hu22 := Try.underlying22
  by_cases q1 : 4096 < xs.length
  · go_enter Try.func24, Try.ntmps24
    go_wp2
    go_ret
    exact ⟨by rw [show syn xs ys most = 0 from if_neg (by omega)] <;> rfl, Below.refl _ _⟩
  by_cases q2 : 4096 < ys.length
  · go_enter Try.func24, Try.ntmps24
    go_wp2
    go_ret
    exact ⟨by rw [show syn xs ys most = 0 from if_neg (by omega)] <;> rfl, Below.refl _ _⟩
  have d1 : decide ((4096 : Int) < (xs.length : Int)) = false := decide_eq_false (by omega)
  have d2 : decide ((4096 : Int) < (ys.length : Int)) = false := decide_eq_false (by omega)
  by_cases q3 : 0 ≤ most
  case neg =>
    go_enter Try.func24, Try.ntmps24
    go_wp2_with (first | ((with_reducible refine gate_dst (N := 23) rfl ?_); (try (refine gate_guard (by rfl) ?_; dsimp only)); refine goesL_ (some 23) rfl rfl Try.func39 (by kernel_rfl) rfl #[.int .i64 most, .int .i64 0, .int .i64 64] rfl (by (try simp only [List.map_toArray, List.map_cons, List.map_nil]); first | done | rfl) ?_; (with_reducible refine (spec_l1In.calls64 most false ⟨by simp [q3]⟩ _).mono ?_); rintro e W1 ⟨rfl, hW⟩; obtain rfl := hW.symm; refine ⟨_, rfl, ?_⟩))
    go_ret
    exact ⟨by rw [show syn xs ys most = 0 from if_neg (by omega)] <;> rfl, Below.refl _ _⟩
  by_cases q4 : most ≤ 64
  case neg =>
    go_enter Try.func24, Try.ntmps24
    go_wp2_with (first | ((with_reducible refine gate_dst (N := 23) rfl ?_); (try (refine gate_guard (by rfl) ?_; dsimp only)); refine goesL_ (some 23) rfl rfl Try.func39 (by kernel_rfl) rfl #[.int .i64 most, .int .i64 0, .int .i64 64] rfl (by (try simp only [List.map_toArray, List.map_cons, List.map_nil]); first | done | rfl) ?_; (with_reducible refine (spec_l1In.calls64 most false ⟨by simp [q3, q4]⟩ _).mono ?_); rintro e W1 ⟨rfl, hW⟩; obtain rfl := hW.symm; refine ⟨_, rfl, ?_⟩))
    go_ret
    exact ⟨by rw [show syn xs ys most = 0 from if_neg (by omega)] <;> rfl, Below.refl _ _⟩
  have HB := Aside0.mk (Below.refl w.heap.size w)
  have Q := Aside0.mk (And.intro (show xs.length ≤ 4096 by omega) (And.intro (show ys.length ≤ 4096 by omega) (And.intro q3 q4)))
  go_enter Try.func24, Try.ntmps24
  go_wp2_with (first | ((with_reducible refine gate_dst (N := 23) rfl ?_); (try (refine gate_guard (by rfl) ?_; dsimp only)); refine goesL_ (some 23) rfl rfl Try.func39 (by kernel_rfl) rfl #[.int .i64 most, .int .i64 0, .int .i64 64] rfl (by (try simp only [List.map_toArray, List.map_cons, List.map_nil]); first | done | rfl) ?_; (with_reducible refine (spec_l1In.calls64 most true ⟨by simp [q3, q4]⟩ _).mono ?_); rintro e W1 ⟨rfl, hW⟩; obtain rfl := hW.symm; refine ⟨_, rfl, ?_⟩) | ((with_reducible refine gate_dst (N := 28) rfl ?_); refine goesL_ (some 28) rfl rfl Try.func19 (by kernel_rfl) rfl #[.slice A xs.length ca, .slice B ys.length cb, .int .i64 0] rfl (by (try simp only [List.map_toArray, List.map_cons, List.map_nil]); first | done | rfl) ?_; (with_reducible refine (spec_Agree.calls A B ca cb xs ys 0 _ ⟨hx.out.below HB.out⟩ ⟨hy.out.below HB.out⟩).mono ?_); rintro e W1 ⟨t0, rfl, hs, hb⟩; refine ⟨_, rfl, ?_⟩; have St0 := Aside0.mk hs; replace HB := Aside0.mk (below_step HB.out hb); clear hs hb))
  clear q1 q2 q3 q4 d1 d2
  go_loopg [7, 8, 9] most.toNat (fun kq v7 v8 v9 w' => ∃ (b : Int) (t q : Nat) (K : Int), v7 = .int .i64 b ∧ v8 = .float .f64 t ∧ v9 = .int .i64 K ∧ Aside0 (b = (sy xs ys (2 * q)).1) ∧ Aside0 (Same t (sy xs ys (2 * q)).2) ∧ Aside0 (K = q + 1 ∧ q + kq = most.toNat) ∧ Aside0 (Below w.heap.size w w'))
  case atStart => exact ⟨0, t0, 0, 1, rfl, rfl, rfl, ⟨rfl⟩, St0, ⟨by omega, by omega⟩, HB⟩
  case round =>
    clear HB St0
    obtain ⟨b, t, q, K, rfl, rfl, rfl, Hb, Ht, HK, HB⟩ := hrel
    by_cases hk : K ≤ most
    case neg =>
      have Hm : Aside0 (b = syn xs ys most) := ⟨by
        have h1 := Q.out
        have h2 := HK.out
        have e : most.toNat = q := by omega
        rw [syn, if_pos (by omega), e]
        exact Hb.out⟩
      clear Hb Ht HK Q
      go_wp2
      go_ret
      exact ⟨by rw [← Hm.out] <;> rfl, HB.out⟩
    have hw9 : wrap64 (K + 1) = K + 1 := by have := Q.out; have := HK.out; unfold wrap64; omega
    have Hw9 := Aside0.mk hw9
    clear hw9
    have HE1 : Aside0 (wrap64 (2 * K) = 2 * K) := ⟨by have := Q.out; have := HK.out; unfold wrap64; omega⟩
    have HKM := Aside0.mk hk
    obtain ⟨gkO, hgO⟩ : ∃ g : Nat, g = gk := ⟨_, rfl⟩
    have HGO := Aside0.mk hgO
    clear hgO
    go_wp2
    go_loopg [7, 8, 10] 2 (fun kq v7 v8 v10 w' => ∃ (b : Int) (t s : Nat), v7 = .int .i64 b ∧ v8 = .float .f64 t ∧ v10 = .int .i64 (s : Int) ∧ Aside0 (b = (sy xs ys (2 * q + s)).1) ∧ Aside0 (Same t (sy xs ys (2 * q + s)).2) ∧ Aside0 (s + kq = 2) ∧ Aside0 (Below w.heap.size w w'))
    case atStart => exact ⟨b, t, 0, rfl, rfl, rfl, Hb, Ht, ⟨rfl⟩, HB⟩
    case round =>
      clear HB Hb Ht
      obtain ⟨b, t, s, rfl, rfl, rfl, Hb, Ht, Hs, HB⟩ := hrel
      by_cases hs2 : s < 2
      case neg =>
        have e : s = 2 := by have := Hs.out; omega
        have Hb2 : Aside0 (b = (sy xs ys (2 * (q + 1))).1) := ⟨by rw [Hb.out, e] <;> rfl⟩
        have Ht2 : Aside0 (Same t (sy xs ys (2 * (q + 1))).2) := ⟨by have := Ht.out; rw [e] at this; exact this⟩
        clear e Hb Ht Hs
        go_wp2
        go_roundg (gkO - 1)
        case measure => have := HK.out; have := HKM.out; have := HGO.out; omega
        case rel => exact ⟨b, t, q + 1, K + 1, rfl, rfl, by first | rfl | rw [Hw9.out], Hb2, Ht2, ⟨by have := HK.out; omega, by have := HK.out; have := HKM.out; have := HGO.out; omega⟩, HB⟩
      have HLG : Aside0 (wrap64 (K - wrap64 (wrap64 (2 * K) * (s : Int))) = lagOf (2 * q + s)) := ⟨lg _ _ _ K most s q ⟨Q.out.2.2.1, Q.out.2.2.2⟩ HK.out.1 HE1.out HKM.out hs2 rfl rfl⟩
      have HS2 := Aside0.mk hs2
      have Hws : Aside0 (wrap64 ((s : Int) + 1) = ((s + 1 : Nat) : Int)) := ⟨by unfold wrap64; omega⟩
      go_upto_region 13 with (first | ((with_reducible refine gate_dst (N := 47) rfl ?_); refine goesL_ (some 47) rfl rfl Try.func19 (by kernel_rfl) rfl #[.slice A xs.length ca, .slice B ys.length cb, .int .i64 (wrap64 (K - wrap64 (wrap64 (2 * K) * (s : Int))))] rfl (by (try simp only [List.map_toArray, List.map_cons, List.map_nil]); first | done | rfl) ?_; (with_reducible refine (spec_Agree.calls A B ca cb xs ys (wrap64 (K - wrap64 (wrap64 (2 * K) * (s : Int)))) _ ⟨hx.out.below HB.out⟩ ⟨hy.out.below HB.out⟩).mono ?_); rintro e W1 ⟨r, rfl, hs, hb⟩; refine ⟨_, rfl, ?_⟩; have Sr := Aside0.mk hs; replace HB := Aside0.mk (below_step HB.out hb); clear hs hb))
      have HR : Aside0 (Same r (agr xs ys (lagOf (2 * q + s)))) := ⟨by rw [← HLG.out]; exact Sr.out⟩
      have done1 : bt r t = true → (sy xs ys (2 * q + (s + 1))).1 = wrap64 (K - wrap64 (wrap64 (2 * K) * (s : Int))) ∧ Same r (sy xs ys (2 * q + (s + 1))).2 := fun hb => by
        have h := sy_yes HR.out Ht.out hb
        exact ⟨by rw [HLG.out]; exact h.1, h.2⟩
      have done2 : bt r t = false → sy xs ys (2 * q + (s + 1)) = sy xs ys (2 * q + s) := fun hb => sy_no HR.out Ht.out hb
      have D1 := Aside0.mk done1
      have D2 := Aside0.mk done2
      clear done1 done2
      cases hG : (FloatKind.f64.format.order r t == some .gt) with
      | true =>
        have HY : Aside0 (bt r t = true) := ⟨by simp only [bt, hG, Bool.true_or]⟩
        go_wp2
        go_roundg (gk - 1)
        case measure => have := Hs.out; have := HS2.out; omega
        case rel => exact ⟨_, r, s + 1, rfl, rfl, by first | rfl | rw [Hws.out], ⟨(D1.out HY.out).1.symm⟩, ⟨(D1.out HY.out).2⟩, ⟨by have := Hs.out; have := HS2.out; omega⟩, HB⟩
      | false =>
        cases hE : (FloatKind.f64.format.order r r == some .eq) with
        | false =>
          have HY : Aside0 (bt r t = false) := ⟨by simp only [bt, hG, hE, Bool.false_or, Bool.false_and]⟩
          go_wp2
          go_roundg (gk - 1)
          case measure => have := Hs.out; have := HS2.out; omega
          case rel => exact ⟨b, t, s + 1, rfl, rfl, by first | rfl | rw [Hws.out], ⟨by rw [D2.out HY.out]; exact Hb.out⟩, ⟨by rw [D2.out HY.out]; exact Ht.out⟩, ⟨by have := Hs.out; have := HS2.out; omega⟩, HB⟩
        | true =>
          cases hM : (FloatKind.f64.format.order t t != some .eq) with
          | false =>
            have HY : Aside0 (bt r t = false) := ⟨by simp only [bt, hG, hE, hM, Bool.false_or, Bool.true_and]⟩
            go_wp2
            go_roundg (gk - 1)
            case measure => have := Hs.out; have := HS2.out; omega
            case rel => exact ⟨b, t, s + 1, rfl, rfl, by first | rfl | rw [Hws.out], ⟨by rw [D2.out HY.out]; exact Hb.out⟩, ⟨by rw [D2.out HY.out]; exact Ht.out⟩, ⟨by have := Hs.out; have := HS2.out; omega⟩, HB⟩
          | true =>
            have HY : Aside0 (bt r t = true) := ⟨by simp only [bt, hG, hE, hM, Bool.false_or, Bool.true_and]⟩
            go_wp2
            go_roundg (gk - 1)
            case measure => have := Hs.out; have := HS2.out; omega
            case rel => exact ⟨_, r, s + 1, rfl, rfl, by first | rfl | rw [Hws.out], ⟨(D1.out HY.out).1.symm⟩, ⟨(D1.out HY.out).2⟩, ⟨by have := Hs.out; have := HS2.out; omega⟩, HB⟩
end Go.Proofs.Ytihmoiheiglohaa.PFnExactSync
