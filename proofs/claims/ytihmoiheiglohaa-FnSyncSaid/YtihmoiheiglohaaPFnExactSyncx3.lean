/- FnExactSync: the walks, floats told up to NaN. Written by wip/wave/gen_sync.py. -/
import Derived.Test.YtihmoiheiglohaaPFnExactSyncx2
import Derived.Outline
import Derived.LoopN
import Derived.RegionTactic
import Derived.BigRegion
namespace Go.Proofs.Ytihmoiheiglohaa.PFnExactSync
open Go.RowKit Go.Proofs.Ytihmoiheiglohaa.PFnExactAgree Go.Proofs.YtihmoiheiglohaaW.PrintWords Go.Proofs.YtihmoiheiglohaaW.PrintLast Go.Proofs.YtihmoiheiglohaaW.PrintMore Go.Proofs.Ytihmoiheiglohaa.Fl Go.Proofs.Ytihmoiheiglohaa.PFnExactProduct
attribute [local go_sem] run_store_float
set_option linter.unusedVariables false
set_option linter.unusedSimpArgs false
attribute [local go_sem] max2_int min2_int max_two min_two max_three min_three max_four min_four
set_option maxHeartbeats 8000000 in
set_option maxRecDepth 100000 in
theorem impl_Sync.calls (A B : Option Addr) (ca cb : Nat) (xs ys : List Nat) (most : Int) (w : World) (hx : Aside0 (RF w A xs)) (hy : Aside0 (RF w B ys)) :
    Calls Try.prog 25 #[.slice A xs.length ca, .slice B ys.length cb, .int .i64 most] w fun e w' => e = .returned (.int .i64 (syn xs ys most)) ∧ Below w.heap.size w w' := by
  have hu36 := Try.underlying36
  have hu22 := Try.underlying22
  have hu58 := Try.underlying58
  by_cases q1 : 4096 < xs.length
  · go_enter Try.func25, Try.ntmps25
    go_wp2
    go_ret
    exact ⟨by rw [show syn xs ys most = 0 from if_neg (by omega)] <;> rfl, Below.refl _ _⟩
  by_cases q2 : 4096 < ys.length
  · go_enter Try.func25, Try.ntmps25
    go_wp2
    go_ret
    exact ⟨by rw [show syn xs ys most = 0 from if_neg (by omega)] <;> rfl, Below.refl _ _⟩
  have d1 : decide ((4096 : Int) < (xs.length : Int)) = false := decide_eq_false (by omega)
  have d2 : decide ((4096 : Int) < (ys.length : Int)) = false := decide_eq_false (by omega)
  by_cases q3 : 0 ≤ most
  case neg =>
    go_enter Try.func25, Try.ntmps25
    go_wp2_with (first | ((with_reducible refine gate_dst (N := 23) rfl ?_); (try (refine gate_guard (by rfl) ?_; dsimp only)); refine goesL_ (some 23) rfl rfl Try.func40 (by kernel_rfl) rfl #[.int .i64 most, .int .i64 0, .int .i64 64] rfl (by (try simp only [List.map_toArray, List.map_cons, List.map_nil]); first | done | rfl) ?_; (with_reducible refine (impl_in.calls64 most false ⟨by simp [q3]⟩ _).mono ?_); rintro e W1 ⟨rfl, hW⟩; obtain rfl := hW.symm; refine ⟨_, rfl, ?_⟩))
    go_ret
    exact ⟨by rw [show syn xs ys most = 0 from if_neg (by omega)] <;> rfl, Below.refl _ _⟩
  by_cases q4 : most ≤ 64
  case neg =>
    go_enter Try.func25, Try.ntmps25
    go_wp2_with (first | ((with_reducible refine gate_dst (N := 23) rfl ?_); (try (refine gate_guard (by rfl) ?_; dsimp only)); refine goesL_ (some 23) rfl rfl Try.func40 (by kernel_rfl) rfl #[.int .i64 most, .int .i64 0, .int .i64 64] rfl (by (try simp only [List.map_toArray, List.map_cons, List.map_nil]); first | done | rfl) ?_; (with_reducible refine (impl_in.calls64 most false ⟨by simp [q3, q4]⟩ _).mono ?_); rintro e W1 ⟨rfl, hW⟩; obtain rfl := hW.symm; refine ⟨_, rfl, ?_⟩))
    go_ret
    exact ⟨by rw [show syn xs ys most = 0 from if_neg (by omega)] <;> rfl, Below.refl _ _⟩
  have HB := Aside0.mk (Below.refl w.heap.size w)
  have Q := Aside0.mk (And.intro (show xs.length ≤ 4096 by omega) (And.intro (show ys.length ≤ 4096 by omega) (And.intro q3 q4)))
  go_enter Try.func25, Try.ntmps25
  go_wp2_with (first | ((with_reducible refine gate_dst (N := 23) rfl ?_); (try (refine gate_guard (by rfl) ?_; dsimp only)); refine goesL_ (some 23) rfl rfl Try.func40 (by kernel_rfl) rfl #[.int .i64 most, .int .i64 0, .int .i64 64] rfl (by (try simp only [List.map_toArray, List.map_cons, List.map_nil]); first | done | rfl) ?_; (with_reducible refine (impl_in.calls64 most true ⟨by simp [q3, q4]⟩ _).mono ?_); rintro e W1 ⟨rfl, hW⟩; obtain rfl := hW.symm; refine ⟨_, rfl, ?_⟩) | ((with_reducible refine gate_dst (N := 28) rfl ?_); refine goesL_ (some 28) rfl rfl Try.func41 (by kernel_rfl) rfl #[.slice A xs.length ca, .slice B ys.length cb, .int .i64 0] rfl (by (try simp only [List.map_toArray, List.map_cons, List.map_nil]); first | done | rfl) ?_; (with_reducible refine (impl_agree2.calls A B ca cb xs ys 0 _ ⟨hx.out.below HB.out⟩ ⟨hy.out.below HB.out⟩ Q.out.1 Q.out.2.1 (by omega) (by omega)).mono ?_); rintro e W1 ⟨t0, rfl, hs, hb⟩; refine ⟨_, rfl, ?_⟩; have St0 := Aside0.mk hs; replace HB := Aside0.mk (below_step HB.out hb); clear hs hb))
  clear q1 q2 q3 q4 d1 d2
  go_loopg [7, 8, 9] most.toNat (fun kq v7 v8 v9 w' => ∃ (b : Int) (t q : Nat) (K : Int), v7 = .float .f64 t ∧ v8 = .int .i64 b ∧ v9 = .int .i64 K ∧ Aside0 (b = (sy xs ys (2 * q)).1) ∧ Aside0 (Same t (sy xs ys (2 * q)).2) ∧ Aside0 (K = q + 1 ∧ q + kq = most.toNat) ∧ Aside0 (Below w.heap.size w w'))
  case atStart => exact ⟨0, t0, 0, 1, rfl, rfl, rfl, ⟨rfl⟩, St0, ⟨by omega, by omega⟩, HB⟩
  case round =>
    clear HB St0
    obtain ⟨b, t, q, K, rfl, rfl, rfl, Hb, Ht, HK, HB⟩ := hrel
    by_cases hk : K ≤ most
    case neg =>
      have Hm : Aside0 (b = syn xs ys most) := ⟨by
        have h1 := Q.out
        have h2 := HK.out
        have e : most.toNat = q := by omega
        rw [syn, if_pos (by omega), e]
        exact Hb.out⟩
      clear Hb Ht HK Q
      go_wp2
      go_ret
      exact ⟨by rw [← Hm.out] <;> rfl, HB.out⟩
    have Hw9 : Aside0 (wrap64 (K + 1) = K + 1) := ⟨by have := Q.out; have := HK.out; unfold wrap64; omega⟩
    have HNK : Aside0 (wrap64 (-K) = -K) := ⟨by have := Q.out; have := HK.out; unfold wrap64; omega⟩
    have HKM := Aside0.mk hk
    obtain ⟨gkO, hgO⟩ : ∃ g : Nat, g = gk := ⟨_, rfl⟩
    have HGO := Aside0.mk hgO
    clear hgO
    go_wp2
    have BK : Aside0 ((wr.alloc (.cells #[.int .i64 K, .int .i64 (wrap64 (-K))] 3)).heap[wr.heap.size]? = some (.cells #[.int .i64 K, .int .i64 (wrap64 (-K))] 3 (0, 0))) := ⟨blk_new _ _⟩
    replace HB : Aside0 (Below w.heap.size w (wr.alloc (.cells #[.int .i64 K, .int .i64 (wrap64 (-K))] 3))) := ⟨below_alloc HB.out _⟩
    generalize wr.alloc (.cells #[.int .i64 K, .int .i64 (wrap64 (-K))] 3) = V at BK HB ⊢
    generalize wr.heap.size = g at BK ⊢
    go_loopg [7, 8, 39] 2 (fun kq v7 v8 v39 w' => ∃ (b : Int) (t s : Nat), v7 = .float .f64 t ∧ v8 = .int .i64 b ∧ v39 = .int .i64 (s : Int) ∧ Aside0 (b = (sy xs ys (2 * q + s)).1) ∧ Aside0 (Same t (sy xs ys (2 * q + s)).2) ∧ Aside0 (s + kq = 2) ∧ Aside0 (w'.heap[g]? = some (.cells #[.int .i64 K, .int .i64 (wrap64 (-K))] 3 (0, 0))) ∧ Aside0 (Below w.heap.size w w'))
    case atStart => exact ⟨b, t, 0, rfl, rfl, rfl, Hb, Ht, ⟨rfl⟩, BK, HB⟩
    case round =>
      clear HB Hb Ht BK
      obtain ⟨b, t, s, rfl, rfl, rfl, Hb, Ht, Hs, BK, HB⟩ := hrel
      have hs2 : s = 0 ∨ s = 1 ∨ s = 2 := by have := Hs.out; omega
      rcases hs2 with rfl | rfl | rfl
      · have HLG : Aside0 (K = lagOf (2 * q + 0)) := ⟨by rw [lagOf_even]; have := HK.out; omega⟩
        have hc : wr.cell? ⟨g, 0, none⟩ = some (.int .i64 K) := (blk_cell BK.out 0).trans rfl
        go_upto_region 11 with (first | ((with_reducible refine gate_dst (N := 46) rfl ?_); refine goesL_ (some 46) rfl rfl Try.func41 (by kernel_rfl) rfl #[.slice A xs.length ca, .slice B ys.length cb, .int .i64 K] rfl (by (try simp only [List.map_toArray, List.map_cons, List.map_nil]); first | done | rfl) ?_; (with_reducible refine (impl_agree2.calls A B ca cb xs ys K _ ⟨hx.out.below HB.out⟩ ⟨hy.out.below HB.out⟩ Q.out.1 Q.out.2.1 (by have := HNK.out; have := HK.out; have := HKM.out; have := Q.out; omega) (by have := HNK.out; have := HK.out; have := HKM.out; have := Q.out; omega)).mono ?_); rintro e W1 ⟨r, rfl, hs, hb⟩; refine ⟨_, rfl, ?_⟩; have Sr := Aside0.mk hs; replace HB := Aside0.mk (below_step HB.out hb); replace BK := Aside0.mk (blk_below BK.out hb); clear hs hb))
        have HR : Aside0 (Same r (agr xs ys (lagOf (2 * q + 0)))) := ⟨by rw [← HLG.out]; exact Sr.out⟩
        cases hb : bt r t with
        | true =>
          have HY := Aside0.mk hb
          clear hb
          go_wp2_with (first | ((with_reducible refine gate_dst (N := 49) rfl ?_); refine goesL_ (some 49) rfl rfl Try.func42 (by kernel_rfl) rfl #[.float .f64 r, .float .f64 t] rfl (by (try simp only [List.map_toArray, List.map_cons, List.map_nil]); first | done | rfl) ?_; (with_reducible refine (impl_beats.calls r t true HY _).mono ?_); rintro e W1 ⟨rfl, hW⟩; obtain rfl := hW.symm; refine ⟨_, rfl, ?_⟩))
          go_roundg (gk - 1)
          case measure => have := Hs.out; omega
          case rel => exact ⟨_, r, 1, rfl, rfl, by first | rfl | decide, ⟨by rw [HLG.out]; exact (sy_yes HR.out Ht.out HY.out).1.symm⟩, ⟨(sy_yes HR.out Ht.out HY.out).2⟩, ⟨by have := Hs.out; omega⟩, BK, HB⟩
        | false =>
          have HY := Aside0.mk hb
          clear hb
          go_wp2_with (first | ((with_reducible refine gate_dst (N := 49) rfl ?_); refine goesL_ (some 49) rfl rfl Try.func42 (by kernel_rfl) rfl #[.float .f64 r, .float .f64 t] rfl (by (try simp only [List.map_toArray, List.map_cons, List.map_nil]); first | done | rfl) ?_; (with_reducible refine (impl_beats.calls r t false HY _).mono ?_); rintro e W1 ⟨rfl, hW⟩; obtain rfl := hW.symm; refine ⟨_, rfl, ?_⟩))
          go_roundg (gk - 1)
          case measure => have := Hs.out; omega
          case rel => exact ⟨b, t, 1, rfl, rfl, by first | rfl | decide, ⟨by have h := sy_no HR.out Ht.out HY.out; rw [show 2 * q + 1 = 2 * q + 0 + 1 from rfl, h]; exact Hb.out⟩, ⟨by have h := sy_no HR.out Ht.out HY.out; rw [show 2 * q + 1 = 2 * q + 0 + 1 from rfl, h]; exact Ht.out⟩, ⟨by have := Hs.out; omega⟩, BK, HB⟩
      · have HLG : Aside0 ((wrap64 (-K)) = lagOf (2 * q + 1)) := ⟨by rw [HNK.out, lagOf_odd]; have := HK.out; omega⟩
        have hc : wr.cell? ⟨g, 1, none⟩ = some (.int .i64 (wrap64 (-K))) := (blk_cell BK.out 1).trans rfl
        go_upto_region 11 with (first | ((with_reducible refine gate_dst (N := 46) rfl ?_); refine goesL_ (some 46) rfl rfl Try.func41 (by kernel_rfl) rfl #[.slice A xs.length ca, .slice B ys.length cb, .int .i64 (wrap64 (-K))] rfl (by (try simp only [List.map_toArray, List.map_cons, List.map_nil]); first | done | rfl) ?_; (with_reducible refine (impl_agree2.calls A B ca cb xs ys (wrap64 (-K)) _ ⟨hx.out.below HB.out⟩ ⟨hy.out.below HB.out⟩ Q.out.1 Q.out.2.1 (by have := HNK.out; have := HK.out; have := HKM.out; have := Q.out; omega) (by have := HNK.out; have := HK.out; have := HKM.out; have := Q.out; omega)).mono ?_); rintro e W1 ⟨r, rfl, hs, hb⟩; refine ⟨_, rfl, ?_⟩; have Sr := Aside0.mk hs; replace HB := Aside0.mk (below_step HB.out hb); replace BK := Aside0.mk (blk_below BK.out hb); clear hs hb))
        have HR : Aside0 (Same r (agr xs ys (lagOf (2 * q + 1)))) := ⟨by rw [← HLG.out]; exact Sr.out⟩
        cases hb : bt r t with
        | true =>
          have HY := Aside0.mk hb
          clear hb
          go_wp2_with (first | ((with_reducible refine gate_dst (N := 49) rfl ?_); refine goesL_ (some 49) rfl rfl Try.func42 (by kernel_rfl) rfl #[.float .f64 r, .float .f64 t] rfl (by (try simp only [List.map_toArray, List.map_cons, List.map_nil]); first | done | rfl) ?_; (with_reducible refine (impl_beats.calls r t true HY _).mono ?_); rintro e W1 ⟨rfl, hW⟩; obtain rfl := hW.symm; refine ⟨_, rfl, ?_⟩))
          go_roundg (gk - 1)
          case measure => have := Hs.out; omega
          case rel => exact ⟨_, r, 2, rfl, rfl, by first | rfl | decide, ⟨by rw [HLG.out]; exact (sy_yes HR.out Ht.out HY.out).1.symm⟩, ⟨(sy_yes HR.out Ht.out HY.out).2⟩, ⟨by have := Hs.out; omega⟩, BK, HB⟩
        | false =>
          have HY := Aside0.mk hb
          clear hb
          go_wp2_with (first | ((with_reducible refine gate_dst (N := 49) rfl ?_); refine goesL_ (some 49) rfl rfl Try.func42 (by kernel_rfl) rfl #[.float .f64 r, .float .f64 t] rfl (by (try simp only [List.map_toArray, List.map_cons, List.map_nil]); first | done | rfl) ?_; (with_reducible refine (impl_beats.calls r t false HY _).mono ?_); rintro e W1 ⟨rfl, hW⟩; obtain rfl := hW.symm; refine ⟨_, rfl, ?_⟩))
          go_roundg (gk - 1)
          case measure => have := Hs.out; omega
          case rel => exact ⟨b, t, 2, rfl, rfl, by first | rfl | decide, ⟨by have h := sy_no HR.out Ht.out HY.out; rw [show 2 * q + 2 = 2 * q + 1 + 1 from rfl, h]; exact Hb.out⟩, ⟨by have h := sy_no HR.out Ht.out HY.out; rw [show 2 * q + 2 = 2 * q + 1 + 1 from rfl, h]; exact Ht.out⟩, ⟨by have := Hs.out; omega⟩, BK, HB⟩
      · have Hb2 : Aside0 (b = (sy xs ys (2 * (q + 1))).1) := ⟨Hb.out⟩
        have Ht2 : Aside0 (Same t (sy xs ys (2 * (q + 1))).2) := ⟨Ht.out⟩
        clear Hb Ht Hs
        go_wp2
        go_roundg (gkO - 1)
        case measure => have := HK.out; have := HKM.out; have := HGO.out; omega
        case rel => exact ⟨b, t, q + 1, K + 1, rfl, rfl, by first | rfl | rw [Hw9.out], Hb2, Ht2, ⟨by have := HK.out; omega, by have := HK.out; have := HKM.out; have := HGO.out; omega⟩, HB⟩
end Go.Proofs.Ytihmoiheiglohaa.PFnExactSync
