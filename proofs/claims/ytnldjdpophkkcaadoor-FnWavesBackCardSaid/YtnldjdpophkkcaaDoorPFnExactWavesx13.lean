/- FnExactWaves, FnExactBack, FnWavesBack: walks, floats told up to NaN. Written by wip/barred/gen_turned.py. -/
import Derived.Test.YtnldjdpophkkcaaDoorPFnExactWavesx10
import Derived.Outline
import Derived.LoopN
import Derived.RegionTactic
import Derived.BigRegion
namespace Go.Proofs.YtnldjdpophkkcaaDoor.PFnExactWaves
open Go.RowKit Go.Proofs.YtnldjdpophkkcaaDoorW.PrintWords Go.Proofs.YtnldjdpophkkcaaDoorW.PrintLast Go.Proofs.YtnldjdpophkkcaaDoorW.PrintMore Go.Proofs.YtnldjdpophkkcaaDoor.Fl
attribute [local go_sem] run_store_float
set_option linter.unusedVariables false
set_option linter.unusedSimpArgs false
attribute [local go_sem] max2_int min2_int max_two min_two max_three min_three max_four min_four
set_option maxHeartbeats 8000000 in
set_option maxRecDepth 100000 in
theorem impl_turned.yes8 (A : Option Addr) (cap : Nat) (back : Bool) (xs : List (Nat × Nat)) (w : World) (hr : Aside0 (RC w A xs)) (hm : Aside0 (Mx w)) (hn : Aside0 (xs.length = 8)) :
    Calls Tryd.prog 17 #[.slice A 8 cap, .bool back] w fun e w' => ∃ B c zs, e = .returned (.slice B 8 c) ∧ zs.length = 8 ∧ Row w' w.heap.size B 8 28 (flat zs) ∧ SP zs ((List.range 8).map (fun j => sm back xs j 8)) ∧ Below w.heap.size w w' := by
  have hu2 := Tryd.underlying2
  have hu3 := Tryd.underlying3
  have hu25 := Tryd.underlying25
  have hu26 := Tryd.underlying26
  have hu28 := Tryd.underlying28
  have hu30 := Tryd.underlying30
  have hu42 := Tryd.underlying42
  have HB := Aside0.mk (Below.refl w.heap.size w)
  go_enter Tryd.func17, Tryd.ntmps17
  go_wp2
  have HO : Aside0 ((w.alloc (.cells #[] 28)).ownsRow w.heap.size 28 2 (.slice (some ⟨w.heap.size, 0, none⟩) 0 0) 0 (VF (flat []))) := ⟨by simpa [VF, flat] using World.ownsRow_lit (base := w.heap.size) (e := 28) (size := 2) w #[] 0 (Nat.le_refl _) (by decide) rfl⟩
  replace HB : Aside0 (Below w.heap.size w (w.alloc (.cells #[] 28))) := ⟨below_alloc HB.out _⟩
  generalize w.alloc (.cells #[] 28) = w1 at HO HB ⊢
  go_loopg [6, 30] 8 (fun kq v6 v30 w' => ∃ (j : Nat) (zs : List (Nat × Nat)), v30 = .int .i64 (j : Int) ∧ Aside0 (j + kq = 8 ∧ zs.length = j) ∧ Aside0 (w'.ownsRow w.heap.size 28 2 v6 j (VF (flat zs))) ∧ Aside0 (SP zs (((List.range 8).map (fun j => sm back xs j 8)).take j)) ∧ Aside0 (Below w.heap.size w w'))
  case atStart => exact ⟨0, [], rfl, ⟨by omega, rfl⟩, HO, ⟨SP.nil⟩, HB⟩
  case round =>
    clear HB HO
    obtain ⟨j, zs, rfl, HK, HO, HS, HB⟩ := hrel
    by_cases hj : j < 8
    case neg =>
      have e : j = 8 := by have := HK.out; omega
      have HF : Aside0 (∃ B c, u6 = .slice B 8 c ∧ zs.length = 8 ∧ Row wr w.heap.size B 8 28 (flat zs) ∧ SP zs ((List.range 8).map (fun j => sm back xs j 8))) := ⟨by
        have h1 := HO.out
        have h2 := HS.out
        rw [e] at h1 h2
        rw [List.take_of_length_le (by simp)] at h2
        obtain ⟨B, c, h3, h4⟩ := Row.of_own h1
        exact ⟨B, c, h3, by rw [HK.out.2, e], h4, h2⟩⟩
      have hlt : decide ((j : Int) < (8 : Int)) = false := decide_eq_false (by omega)
      clear e HK HO HS hj
      obtain ⟨B, c, rfl, h2⟩ := HF.out
      clear HF
      have HF := Aside0.mk h2
      clear h2
      go_wp2
      go_ret
      exact ⟨B, c, zs, rfl, HF.out.1, HF.out.2.1, HF.out.2.2, HB.out⟩
    have HJ := Aside0.mk hj
    have HT := Aside0.mk (range_snoc (fun j => sm back xs j 8) 8 j hj)
    have Hwj : Aside0 (wrap64 ((j : Int) + 1) = ((j + 1 : Nat) : Int)) := ⟨by unfold wrap64; omega⟩
    have HQ : Aside0 (∀ k : Nat, k < 8 → wrap64 (wrap64 ((j : Int)) * (k : Int)) = ((8 / 8 * j * k : Nat) : Int) ∧ 8 / 8 * j * k ≤ 392) := ⟨fun k hk => by
      have h := ix_int back 8 j k (by omega) (by omega)
      have e1 : wrap64 ((j : Int)) = (j : Int) := by unfold wrap64; omega
      have e2 : ((8 / 8 * j * k : Nat) : Int) = ((j : Int)) * (k : Int) := by rw [Int.natCast_mul, Int.natCast_mul]; first | rfl | simp
      refine ⟨?_, h⟩
      rw [e1, e2]
      have h' : ((8 / 8 * j * k : Nat) : Int) ≤ 392 := by omega
      rw [e2] at h'
      have h0 : 0 ≤ ((j : Int)) * (k : Int) := Int.mul_nonneg (by omega) (by omega)
      unfold wrap64
      omega⟩
    obtain ⟨gkO, hgO⟩ : ∃ g : Nat, g = gk := ⟨_, rfl⟩
    have HGO := Aside0.mk hgO
    clear hgO
    have hlt : decide ((j : Int) < (8 : Int)) = true := decide_eq_true (by omega)
    clear hj
    go_wp2
    have BX : Aside0 ((wr.alloc (.cells #[.float .f64 0, .float .f64 0] 28)).heap[wr.heap.size]? = some (.cells #[.float .f64 0, .float .f64 0] 28 (0, 0))) := ⟨blk_new _ _⟩
    have NE : Aside0 (some wr.heap.size ≠ u6.ownBlock) := ⟨by simpa using own_ne_new HO.out 0⟩
    have LG : Aside0 (w.heap.size ≤ wr.heap.size) := ⟨HB.out.size⟩
    replace HO := Aside0.mk (own_alloc HO.out (.cells #[.float .f64 0, .float .f64 0] 28))
    replace HB := Aside0.mk (below_alloc HB.out (.cells #[.float .f64 0, .float .f64 0] 28))
    generalize wr.alloc (.cells #[.float .f64 0, .float .f64 0] 28) = V at BX HO HB ⊢
    generalize wr.heap.size = g at BX NE LG ⊢
    go_loopg [36] 8 (fun kq v36 w' => ∃ (k s1 s2 : Nat), v36 = .int .i64 (k : Int) ∧ Aside0 (k + kq = 8) ∧ Aside0 (w'.heap[g]? = some (.cells #[.float .f64 s1, .float .f64 s2] 28 (0, 0))) ∧ Aside0 (S2 (s1, s2) (sm back xs j k)) ∧ Aside0 (w'.ownsRow w.heap.size 28 2 u6 j (VF (flat zs))) ∧ Aside0 (Below w.heap.size w w'))
    case atStart => exact ⟨0, 0, 0, rfl, ⟨by omega⟩, BX, ⟨S2.rfl⟩, HO, HB⟩
    case round =>
      clear HB HO BX
      obtain ⟨k, s1, s2, rfl, HKK, BX, HSM, HO, HB⟩ := hrel
      by_cases hk : k < 8
      case neg =>
        have e : k = 8 := by have := HKK.out; omega
        have hltk : decide ((k : Int) < (8 : Int)) = false := decide_eq_false (by omega)
        have c0 : wr.cell? ⟨g, 0, none⟩ = some (.float .f64 s1) := (blk_cell BX.out 0).trans rfl
        have c1 : wr.cell? ⟨g, 1, none⟩ = some (.float .f64 s2) := (blk_cell BX.out 1).trans rfl
        have f0 := blk_frozen BX.out 0
        have f1 := blk_frozen BX.out 1
        have HSN : Aside0 (S2 (s1, s2) (sm back xs j 8)) := ⟨by have := HSM.out; rw [e] at this; exact this⟩
        clear e HKK HSM hk
        go_wp2_with (first | ((with_reducible refine gate_dst (N := 63) rfl ?_); at_builtin; refine append_pair (w0 := w) w.heap.size rfl (.tmp 60) (.tmp 62) (by rfl) u6 zs s1 s2 (by rfl) (by first | rfl | (refine Eq.trans (b := Value.slice (some ⟨wr.heap.size, 0, none⟩) 1 1) rfl ?_; simp)) ?h1 ?h2 ?h3 ?h4 ?_; (case h1 => (rw [HK.out.2]; exact HO.out)); (case h2 => exact HB.out); (case h3 => exact below_size HB.out); (case h4 => (have := HK.out; have := HJ.out; omega)); intro v1 w2 ho hbel hgr hat; have HO2 := Aside0.mk ho; have HB2 := Aside0.mk hbel; clear hgr hat ho hbel))
        go_roundg (gkO - 1)
        case measure => have := HK.out; have := HJ.out; have := HGO.out; omega
        case rel => exact ⟨j + 1, zs ++ [(s1, s2)], by first | rfl | rw [Hwj.out], ⟨by have := HK.out; have := HJ.out; have := HGO.out; omega, by rw [List.length_append, HK.out.2]; rfl⟩, ⟨by have h := HO2.out; rw [HK.out.2] at h; exact h⟩, ⟨by rw [HT.out]; exact HS.out.snoc HSN.out⟩, HB2⟩
      have hltk : decide ((k : Int) < (8 : Int)) = true := decide_eq_true (by omega)
      obtain ⟨ad, ea, hc, hd⟩ := hr.out.below HB.out k (by rw [hn.out]; exact hk)
      have HSS : Aside0 (sm back xs j (k + 1) = ad2 (sm back xs j k) (prd (xs.getD k (0, 0)) (rt (ix back 8 j k)))) := ⟨by rw [sm, hn.out]⟩
      generalize xs.getD k (0, 0) = X at hc hd HSS
      obtain ⟨X, Y⟩ := X
      have Hwk : Aside0 (wrap64 ((k : Int) + 1) = ((k + 1 : Nat) : Int)) := ⟨by unfold wrap64; omega⟩
      have HKN := Aside0.mk hk
      have p0 : (0 ≤ (k : Int)) = True := eq_true (by omega)
      have p1 : ((k : Int) < (8 : Int)) = True := eq_true (by omega)
      clear hk
      cases ea
      cases back with
      | false =>
        go_upto_region 15 with (fail)
        rw [show (wrap64 (wrap64 ((j : Int)) * (k : Int))).tmod 8 = ((ix false 8 j k : Nat) : Int) from by
          have h := HQ.out k HKN.out
          rw [h.1, ix]
          simp only [Bool.false_eq_true, if_false]
          rw [Int.tmod_eq_emod_of_nonneg (by omega)]
          omega]
        have hm8 := ix_lt false 8 j k
        generalize ix false 8 j k = m at hm8 HSS ⊢
        have HM8 := Aside0.mk hm8
        have pm0 : (0 ≤ (m : Int)) = True := eq_true (by omega)
        have pm1 : ((m : Int) < 8) = True := eq_true (by omega)
        clear hm8 hc hd
        have BT : Aside0 ((wr.alloc (.cells #[.float .f64 X, .float .f64 Y] 28)).heap[wr.heap.size]? = some (.cells #[.float .f64 X, .float .f64 Y] 28 (0, 0))) := ⟨blk_new _ _⟩
        replace BX := Aside0.mk (blk_alloc BX.out (.cells #[.float .f64 X, .float .f64 Y] 28))
        replace HO := Aside0.mk (own_alloc HO.out (.cells #[.float .f64 X, .float .f64 Y] 28))
        replace HB := Aside0.mk (below_alloc HB.out (.cells #[.float .f64 X, .float .f64 Y] 28))
        generalize wr.alloc (.cells #[.float .f64 X, .float .f64 Y] 28) = V1 at BT BX HO HB ⊢
        generalize wr.heap.size = g10 at BT ⊢
        have q1 := Aside0.mk HSM.out.1
        have q2 := Aside0.mk HSM.out.2
        have hmx := (hm.out.below HB.out).at_ m HM8.out
        refine start_ (n := 8) (S := fun w' => w'.cell? ⟨g, 0, none⟩ = some (.float .f64 s1) ∧ w'.cell? ⟨g, 1, none⟩ = some (.float .f64 s2) ∧ w'.cell? ⟨g10, 0, none⟩ = some (.float .f64 X) ∧ w'.cell? ⟨g10, 1, none⟩ = some (.float .f64 Y) ∧ w'.cell? ⟨0, m * 2, none⟩ = some (.float .f64 (rt m).1) ∧ w'.cell? ⟨0, m * 2 + 1, none⟩ = some (.float .f64 (rt m).2) ∧ Below V1.heap.size V1 w') (ds := [7]) #[false, false, false, false, false, false, false, false] (by kernel_rfl) rfl rfl ⟨(blk_cell BX.out 0).trans rfl, (blk_cell BX.out 1).trans rfl, (blk_cell BT.out 0).trans rfl, (blk_cell BT.out 1).trans rfl, hmx.1, hmx.2, below_drew1 (Below.refl _ _)⟩ (fun hHeld => ?_)
        clear hmx
        generalize World.drew _ = V2 at hHeld ⊢
        refine take_ (i := 0) (N := some 52) (v := ?_) (a' := ?_) #[true, false, false, false, false, false, false, false] rfl rfl (by kernel_rfl) (fun _ _ _ h => h) (Or.inl ⟨by rfl, ?_⟩) hHeld ?_ ?_
        rotate_left
        · rintro w' ⟨s0, s1, s2, s3, s4, s5, s6⟩
          go_simp
          with_reducible rfl
        rotate_left
        · simp only [Act.put, List.setIfInBounds_toArray, List.set_cons_zero, List.set_cons_succ, i64_w, i32_w]
          rfl
        refine take_ (i := 1) (N := some 53) (v := ?_) (a' := ?_) #[true, true, false, false, false, false, false, false] rfl rfl (by kernel_rfl) (fun _ _ _ h => h) (Or.inl ⟨by rfl, ?_⟩) hHeld ?_ ?_
        rotate_left
        · rintro w' ⟨s0, s1, s2, s3, s4, s5, s6⟩
          go_simp
          with_reducible rfl
        rotate_left
        · simp only [Act.put, List.setIfInBounds_toArray, List.set_cons_zero, List.set_cons_succ, i64_w, i32_w]
          rfl
        refine pure_ (i := 2) (N := some 54) (v := ?_) (a' := ?_) #[true, true, true, false, false, false, false, false] rfl rfl (by kernel_rfl) (fun _ _ _ h => h) (Or.inl ⟨by rfl, ?_⟩) ?_ ?_
        rotate_left
        · intro w'
          go_simp
          with_reducible rfl
        rotate_left
        · simp only [Act.put, List.setIfInBounds_toArray, List.set_cons_zero, List.set_cons_succ, i64_w, i32_w]
          rfl
        refine pure_ (i := 3) (N := some 55) (v := ?_) (a' := ?_) #[true, true, true, true, false, false, false, false] rfl rfl (by kernel_rfl) (fun _ _ _ h => h) (Or.inl ⟨by rfl, ?_⟩) ?_ ?_
        rotate_left
        · intro w'
          go_simp
          with_reducible rfl
        rotate_left
        · simp only [Act.put, List.setIfInBounds_toArray, List.set_cons_zero, List.set_cons_succ, i64_w, i32_w]
          rfl
        refine take_ (i := 4) (N := some 56) (v := ?_) (a' := ?_) #[true, true, true, true, true, false, false, false] rfl rfl (by kernel_rfl) (fun _ _ _ h => h) (Or.inl ⟨by rfl, ?_⟩) hHeld ?_ ?_
        rotate_left
        · rintro w' ⟨s0, s1, s2, s3, s4, s5, s6⟩
          go_simp
          with_reducible rfl
        rotate_left
        · simp only [Act.put, List.setIfInBounds_toArray, List.set_cons_zero, List.set_cons_succ, i64_w, i32_w]
          rfl
        refine one_ (i := 5) (N := some 57) #[true, true, true, true, true, true, false, false] rfl rfl (by kernel_rfl) (by decide) (fun K hK => ?_)
        refine goes_ Tryd.func22 (by kernel_rfl) rfl #[.agg #[.float .f64 X, .float .f64 Y], .agg #[.float .f64 (rt m).1, .float .f64 (rt m).2]] (by rfl) rfl rfl (by (try simp only [List.map_toArray, List.map_cons, List.map_nil]); first | done | rfl | simp) ?_
        with_reducible refine (impl_Product.calls X Y (rt m).1 (rt m).2 X Y (rt m).1 (rt m).2 ⟨Same.rfl⟩ ⟨Same.rfl⟩ ⟨Same.rfl⟩ ⟨Same.rfl⟩ _).mono ?_
        rintro e W1 ⟨p1, p2, rfl, h1, h2, hb⟩
        refine ⟨_, rfl, ?_⟩
        have q3 := Aside0.mk h1
        have q4 := Aside0.mk h2
        clear h1 h2
        replace hHeld := And.intro (pw_cell_below hb hHeld.1) (And.intro (pw_cell_below hb hHeld.2.1) (And.intro (pw_cell_below hb hHeld.2.2.1) (And.intro (pw_cell_below hb hHeld.2.2.2.1) (And.intro (pw_cell_below hb hHeld.2.2.2.2.1) (And.intro (pw_cell_below hb hHeld.2.2.2.2.2.1) (below_step hHeld.2.2.2.2.2.2 hb))))))
        clear hb
        refine hK.out _ _ hHeld (fun _ => ?_)
        clear hK K
        refine norm_ (a' := ?_) ?_ ?_
        rotate_left
        · show Act.put _ (some 57) _ = _
          simp only [Act.put, List.setIfInBounds_toArray, List.set_cons_zero, List.set_cons_succ, i64_w, i32_w]
          rfl
        refine one_ (i := 6) (N := some 58) #[true, true, true, true, true, true, true, false] rfl rfl (by kernel_rfl) (by decide) (fun K hK => ?_)
        refine goes_ Tryd.func21 (by kernel_rfl) rfl #[.agg #[.float .f64 s1, .float .f64 s2], .agg #[.float .f64 p1, .float .f64 p2]] (by rfl) rfl rfl (by (try simp only [List.map_toArray, List.map_cons, List.map_nil]); first | done | rfl | simp) ?_
        with_reducible refine (impl_plus.calls s1 s2 p1 p2 _ _ _ _ q1 q2 q3 q4 _).mono ?_
        rintro e W1 ⟨r1, r2, rfl, h1, h2, hb⟩
        refine ⟨_, rfl, ?_⟩
        have q5 := Aside0.mk h1
        have q6 := Aside0.mk h2
        clear h1 h2
        replace hHeld := And.intro (pw_cell_below hb hHeld.1) (And.intro (pw_cell_below hb hHeld.2.1) (And.intro (pw_cell_below hb hHeld.2.2.1) (And.intro (pw_cell_below hb hHeld.2.2.2.1) (And.intro (pw_cell_below hb hHeld.2.2.2.2.1) (And.intro (pw_cell_below hb hHeld.2.2.2.2.2.1) (below_step hHeld.2.2.2.2.2.2 hb))))))
        clear hb
        refine hK.out _ _ hHeld (fun _ => ?_)
        clear hK K
        refine norm_ (a' := ?_) ?_ ?_
        rotate_left
        · show Act.put _ (some 58) _ = _
          simp only [Act.put, List.setIfInBounds_toArray, List.set_cons_zero, List.set_cons_succ, i64_w, i32_w]
          rfl
        refine last_ (i := 7) (N := none) #[true, true, true, true, true, true, true, true] rfl rfl (by kernel_rfl) (by decide) (fun K hK => ?_)
        have HBX := Aside0.mk hHeld.2.2.2.2.2.2
        clear hHeld
        replace BX := Aside0.mk (blk_below BX.out HBX.out)
        replace HO := Aside0.mk (pw_own_below HO.out HBX.out)
        replace HB := Aside0.mk (below_step HB.out HBX.out)
        clear HBX
        have e0 := (blk_cell BX.out 0).trans (show _ = some (.float .f64 s1) from rfl)
        have e1 := (blk_cell BX.out 1).trans (show _ = some (.float .f64 s2) from rfl)
        have e2 := blk_frozen BX.out 0
        have e3 := blk_frozen BX.out 1
        refine skip_ (w1 := ?_) (by rfl) rfl ?_ ?_
        rotate_left
        · go_simp
          rfl
        refine hK.out _ _ ?_
        clear hK K e0 e1 e2 e3
        refine done_ (by kernel_rfl) ?_
        replace BX := Aside0.mk (blk_put (cs := #[.float .f64 r1, .float .f64 s2]) (blk_put (cs := #[.float .f64 s1, .float .f64 s2]) BX.out 0 (.float .f64 r1) rfl) 1 (.float .f64 r2) (cs' := #[.float .f64 r1, .float .f64 r2]) rfl)
        replace HO := Aside0.mk (own_setCell (own_setCell HO.out (p := ⟨g, 0, none⟩) NE.out (.float .f64 r1)) (p := ⟨g, 1, none⟩) NE.out (.float .f64 r2))
        replace HB := Aside0.mk (below_set (g := g) (j := 1) (v := .float .f64 r2) (below_set (g := g) (j := 0) (v := .float .f64 r1) HB.out LG.out) LG.out)
        generalize World.setCell _ _ _ = V3 at BX HO HB ⊢
        go_wp2
        go_roundg (gk - 1)
        case measure => have := HKK.out; have := HKN.out; omega
        case rel => exact ⟨k + 1, r1, r2, by first | rfl | rw [Hwk.out], ⟨by have := HKK.out; have := HKN.out; omega⟩, BX, ⟨by rw [HSS.out]; exact ⟨q5.out, q6.out⟩⟩, HO, HB⟩
      | true =>
        go_upto_region 15 with (fail)
        rw [show (wrap64 (8 - (wrap64 (wrap64 ((j : Int)) * (k : Int))).tmod 8)).tmod 8 = ((ix true 8 j k : Nat) : Int) from by
          have h := HQ.out k HKN.out
          rw [h.1, ix]
          simp only [if_true]
          have t1 : ((8 / 8 * j * k : Nat) : Int).tmod 8 = ((8 / 8 * j * k % 8 : Nat) : Int) := by
            rw [Int.tmod_eq_emod_of_nonneg (by omega)]
            omega
          rw [t1]
          generalize 8 / 8 * j * k = M
          have e : wrap64 (8 - ((M % 8 : Nat) : Int)) = ((8 - M % 8 : Nat) : Int) := by unfold wrap64; omega
          rw [e, Int.tmod_eq_emod_of_nonneg (by omega)]
          omega]
        have hm8 := ix_lt true 8 j k
        generalize ix true 8 j k = m at hm8 HSS ⊢
        have HM8 := Aside0.mk hm8
        have pm0 : (0 ≤ (m : Int)) = True := eq_true (by omega)
        have pm1 : ((m : Int) < 8) = True := eq_true (by omega)
        clear hm8 hc hd
        have BT : Aside0 ((wr.alloc (.cells #[.float .f64 X, .float .f64 Y] 28)).heap[wr.heap.size]? = some (.cells #[.float .f64 X, .float .f64 Y] 28 (0, 0))) := ⟨blk_new _ _⟩
        replace BX := Aside0.mk (blk_alloc BX.out (.cells #[.float .f64 X, .float .f64 Y] 28))
        replace HO := Aside0.mk (own_alloc HO.out (.cells #[.float .f64 X, .float .f64 Y] 28))
        replace HB := Aside0.mk (below_alloc HB.out (.cells #[.float .f64 X, .float .f64 Y] 28))
        generalize wr.alloc (.cells #[.float .f64 X, .float .f64 Y] 28) = V1 at BT BX HO HB ⊢
        generalize wr.heap.size = g10 at BT ⊢
        have q1 := Aside0.mk HSM.out.1
        have q2 := Aside0.mk HSM.out.2
        have hmx := (hm.out.below HB.out).at_ m HM8.out
        refine start_ (n := 8) (S := fun w' => w'.cell? ⟨g, 0, none⟩ = some (.float .f64 s1) ∧ w'.cell? ⟨g, 1, none⟩ = some (.float .f64 s2) ∧ w'.cell? ⟨g10, 0, none⟩ = some (.float .f64 X) ∧ w'.cell? ⟨g10, 1, none⟩ = some (.float .f64 Y) ∧ w'.cell? ⟨0, m * 2, none⟩ = some (.float .f64 (rt m).1) ∧ w'.cell? ⟨0, m * 2 + 1, none⟩ = some (.float .f64 (rt m).2) ∧ Below V1.heap.size V1 w') (ds := [7]) #[false, false, false, false, false, false, false, false] (by kernel_rfl) rfl rfl ⟨(blk_cell BX.out 0).trans rfl, (blk_cell BX.out 1).trans rfl, (blk_cell BT.out 0).trans rfl, (blk_cell BT.out 1).trans rfl, hmx.1, hmx.2, below_drew1 (Below.refl _ _)⟩ (fun hHeld => ?_)
        clear hmx
        generalize World.drew _ = V2 at hHeld ⊢
        refine take_ (i := 0) (N := some 52) (v := ?_) (a' := ?_) #[true, false, false, false, false, false, false, false] rfl rfl (by kernel_rfl) (fun _ _ _ h => h) (Or.inl ⟨by rfl, ?_⟩) hHeld ?_ ?_
        rotate_left
        · rintro w' ⟨s0, s1, s2, s3, s4, s5, s6⟩
          go_simp
          with_reducible rfl
        rotate_left
        · simp only [Act.put, List.setIfInBounds_toArray, List.set_cons_zero, List.set_cons_succ, i64_w, i32_w]
          rfl
        refine take_ (i := 1) (N := some 53) (v := ?_) (a' := ?_) #[true, true, false, false, false, false, false, false] rfl rfl (by kernel_rfl) (fun _ _ _ h => h) (Or.inl ⟨by rfl, ?_⟩) hHeld ?_ ?_
        rotate_left
        · rintro w' ⟨s0, s1, s2, s3, s4, s5, s6⟩
          go_simp
          with_reducible rfl
        rotate_left
        · simp only [Act.put, List.setIfInBounds_toArray, List.set_cons_zero, List.set_cons_succ, i64_w, i32_w]
          rfl
        refine pure_ (i := 2) (N := some 54) (v := ?_) (a' := ?_) #[true, true, true, false, false, false, false, false] rfl rfl (by kernel_rfl) (fun _ _ _ h => h) (Or.inl ⟨by rfl, ?_⟩) ?_ ?_
        rotate_left
        · intro w'
          go_simp
          with_reducible rfl
        rotate_left
        · simp only [Act.put, List.setIfInBounds_toArray, List.set_cons_zero, List.set_cons_succ, i64_w, i32_w]
          rfl
        refine pure_ (i := 3) (N := some 55) (v := ?_) (a' := ?_) #[true, true, true, true, false, false, false, false] rfl rfl (by kernel_rfl) (fun _ _ _ h => h) (Or.inl ⟨by rfl, ?_⟩) ?_ ?_
        rotate_left
        · intro w'
          go_simp
          with_reducible rfl
        rotate_left
        · simp only [Act.put, List.setIfInBounds_toArray, List.set_cons_zero, List.set_cons_succ, i64_w, i32_w]
          rfl
        refine take_ (i := 4) (N := some 56) (v := ?_) (a' := ?_) #[true, true, true, true, true, false, false, false] rfl rfl (by kernel_rfl) (fun _ _ _ h => h) (Or.inl ⟨by rfl, ?_⟩) hHeld ?_ ?_
        rotate_left
        · rintro w' ⟨s0, s1, s2, s3, s4, s5, s6⟩
          go_simp
          with_reducible rfl
        rotate_left
        · simp only [Act.put, List.setIfInBounds_toArray, List.set_cons_zero, List.set_cons_succ, i64_w, i32_w]
          rfl
        refine one_ (i := 5) (N := some 57) #[true, true, true, true, true, true, false, false] rfl rfl (by kernel_rfl) (by decide) (fun K hK => ?_)
        refine goes_ Tryd.func22 (by kernel_rfl) rfl #[.agg #[.float .f64 X, .float .f64 Y], .agg #[.float .f64 (rt m).1, .float .f64 (rt m).2]] (by rfl) rfl rfl (by (try simp only [List.map_toArray, List.map_cons, List.map_nil]); first | done | rfl | simp) ?_
        with_reducible refine (impl_Product.calls X Y (rt m).1 (rt m).2 X Y (rt m).1 (rt m).2 ⟨Same.rfl⟩ ⟨Same.rfl⟩ ⟨Same.rfl⟩ ⟨Same.rfl⟩ _).mono ?_
        rintro e W1 ⟨p1, p2, rfl, h1, h2, hb⟩
        refine ⟨_, rfl, ?_⟩
        have q3 := Aside0.mk h1
        have q4 := Aside0.mk h2
        clear h1 h2
        replace hHeld := And.intro (pw_cell_below hb hHeld.1) (And.intro (pw_cell_below hb hHeld.2.1) (And.intro (pw_cell_below hb hHeld.2.2.1) (And.intro (pw_cell_below hb hHeld.2.2.2.1) (And.intro (pw_cell_below hb hHeld.2.2.2.2.1) (And.intro (pw_cell_below hb hHeld.2.2.2.2.2.1) (below_step hHeld.2.2.2.2.2.2 hb))))))
        clear hb
        refine hK.out _ _ hHeld (fun _ => ?_)
        clear hK K
        refine norm_ (a' := ?_) ?_ ?_
        rotate_left
        · show Act.put _ (some 57) _ = _
          simp only [Act.put, List.setIfInBounds_toArray, List.set_cons_zero, List.set_cons_succ, i64_w, i32_w]
          rfl
        refine one_ (i := 6) (N := some 58) #[true, true, true, true, true, true, true, false] rfl rfl (by kernel_rfl) (by decide) (fun K hK => ?_)
        refine goes_ Tryd.func21 (by kernel_rfl) rfl #[.agg #[.float .f64 s1, .float .f64 s2], .agg #[.float .f64 p1, .float .f64 p2]] (by rfl) rfl rfl (by (try simp only [List.map_toArray, List.map_cons, List.map_nil]); first | done | rfl | simp) ?_
        with_reducible refine (impl_plus.calls s1 s2 p1 p2 _ _ _ _ q1 q2 q3 q4 _).mono ?_
        rintro e W1 ⟨r1, r2, rfl, h1, h2, hb⟩
        refine ⟨_, rfl, ?_⟩
        have q5 := Aside0.mk h1
        have q6 := Aside0.mk h2
        clear h1 h2
        replace hHeld := And.intro (pw_cell_below hb hHeld.1) (And.intro (pw_cell_below hb hHeld.2.1) (And.intro (pw_cell_below hb hHeld.2.2.1) (And.intro (pw_cell_below hb hHeld.2.2.2.1) (And.intro (pw_cell_below hb hHeld.2.2.2.2.1) (And.intro (pw_cell_below hb hHeld.2.2.2.2.2.1) (below_step hHeld.2.2.2.2.2.2 hb))))))
        clear hb
        refine hK.out _ _ hHeld (fun _ => ?_)
        clear hK K
        refine norm_ (a' := ?_) ?_ ?_
        rotate_left
        · show Act.put _ (some 58) _ = _
          simp only [Act.put, List.setIfInBounds_toArray, List.set_cons_zero, List.set_cons_succ, i64_w, i32_w]
          rfl
        refine last_ (i := 7) (N := none) #[true, true, true, true, true, true, true, true] rfl rfl (by kernel_rfl) (by decide) (fun K hK => ?_)
        have HBX := Aside0.mk hHeld.2.2.2.2.2.2
        clear hHeld
        replace BX := Aside0.mk (blk_below BX.out HBX.out)
        replace HO := Aside0.mk (pw_own_below HO.out HBX.out)
        replace HB := Aside0.mk (below_step HB.out HBX.out)
        clear HBX
        have e0 := (blk_cell BX.out 0).trans (show _ = some (.float .f64 s1) from rfl)
        have e1 := (blk_cell BX.out 1).trans (show _ = some (.float .f64 s2) from rfl)
        have e2 := blk_frozen BX.out 0
        have e3 := blk_frozen BX.out 1
        refine skip_ (w1 := ?_) (by rfl) rfl ?_ ?_
        rotate_left
        · go_simp
          rfl
        refine hK.out _ _ ?_
        clear hK K e0 e1 e2 e3
        refine done_ (by kernel_rfl) ?_
        replace BX := Aside0.mk (blk_put (cs := #[.float .f64 r1, .float .f64 s2]) (blk_put (cs := #[.float .f64 s1, .float .f64 s2]) BX.out 0 (.float .f64 r1) rfl) 1 (.float .f64 r2) (cs' := #[.float .f64 r1, .float .f64 r2]) rfl)
        replace HO := Aside0.mk (own_setCell (own_setCell HO.out (p := ⟨g, 0, none⟩) NE.out (.float .f64 r1)) (p := ⟨g, 1, none⟩) NE.out (.float .f64 r2))
        replace HB := Aside0.mk (below_set (g := g) (j := 1) (v := .float .f64 r2) (below_set (g := g) (j := 0) (v := .float .f64 r1) HB.out LG.out) LG.out)
        generalize World.setCell _ _ _ = V3 at BX HO HB ⊢
        go_wp2
        go_roundg (gk - 1)
        case measure => have := HKK.out; have := HKN.out; omega
        case rel => exact ⟨k + 1, r1, r2, by first | rfl | rw [Hwk.out], ⟨by have := HKK.out; have := HKN.out; omega⟩, BX, ⟨by rw [HSS.out]; exact ⟨q5.out, q6.out⟩⟩, HO, HB⟩
end Go.Proofs.YtnldjdpophkkcaaDoor.PFnExactWaves
