/- FnExactWaves, FnExactBack, FnWavesBack: walks, floats told up to NaN. Written by wip/barred/gen_waves.py. -/
import Derived.Test.YtnldjdpophkkcaaDoorPFnExactWavesx5
import Derived.Outline
import Derived.LoopN
import Derived.RegionTactic
import Derived.BigRegion
namespace Go.Proofs.YtnldjdpophkkcaaDoor.PFnExactWaves
open Go.RowKit Go.Proofs.YtnldjdpophkkcaaDoorW.PrintWords Go.Proofs.YtnldjdpophkkcaaDoorW.PrintLast Go.Proofs.YtnldjdpophkkcaaDoorW.PrintMore Go.Proofs.YtnldjdpophkkcaaDoor.Fl
attribute [local go_sem] run_store_float
set_option linter.unusedVariables false
set_option linter.unusedSimpArgs false
attribute [local go_sem] max2_int min2_int max_two min_two max_three min_three max_four min_four
set_option maxHeartbeats 8000000 in
set_option maxRecDepth 100000 in
theorem spec_l3Sum.yes4 (A : Option Addr) (cap : Nat) (back : Bool) (xs : List (Nat × Nat)) (w : World) (hr : Aside0 (RC w A xs)) (hn : Aside0 (xs.length = 4)) :
    Calls Tryd.prog 18 #[.slice A 4 cap, .bool back] w fun e w' => ∃ B c zs, e = .returned (.slice B 4 c) ∧ zs.length = 4 ∧ Row w' w.heap.size B 4 28 (flat zs) ∧ SP zs ((List.range 4).map (fin back xs)) ∧ Below w.heap.size w w' := by
  have hu2 := Tryd.underlying2
  have hu3 := Tryd.underlying3
  have hu25 := Tryd.underlying25
  have hu26 := Tryd.underlying26
  have hu28 := Tryd.underlying28
  have hu30 := Tryd.underlying30
  have HB := Aside0.mk (Below.refl w.heap.size w)
  go_enter Tryd.func18, Tryd.ntmps18
  go_wp2
  have HO : Aside0 ((w.alloc (.cells #[] 28)).ownsRow w.heap.size 28 2 (.slice (some ⟨w.heap.size, 0, none⟩) 0 0) 0 (VF (flat []))) := ⟨by simpa [VF, flat] using World.ownsRow_lit (base := w.heap.size) (e := 28) (size := 2) w #[] 0 (Nat.le_refl _) (by decide) rfl⟩
  replace HB : Aside0 (Below w.heap.size w (w.alloc (.cells #[] 28))) := ⟨below_alloc HB.out _⟩
  generalize w.alloc (.cells #[] 28) = w1 at HO HB ⊢
  go_loopg [5, 7] 4 (fun kq v5 v7 w' => ∃ (j : Nat) (zs : List (Nat × Nat)), v7 = .int .i64 (j : Int) ∧ Aside0 (j + kq = 4 ∧ zs.length = j) ∧ Aside0 (w'.ownsRow w.heap.size 28 2 v5 j (VF (flat zs))) ∧ Aside0 (SP zs (((List.range 4).map (fin back xs)).take j)) ∧ Aside0 (Below w.heap.size w w'))
  case atStart => exact ⟨0, [], rfl, ⟨by omega, rfl⟩, HO, ⟨SP.nil⟩, HB⟩
  case round =>
    clear HB HO
    obtain ⟨j, zs, rfl, HK, HO, HS, HB⟩ := hrel
    by_cases hj : j < 4
    case neg =>
      have e : j = 4 := by have := HK.out; omega
      have HF : Aside0 (∃ B c, u5 = .slice B 4 c ∧ zs.length = 4 ∧ Row wr w.heap.size B 4 28 (flat zs) ∧ SP zs ((List.range 4).map (fin back xs))) := ⟨by
        have h1 := HO.out
        have h2 := HS.out
        rw [e] at h1 h2
        rw [List.take_of_length_le (by simp)] at h2
        obtain ⟨B, c, h3, h4⟩ := Row.of_own h1
        exact ⟨B, c, h3, by rw [HK.out.2, e], h4, h2⟩⟩
      have hlt : decide ((j : Int) < (4 : Int)) = false := decide_eq_false (by omega)
      clear e HK HO HS hj
      obtain ⟨B, c, rfl, h2⟩ := HF.out
      clear HF
      have HF := Aside0.mk h2
      clear h2
      go_wp2
      go_ret
      exact ⟨B, c, zs, rfl, HF.out.1, HF.out.2.1, HF.out.2.2, HB.out⟩
    have HJ := Aside0.mk hj
    have HT := Aside0.mk (range_snoc (fin back xs) 4 j hj)
    have Hwj : Aside0 (wrap64 ((j : Int) + 1) = ((j + 1 : Nat) : Int)) := ⟨by unfold wrap64; omega⟩
    have HQ : Aside0 (∀ k : Nat, k < 4 → wrap64 (wrap64 (2 * (j : Int)) * (k : Int)) = ((8 / 4 * j * k : Nat) : Int) ∧ 8 / 4 * j * k ≤ 392) := ⟨fun k hk => by
      have h := ix_int back 4 j k (by omega) (by omega)
      have e1 : wrap64 (2 * (j : Int)) = 2 * (j : Int) := by unfold wrap64; omega
      have e2 : ((8 / 4 * j * k : Nat) : Int) = (2 * (j : Int)) * (k : Int) := by rw [Int.natCast_mul, Int.natCast_mul]; first | rfl | simp
      refine ⟨?_, h⟩
      rw [e1, e2]
      have h' : ((8 / 4 * j * k : Nat) : Int) ≤ 392 := by omega
      rw [e2] at h'
      have h0 : 0 ≤ (2 * (j : Int)) * (k : Int) := Int.mul_nonneg (by omega) (by omega)
      unfold wrap64
      omega⟩
    obtain ⟨gkO, hgO⟩ : ∃ g : Nat, g = gk := ⟨_, rfl⟩
    have HGO := Aside0.mk hgO
    clear hgO
    have hlt : decide ((j : Int) < (4 : Int)) = true := decide_eq_true (by omega)
    clear hj
    go_wp2
    have BX : Aside0 ((wr.alloc (.cells #[.float .f64 0, .float .f64 0] 28)).heap[wr.heap.size]? = some (.cells #[.float .f64 0, .float .f64 0] 28 (0, 0))) := ⟨blk_new _ _⟩
    have NE : Aside0 (some wr.heap.size ≠ u5.ownBlock) := ⟨by simpa using own_ne_new HO.out 0⟩
    have LG : Aside0 (w.heap.size ≤ wr.heap.size) := ⟨HB.out.size⟩
    replace HO := Aside0.mk (own_alloc HO.out (.cells #[.float .f64 0, .float .f64 0] 28))
    replace HB := Aside0.mk (below_alloc HB.out (.cells #[.float .f64 0, .float .f64 0] 28))
    generalize wr.alloc (.cells #[.float .f64 0, .float .f64 0] 28) = V at BX HO HB ⊢
    generalize wr.heap.size = g at BX NE LG ⊢
    go_loopg [9] 4 (fun kq v9 w' => ∃ (k s1 s2 : Nat), v9 = .int .i64 (k : Int) ∧ Aside0 (k + kq = 4) ∧ Aside0 (w'.heap[g]? = some (.cells #[.float .f64 s1, .float .f64 s2] 28 (0, 0))) ∧ Aside0 (S2 (s1, s2) (sm back xs j k)) ∧ Aside0 (w'.ownsRow w.heap.size 28 2 u5 j (VF (flat zs))) ∧ Aside0 (Below w.heap.size w w'))
    case atStart => exact ⟨0, 0, 0, rfl, ⟨by omega⟩, BX, ⟨S2.rfl⟩, HO, HB⟩
    case round =>
      clear HB HO BX
      obtain ⟨k, s1, s2, rfl, HKK, BX, HSM, HO, HB⟩ := hrel
      by_cases hk : k < 4
      case neg =>
        have e : k = 4 := by have := HKK.out; omega
        have hltk : decide ((k : Int) < (4 : Int)) = false := decide_eq_false (by omega)
        have c0 : wr.cell? ⟨g, 0, none⟩ = some (.float .f64 s1) := (blk_cell BX.out 0).trans rfl
        have c1 : wr.cell? ⟨g, 1, none⟩ = some (.float .f64 s2) := (blk_cell BX.out 1).trans rfl
        have f0 := blk_frozen BX.out 0
        have f1 := blk_frozen BX.out 1
        have HSN : Aside0 (S2 (s1, s2) (sm back xs j 4)) := ⟨by have := HSM.out; rw [e] at this; exact this⟩
        clear e HKK HSM hk
        cases back with
        | false =>
          have HF : Aside0 (fin false xs j = sm false xs j 4) := ⟨by rw [fin, hn.out]; rfl⟩
          go_wp2_with (first | ((with_reducible refine gate_dst (N := 85) rfl ?_); at_builtin; refine append_pair (w0 := w) w.heap.size rfl (.tmp 82) (.tmp 84) (by rfl) u5 zs s1 s2 (by rfl) (by first | rfl | (refine Eq.trans (b := Value.slice (some ⟨wr.heap.size, 0, none⟩) 1 1) rfl ?_; simp)) ?h1 ?h2 ?h3 ?h4 ?_; (case h1 => (rw [HK.out.2]; exact HO.out)); (case h2 => exact HB.out); (case h3 => exact below_size HB.out); (case h4 => (have := HK.out; have := HJ.out; omega)); intro v1 w2 ho hbel hgr hat; have HO2 := Aside0.mk ho; have HB2 := Aside0.mk hbel; clear hgr hat ho hbel))
          go_roundg (gkO - 1)
          case measure => have := HK.out; have := HJ.out; have := HGO.out; omega
          case rel => exact ⟨j + 1, zs ++ [(s1, s2)], by first | rfl | rw [Hwj.out], ⟨by have := HK.out; have := HJ.out; have := HGO.out; omega, by rw [List.length_append, HK.out.2]; rfl⟩, ⟨by have h := HO2.out; rw [HK.out.2] at h; exact h⟩, ⟨by rw [HT.out, HF.out]; exact HS.out.snoc HSN.out⟩, HB2⟩
        | true =>
          have HF : Aside0 (fin true xs j = dv 4 (sm true xs j 4)) := ⟨by rw [fin, hn.out]; rfl⟩
          go_wp2_with (first | ((with_reducible refine gate_ (.binOp .quo 26 (.tmp 72) (.tmp 74) 26) rfl ?_); refine step_op rfl .quo 26 _ _ 26 rfl rfl (Aside0.mk HSN.out.1).out (Aside0.mk (Same.rfl (x := floatOfInt .f64 4))).out rfl rfl ?_; intro r1 n1 hs1; have hr1 := Aside0.mk hs1; clear hs1) | ((with_reducible refine gate_ (.binOp .quo 26 (.tmp 77) (.tmp 79) 26) rfl ?_); refine step_op rfl .quo 26 _ _ 26 rfl rfl (Aside0.mk HSN.out.2).out (Aside0.mk (Same.rfl (x := floatOfInt .f64 4))).out rfl rfl ?_; intro r2 n2 hs2; have hr2 := Aside0.mk hs2; clear hs2) | ((with_reducible refine gate_dst (N := 85) rfl ?_); at_builtin; refine append_pair (w0 := w) w.heap.size rfl (.tmp 82) (.tmp 84) (by rfl) u5 zs r1 r2 (by rfl) (by first | rfl | (refine Eq.trans (b := Value.slice (some ⟨wr.heap.size, 0, none⟩) 1 1) rfl ?_; simp)) ?h1 ?h2 ?h3 ?h4 ?_; (case h1 => (rw [HK.out.2]; exact own_setCell (own_setCell (pw_own_drewN HO.out _) (p := ⟨g, 0, none⟩) NE.out _) (p := ⟨g, 1, none⟩) NE.out _)); (case h2 => exact (below_set (below_set (pw_below_drewN HB.out _) LG.out) LG.out)); (case h3 => exact below_size (below_set (below_set (pw_below_drewN HB.out _) LG.out) LG.out)); (case h4 => (have := HK.out; have := HJ.out; omega)); intro v1 w2 ho hbel hgr hat; have HO2 := Aside0.mk ho; have HB2 := Aside0.mk hbel; clear hgr hat ho hbel))
          go_roundg (gkO - 1)
          case measure => have := HK.out; have := HJ.out; have := HGO.out; omega
          case rel => exact ⟨j + 1, zs ++ [(r1, r2)], by first | rfl | rw [Hwj.out], ⟨by have := HK.out; have := HJ.out; have := HGO.out; omega, by rw [List.length_append, HK.out.2]; rfl⟩, ⟨by have h := HO2.out; rw [HK.out.2] at h; exact h⟩, ⟨by rw [HT.out, HF.out]; exact HS.out.snoc ⟨hr1.out, hr2.out⟩⟩, HB2⟩
      have hltk : decide ((k : Int) < (4 : Int)) = true := decide_eq_true (by omega)
      obtain ⟨ad, ea, hc, hd⟩ := hr.out.below HB.out k (by rw [hn.out]; exact hk)
      have HSS : Aside0 (sm back xs j (k + 1) = ad2 (sm back xs j k) (prd (xs.getD k (0, 0)) (rt (ix back 4 j k)))) := ⟨by rw [sm, hn.out]⟩
      generalize xs.getD k (0, 0) = X at hc hd HSS
      obtain ⟨X, Y⟩ := X
      have Hwk : Aside0 (wrap64 ((k : Int) + 1) = ((k + 1 : Nat) : Int)) := ⟨by unfold wrap64; omega⟩
      have HKN := Aside0.mk hk
      have p0 : (0 ≤ (k : Int)) = True := eq_true (by omega)
      have p1 : ((k : Int) < (4 : Int)) = True := eq_true (by omega)
      clear hk
      cases ea
      cases back with
      | false =>
        go_upto_region 15 with (fail)
        rw [show (wrap64 (wrap64 (2 * (j : Int)) * (k : Int))).tmod 8 = ((ix false 4 j k : Nat) : Int) from by
          have h := HQ.out k HKN.out
          rw [h.1, ix]
          simp only [Bool.false_eq_true, if_false]
          rw [Int.tmod_eq_emod_of_nonneg (by omega)]
          omega]
        have hm8 := ix_lt false 4 j k
        generalize ix false 4 j k = m at hm8 HSS ⊢
        have HM8 := Aside0.mk hm8
        clear hm8
        refine start_ (n := 9) (S := fun w' => w'.cell? (ad.add (k * 2)) = some (.float .f64 X) ∧ w'.cell? ⟨(ad.add (k * 2)).block, (ad.add (k * 2)).off + 1, none⟩ = some (.float .f64 Y) ∧ Below wr.heap.size wr w') (ds := [8]) #[false, false, false, false, false, false, false, false, false] (by kernel_rfl) rfl rfl ⟨hc, hd, below_drew1 (Below.refl _ _)⟩ (fun hHeld => ?_)
        clear hc hd
        generalize World.drew _ = V2 at hHeld ⊢
        refine pure_ (i := 0) (N := some 52) (v := ?_) (a' := ?_) #[true, false, false, false, false, false, false, false, false] rfl rfl (by kernel_rfl) (fun _ _ _ h => h) (Or.inl ⟨by rfl, ?_⟩) ?_ ?_
        rotate_left
        · intro w'
          go_simp
          with_reducible rfl
        rotate_left
        · simp only [Act.put, List.setIfInBounds_toArray, List.set_cons_zero, List.set_cons_succ, i64_w, i32_w]
          rfl
        refine pure_ (i := 1) (N := some 53) (v := ?_) (a' := ?_) #[true, true, false, false, false, false, false, false, false] rfl rfl (by kernel_rfl) (fun _ _ _ h => h) (Or.inl ⟨by rfl, ?_⟩) ?_ ?_
        rotate_left
        · intro w'
          go_simp
          with_reducible rfl
        rotate_left
        · simp only [Act.put, List.setIfInBounds_toArray, List.set_cons_zero, List.set_cons_succ, i64_w, i32_w]
          rfl
        refine pure_ (i := 2) (N := some 54) (v := ?_) (a' := ?_) #[true, true, true, false, false, false, false, false, false] rfl rfl (by kernel_rfl) (fun _ _ _ h => h) (Or.inl ⟨by rfl, ?_⟩) ?_ ?_
        rotate_left
        · intro w'
          go_simp
          with_reducible rfl
        rotate_left
        · simp only [Act.put, List.setIfInBounds_toArray, List.set_cons_zero, List.set_cons_succ, i64_w, i32_w]
          rfl
        refine take_ (i := 3) (N := some 55) (v := ?_) (a' := ?_) #[true, true, true, true, false, false, false, false, false] rfl rfl (by kernel_rfl) (fun _ _ _ h => h) (Or.inl ⟨by rfl, ?_⟩) hHeld ?_ ?_
        rotate_left
        · rintro w' ⟨s0, s1, s2⟩
          go_simp
          with_reducible rfl
        rotate_left
        · simp only [Act.put, List.setIfInBounds_toArray, List.set_cons_zero, List.set_cons_succ, i64_w, i32_w]
          rfl
        refine pure_ (i := 4) (N := some 56) (v := ?_) (a' := ?_) #[true, true, true, true, true, false, false, false, false] rfl rfl (by kernel_rfl) (fun _ _ _ h => h) (Or.inl ⟨by rfl, ?_⟩) ?_ ?_
        rotate_left
        · intro w'
          go_simp
          with_reducible rfl
        rotate_left
        · simp only [Act.put, List.setIfInBounds_toArray, List.set_cons_zero, List.set_cons_succ, i64_w, i32_w]
          rfl
        refine join_ (σ := Nat × Nat × Nat) 1 #[true, true, true, true, true, true, true, true, false] (fun s_ => [(57, .agg #[.float .f64 (rt m).1, .float .f64 (rt m).2]), (58, .agg #[.float .f64 s_.1, .float .f64 s_.2.1]), (11, .pointer (some ⟨s_.2.2, 0, none⟩))]) (fun s_ w' => Below wr.heap.size wr w' ∧ w'.heap[s_.2.2]? = some (.cells #[.float .f64 0, .float .f64 0] 28 (0, 0)) ∧ wr.heap.size ≤ s_.2.2 ∧ S2 (s_.1, s_.2.1) (prd (X, Y) (rt m))) ?_ ?_
        rotate_left
        · intro hCont
          refine two_ (i := 5) (j := 7) (Ni := some 57) (Nj := some 11) #[true, true, true, true, true, true, false, false, false] #[true, true, true, true, true, false, false, true, false] rfl rfl rfl rfl (by kernel_rfl) (by decide) (by decide) (fun K hK => ?_) (fun K hK => ?_)
          · skip
            refine goes_ Tryd.func24 (by kernel_rfl) rfl #[.int .i64 (m : Int)] (by rfl) rfl rfl (by (try simp only [List.map_toArray, List.map_cons, List.map_nil]); first | done | rfl | simp) ?_
            with_reducible refine (spec_l3Root.calls m HM8.out _).mono ?_
            rintro e W1 ⟨rfl, hb⟩
            refine ⟨_, rfl, ?_⟩
            replace hHeld := And.intro (pw_cell_below hb hHeld.1) (And.intro (pw_cell_below hb hHeld.2.1) (below_step hHeld.2.2 hb))
            clear hb
            refine hK.out _ _ hHeld (fun _ => ?_)
            clear hK K
            refine norm_ (a' := ?_) ?_ ?_
            rotate_left
            · show Act.put _ (some 57) _ = _
              simp only [Act.put, List.setIfInBounds_toArray, List.set_cons_zero, List.set_cons_succ, i64_w, i32_w]
              rfl
            refine two_ (i := 6) (j := 7) (Ni := some 58) (Nj := some 11) #[true, true, true, true, true, true, true, false, false] #[true, true, true, true, true, true, false, true, false] rfl rfl rfl rfl (by kernel_rfl) (by decide) (by decide) (fun K hK => ?_) (fun K hK => ?_)
            · skip
              refine goes_ Tryd.func23 (by kernel_rfl) rfl #[.agg #[.float .f64 X, .float .f64 Y], .agg #[.float .f64 (rt m).1, .float .f64 (rt m).2]] (by rfl) rfl rfl (by (try simp only [List.map_toArray, List.map_cons, List.map_nil]); first | done | rfl | simp) ?_
              with_reducible refine (spec_l3Product.calls X Y (rt m).1 (rt m).2 X Y (rt m).1 (rt m).2 ⟨Same.rfl⟩ ⟨Same.rfl⟩ ⟨Same.rfl⟩ ⟨Same.rfl⟩ _).mono ?_
              rintro e W1 ⟨p1, p2, rfl, h1, h2, hb⟩
              refine ⟨_, rfl, ?_⟩
              replace hHeld := And.intro (pw_cell_below hb hHeld.1) (And.intro (pw_cell_below hb hHeld.2.1) (below_step hHeld.2.2 hb))
              clear hb
              refine hK.out _ _ hHeld (fun _ => ?_)
              clear hK K
              refine norm_ (a' := ?_) ?_ ?_
              rotate_left
              · show Act.put _ (some 58) _ = _
                simp only [Act.put, List.setIfInBounds_toArray, List.set_cons_zero, List.set_cons_succ, i64_w, i32_w]
                rfl
              refine one_ (i := 7) (N := some 11) #[true, true, true, true, true, true, true, true, false] rfl rfl (by kernel_rfl) (by decide) (fun K hK => ?_)
              refine box_step ?hg (N := 11) ?hd (cs := #[.float .f64 0, .float .f64 0]) (t := 28) ?hr ?_; (case hd => rfl); (case hg => rfl); (case hr => first | (go_simp; done) | (go_simp; rfl))
              intro g11 hg W2 hbox hb
              have hge : wr.heap.size ≤ g11 := by rw [hg]; exact hHeld.2.2.size
              replace hHeld := And.intro (pw_cell_below hb hHeld.1) (And.intro (pw_cell_below hb hHeld.2.1) (below_step hHeld.2.2 hb))
              clear hb hg
              refine hK.out _ _ hHeld (fun _ => ?_)
              clear hK K
              refine norm_ (a' := ?_) ?_ ?_
              rotate_left
              · show Act.put _ (some 11) _ = _
                simp only [Act.put, List.setIfInBounds_toArray, List.set_cons_zero, List.set_cons_succ, i64_w, i32_w]
                rfl
              exact norm_ (by simp only [putAll, Act.put, List.setIfInBounds_toArray, List.set_cons_zero, List.set_cons_succ]) (hCont (p1, p2, g11) _ ⟨hHeld.2.2, hbox, hge, ⟨h1, h2⟩⟩)
            · skip
              refine box_step ?hg (N := 11) ?hd (cs := #[.float .f64 0, .float .f64 0]) (t := 28) ?hr ?_; (case hd => rfl); (case hg => rfl); (case hr => first | (go_simp; done) | (go_simp; rfl))
              intro g11 hg W2 hbox hb
              have hge : wr.heap.size ≤ g11 := by rw [hg]; exact hHeld.2.2.size
              replace hHeld := And.intro (pw_cell_below hb hHeld.1) (And.intro (pw_cell_below hb hHeld.2.1) (below_step hHeld.2.2 hb))
              clear hb hg
              refine hK.out _ _ hHeld (fun _ => ?_)
              clear hK K
              refine norm_ (a' := ?_) ?_ ?_
              rotate_left
              · show Act.put _ (some 11) _ = _
                simp only [Act.put, List.setIfInBounds_toArray, List.set_cons_zero, List.set_cons_succ, i64_w, i32_w]
                rfl
              refine one_ (i := 6) (N := some 58) #[true, true, true, true, true, true, true, true, false] rfl rfl (by kernel_rfl) (by decide) (fun K hK => ?_)
              refine goes_ Tryd.func23 (by kernel_rfl) rfl #[.agg #[.float .f64 X, .float .f64 Y], .agg #[.float .f64 (rt m).1, .float .f64 (rt m).2]] (by rfl) rfl rfl (by (try simp only [List.map_toArray, List.map_cons, List.map_nil]); first | done | rfl | simp) ?_
              with_reducible refine (spec_l3Product.calls X Y (rt m).1 (rt m).2 X Y (rt m).1 (rt m).2 ⟨Same.rfl⟩ ⟨Same.rfl⟩ ⟨Same.rfl⟩ ⟨Same.rfl⟩ _).mono ?_
              rintro e W1 ⟨p1, p2, rfl, h1, h2, hb⟩
              refine ⟨_, rfl, ?_⟩
              replace hHeld := And.intro (pw_cell_below hb hHeld.1) (And.intro (pw_cell_below hb hHeld.2.1) (below_step hHeld.2.2 hb))
              replace hbox := blk_below hbox hb
              clear hb
              refine hK.out _ _ hHeld (fun _ => ?_)
              clear hK K
              refine norm_ (a' := ?_) ?_ ?_
              rotate_left
              · show Act.put _ (some 58) _ = _
                simp only [Act.put, List.setIfInBounds_toArray, List.set_cons_zero, List.set_cons_succ, i64_w, i32_w]
                rfl
              exact norm_ (by simp only [putAll, Act.put, List.setIfInBounds_toArray, List.set_cons_zero, List.set_cons_succ]) (hCont (p1, p2, g11) _ ⟨hHeld.2.2, hbox, hge, ⟨h1, h2⟩⟩)
          · skip
            refine box_step ?hg (N := 11) ?hd (cs := #[.float .f64 0, .float .f64 0]) (t := 28) ?hr ?_; (case hd => rfl); (case hg => rfl); (case hr => first | (go_simp; done) | (go_simp; rfl))
            intro g11 hg W2 hbox hb
            have hge : wr.heap.size ≤ g11 := by rw [hg]; exact hHeld.2.2.size
            replace hHeld := And.intro (pw_cell_below hb hHeld.1) (And.intro (pw_cell_below hb hHeld.2.1) (below_step hHeld.2.2 hb))
            clear hb hg
            refine hK.out _ _ hHeld (fun _ => ?_)
            clear hK K
            refine norm_ (a' := ?_) ?_ ?_
            rotate_left
            · show Act.put _ (some 11) _ = _
              simp only [Act.put, List.setIfInBounds_toArray, List.set_cons_zero, List.set_cons_succ, i64_w, i32_w]
              rfl
            refine one_ (i := 5) (N := some 57) #[true, true, true, true, true, true, false, true, false] rfl rfl (by kernel_rfl) (by decide) (fun K hK => ?_)
            refine goes_ Tryd.func24 (by kernel_rfl) rfl #[.int .i64 (m : Int)] (by rfl) rfl rfl (by (try simp only [List.map_toArray, List.map_cons, List.map_nil]); first | done | rfl | simp) ?_
            with_reducible refine (spec_l3Root.calls m HM8.out _).mono ?_
            rintro e W1 ⟨rfl, hb⟩
            refine ⟨_, rfl, ?_⟩
            replace hHeld := And.intro (pw_cell_below hb hHeld.1) (And.intro (pw_cell_below hb hHeld.2.1) (below_step hHeld.2.2 hb))
            replace hbox := blk_below hbox hb
            clear hb
            refine hK.out _ _ hHeld (fun _ => ?_)
            clear hK K
            refine norm_ (a' := ?_) ?_ ?_
            rotate_left
            · show Act.put _ (some 57) _ = _
              simp only [Act.put, List.setIfInBounds_toArray, List.set_cons_zero, List.set_cons_succ, i64_w, i32_w]
              rfl
            refine one_ (i := 6) (N := some 58) #[true, true, true, true, true, true, true, true, false] rfl rfl (by kernel_rfl) (by decide) (fun K hK => ?_)
            refine goes_ Tryd.func23 (by kernel_rfl) rfl #[.agg #[.float .f64 X, .float .f64 Y], .agg #[.float .f64 (rt m).1, .float .f64 (rt m).2]] (by rfl) rfl rfl (by (try simp only [List.map_toArray, List.map_cons, List.map_nil]); first | done | rfl | simp) ?_
            with_reducible refine (spec_l3Product.calls X Y (rt m).1 (rt m).2 X Y (rt m).1 (rt m).2 ⟨Same.rfl⟩ ⟨Same.rfl⟩ ⟨Same.rfl⟩ ⟨Same.rfl⟩ _).mono ?_
            rintro e W1 ⟨p1, p2, rfl, h1, h2, hb⟩
            refine ⟨_, rfl, ?_⟩
            replace hHeld := And.intro (pw_cell_below hb hHeld.1) (And.intro (pw_cell_below hb hHeld.2.1) (below_step hHeld.2.2 hb))
            replace hbox := blk_below hbox hb
            clear hb
            refine hK.out _ _ hHeld (fun _ => ?_)
            clear hK K
            refine norm_ (a' := ?_) ?_ ?_
            rotate_left
            · show Act.put _ (some 58) _ = _
              simp only [Act.put, List.setIfInBounds_toArray, List.set_cons_zero, List.set_cons_succ, i64_w, i32_w]
              rfl
            exact norm_ (by simp only [putAll, Act.put, List.setIfInBounds_toArray, List.set_cons_zero, List.set_cons_succ]) (hCont (p1, p2, g11) _ ⟨hHeld.2.2, hbox, hge, ⟨h1, h2⟩⟩)
        rintro ⟨p1, p2, g11⟩ W9 ⟨hB9, hbox, hge, hs2⟩
        clear hHeld
        have HGE := Aside0.mk hge
        have HS2 := Aside0.mk hs2
        have HB9 := Aside0.mk hB9
        have HBO := Aside0.mk hbox
        refine norm_ (a' := ?_) ?_ ?_
        rotate_left
        · simp only [putAll, Act.put, List.setIfInBounds_toArray, List.set_cons_zero, List.set_cons_succ]
          rfl
        refine last_ (i := 8) (N := none) #[true, true, true, true, true, true, true, true, true] rfl rfl (by kernel_rfl) (by decide) (fun K hK => ?_)
        have e0 : W9.cell? ⟨g11, 0, none⟩ = some (.float .f64 0) := (blk_cell hbox 0).trans rfl
        have e1 : W9.cell? ⟨g11, 1, none⟩ = some (.float .f64 0) := (blk_cell hbox 1).trans rfl
        have e2 := blk_frozen hbox 0
        have e3 := blk_frozen hbox 1
        clear hge hs2 hB9 hbox
        refine skip_ (w1 := ?_) (by rfl) rfl ?_ ?_
        rotate_left
        · go_simp
          rfl
        refine hK.out _ _ ?_
        clear hK K e0 e1 e2 e3
        refine done_ (by kernel_rfl) ?_
        have HBX := Aside0.mk (below_set (g := g11) (j := 1) (v := .float .f64 p2) (below_set (g := g11) (j := 0) (v := .float .f64 p1) HB9.out HGE.out) HGE.out)
        replace BX := Aside0.mk (blk_below BX.out HBX.out)
        replace HO := Aside0.mk (pw_own_below HO.out HBX.out)
        replace HB := Aside0.mk (below_step HB.out HBX.out)
        have B11 : Aside0 (((W9.setCell ⟨g11, 0, none⟩ (.float .f64 p1)).setCell ⟨g11, 1, none⟩ (.float .f64 p2)).heap[g11]? = some (.cells #[.float .f64 p1, .float .f64 p2] 28 (0, 0))) := ⟨blk_put (cs := #[.float .f64 p1, .float .f64 0]) (blk_put (cs := #[.float .f64 0, .float .f64 0]) HBO.out 0 _ rfl) 1 _ rfl⟩
        generalize (W9.setCell ⟨g11, 0, none⟩ (.float .f64 p1)).setCell ⟨g11, 1, none⟩ (.float .f64 p2) = V3 at BX HO HB B11 HBX ⊢
        clear HBX HB9 HBO HGE
        have c0 : V3.cell? ⟨g, 0, none⟩ = some (.float .f64 s1) := (blk_cell BX.out 0).trans rfl
        have c1 : V3.cell? ⟨g, 1, none⟩ = some (.float .f64 s2) := (blk_cell BX.out 1).trans rfl
        have f0 := blk_frozen BX.out 0
        have f1 := blk_frozen BX.out 1
        have d0 : V3.cell? ⟨g11, 0, none⟩ = some (.float .f64 p1) := (blk_cell B11.out 0).trans rfl
        have d1 : V3.cell? ⟨g11, 1, none⟩ = some (.float .f64 p2) := (blk_cell B11.out 1).trans rfl
        have q1 := Aside0.mk HSM.out.1
        have q2 := Aside0.mk HSM.out.2
        have q3 := Aside0.mk HS2.out.1
        have q4 := Aside0.mk HS2.out.2
        go_wp2_with (first | ((with_reducible refine gate_ (.binOp .add 26 (.tmp 60) (.tmp 62) 26) rfl ?_); refine step_op rfl .add 26 _ _ 26 rfl rfl q1.out q3.out rfl rfl ?_; intro r1 n1 hs1; have hr1 := Aside0.mk hs1; clear hs1) | ((with_reducible refine gate_ (.binOp .add 26 (.tmp 65) (.tmp 67) 26) rfl ?_); refine step_op rfl .add 26 _ _ 26 rfl rfl q2.out q4.out rfl rfl ?_; intro r2 n2 hs2; have hr2 := Aside0.mk hs2; clear hs2))
        go_roundg (gk - 1)
        case measure => have := HKK.out; have := HKN.out; omega
        case rel => exact ⟨k + 1, r1, r2, by first | rfl | rw [Hwk.out], ⟨by have := HKK.out; have := HKN.out; omega⟩, ⟨blk_put (cs := #[.float .f64 r1, .float .f64 s2]) (blk_put (cs := #[.float .f64 s1, .float .f64 s2]) (blk_drewN BX.out _) 0 _ rfl) 1 _ rfl⟩, ⟨by rw [HSS.out]; exact ⟨hr1.out, hr2.out⟩⟩, ⟨own_setCell (own_setCell (pw_own_drewN HO.out _) (p := ⟨g, 0, none⟩) NE.out _) (p := ⟨g, 1, none⟩) NE.out _⟩, ⟨below_set (below_set (pw_below_drewN HB.out _) LG.out) LG.out⟩⟩
      | true =>
        go_upto_region 15 with (fail)
        rw [show (wrap64 (8 - (wrap64 (wrap64 (2 * (j : Int)) * (k : Int))).tmod 8)).tmod 8 = ((ix true 4 j k : Nat) : Int) from by
          have h := HQ.out k HKN.out
          rw [h.1, ix]
          simp only [if_true]
          have t1 : ((8 / 4 * j * k : Nat) : Int).tmod 8 = ((8 / 4 * j * k % 8 : Nat) : Int) := by
            rw [Int.tmod_eq_emod_of_nonneg (by omega)]
            omega
          rw [t1]
          generalize 8 / 4 * j * k = M
          have e : wrap64 (8 - ((M % 8 : Nat) : Int)) = ((8 - M % 8 : Nat) : Int) := by unfold wrap64; omega
          rw [e, Int.tmod_eq_emod_of_nonneg (by omega)]
          omega]
        have hm8 := ix_lt true 4 j k
        generalize ix true 4 j k = m at hm8 HSS ⊢
        have HM8 := Aside0.mk hm8
        clear hm8
        refine start_ (n := 9) (S := fun w' => w'.cell? (ad.add (k * 2)) = some (.float .f64 X) ∧ w'.cell? ⟨(ad.add (k * 2)).block, (ad.add (k * 2)).off + 1, none⟩ = some (.float .f64 Y) ∧ Below wr.heap.size wr w') (ds := [8]) #[false, false, false, false, false, false, false, false, false] (by kernel_rfl) rfl rfl ⟨hc, hd, below_drew1 (Below.refl _ _)⟩ (fun hHeld => ?_)
        clear hc hd
        generalize World.drew _ = V2 at hHeld ⊢
        refine pure_ (i := 0) (N := some 52) (v := ?_) (a' := ?_) #[true, false, false, false, false, false, false, false, false] rfl rfl (by kernel_rfl) (fun _ _ _ h => h) (Or.inl ⟨by rfl, ?_⟩) ?_ ?_
        rotate_left
        · intro w'
          go_simp
          with_reducible rfl
        rotate_left
        · simp only [Act.put, List.setIfInBounds_toArray, List.set_cons_zero, List.set_cons_succ, i64_w, i32_w]
          rfl
        refine pure_ (i := 1) (N := some 53) (v := ?_) (a' := ?_) #[true, true, false, false, false, false, false, false, false] rfl rfl (by kernel_rfl) (fun _ _ _ h => h) (Or.inl ⟨by rfl, ?_⟩) ?_ ?_
        rotate_left
        · intro w'
          go_simp
          with_reducible rfl
        rotate_left
        · simp only [Act.put, List.setIfInBounds_toArray, List.set_cons_zero, List.set_cons_succ, i64_w, i32_w]
          rfl
        refine pure_ (i := 2) (N := some 54) (v := ?_) (a' := ?_) #[true, true, true, false, false, false, false, false, false] rfl rfl (by kernel_rfl) (fun _ _ _ h => h) (Or.inl ⟨by rfl, ?_⟩) ?_ ?_
        rotate_left
        · intro w'
          go_simp
          with_reducible rfl
        rotate_left
        · simp only [Act.put, List.setIfInBounds_toArray, List.set_cons_zero, List.set_cons_succ, i64_w, i32_w]
          rfl
        refine take_ (i := 3) (N := some 55) (v := ?_) (a' := ?_) #[true, true, true, true, false, false, false, false, false] rfl rfl (by kernel_rfl) (fun _ _ _ h => h) (Or.inl ⟨by rfl, ?_⟩) hHeld ?_ ?_
        rotate_left
        · rintro w' ⟨s0, s1, s2⟩
          go_simp
          with_reducible rfl
        rotate_left
        · simp only [Act.put, List.setIfInBounds_toArray, List.set_cons_zero, List.set_cons_succ, i64_w, i32_w]
          rfl
        refine pure_ (i := 4) (N := some 56) (v := ?_) (a' := ?_) #[true, true, true, true, true, false, false, false, false] rfl rfl (by kernel_rfl) (fun _ _ _ h => h) (Or.inl ⟨by rfl, ?_⟩) ?_ ?_
        rotate_left
        · intro w'
          go_simp
          with_reducible rfl
        rotate_left
        · simp only [Act.put, List.setIfInBounds_toArray, List.set_cons_zero, List.set_cons_succ, i64_w, i32_w]
          rfl
        refine join_ (σ := Nat × Nat × Nat) 1 #[true, true, true, true, true, true, true, true, false] (fun s_ => [(57, .agg #[.float .f64 (rt m).1, .float .f64 (rt m).2]), (58, .agg #[.float .f64 s_.1, .float .f64 s_.2.1]), (11, .pointer (some ⟨s_.2.2, 0, none⟩))]) (fun s_ w' => Below wr.heap.size wr w' ∧ w'.heap[s_.2.2]? = some (.cells #[.float .f64 0, .float .f64 0] 28 (0, 0)) ∧ wr.heap.size ≤ s_.2.2 ∧ S2 (s_.1, s_.2.1) (prd (X, Y) (rt m))) ?_ ?_
        rotate_left
        · intro hCont
          refine two_ (i := 5) (j := 7) (Ni := some 57) (Nj := some 11) #[true, true, true, true, true, true, false, false, false] #[true, true, true, true, true, false, false, true, false] rfl rfl rfl rfl (by kernel_rfl) (by decide) (by decide) (fun K hK => ?_) (fun K hK => ?_)
          · skip
            refine goes_ Tryd.func24 (by kernel_rfl) rfl #[.int .i64 (m : Int)] (by rfl) rfl rfl (by (try simp only [List.map_toArray, List.map_cons, List.map_nil]); first | done | rfl | simp) ?_
            with_reducible refine (spec_l3Root.calls m HM8.out _).mono ?_
            rintro e W1 ⟨rfl, hb⟩
            refine ⟨_, rfl, ?_⟩
            replace hHeld := And.intro (pw_cell_below hb hHeld.1) (And.intro (pw_cell_below hb hHeld.2.1) (below_step hHeld.2.2 hb))
            clear hb
            refine hK.out _ _ hHeld (fun _ => ?_)
            clear hK K
            refine norm_ (a' := ?_) ?_ ?_
            rotate_left
            · show Act.put _ (some 57) _ = _
              simp only [Act.put, List.setIfInBounds_toArray, List.set_cons_zero, List.set_cons_succ, i64_w, i32_w]
              rfl
            refine two_ (i := 6) (j := 7) (Ni := some 58) (Nj := some 11) #[true, true, true, true, true, true, true, false, false] #[true, true, true, true, true, true, false, true, false] rfl rfl rfl rfl (by kernel_rfl) (by decide) (by decide) (fun K hK => ?_) (fun K hK => ?_)
            · skip
              refine goes_ Tryd.func23 (by kernel_rfl) rfl #[.agg #[.float .f64 X, .float .f64 Y], .agg #[.float .f64 (rt m).1, .float .f64 (rt m).2]] (by rfl) rfl rfl (by (try simp only [List.map_toArray, List.map_cons, List.map_nil]); first | done | rfl | simp) ?_
              with_reducible refine (spec_l3Product.calls X Y (rt m).1 (rt m).2 X Y (rt m).1 (rt m).2 ⟨Same.rfl⟩ ⟨Same.rfl⟩ ⟨Same.rfl⟩ ⟨Same.rfl⟩ _).mono ?_
              rintro e W1 ⟨p1, p2, rfl, h1, h2, hb⟩
              refine ⟨_, rfl, ?_⟩
              replace hHeld := And.intro (pw_cell_below hb hHeld.1) (And.intro (pw_cell_below hb hHeld.2.1) (below_step hHeld.2.2 hb))
              clear hb
              refine hK.out _ _ hHeld (fun _ => ?_)
              clear hK K
              refine norm_ (a' := ?_) ?_ ?_
              rotate_left
              · show Act.put _ (some 58) _ = _
                simp only [Act.put, List.setIfInBounds_toArray, List.set_cons_zero, List.set_cons_succ, i64_w, i32_w]
                rfl
              refine one_ (i := 7) (N := some 11) #[true, true, true, true, true, true, true, true, false] rfl rfl (by kernel_rfl) (by decide) (fun K hK => ?_)
              refine box_step ?hg (N := 11) ?hd (cs := #[.float .f64 0, .float .f64 0]) (t := 28) ?hr ?_; (case hd => rfl); (case hg => rfl); (case hr => first | (go_simp; done) | (go_simp; rfl))
              intro g11 hg W2 hbox hb
              have hge : wr.heap.size ≤ g11 := by rw [hg]; exact hHeld.2.2.size
              replace hHeld := And.intro (pw_cell_below hb hHeld.1) (And.intro (pw_cell_below hb hHeld.2.1) (below_step hHeld.2.2 hb))
              clear hb hg
              refine hK.out _ _ hHeld (fun _ => ?_)
              clear hK K
              refine norm_ (a' := ?_) ?_ ?_
              rotate_left
              · show Act.put _ (some 11) _ = _
                simp only [Act.put, List.setIfInBounds_toArray, List.set_cons_zero, List.set_cons_succ, i64_w, i32_w]
                rfl
              exact norm_ (by simp only [putAll, Act.put, List.setIfInBounds_toArray, List.set_cons_zero, List.set_cons_succ]) (hCont (p1, p2, g11) _ ⟨hHeld.2.2, hbox, hge, ⟨h1, h2⟩⟩)
            · skip
              refine box_step ?hg (N := 11) ?hd (cs := #[.float .f64 0, .float .f64 0]) (t := 28) ?hr ?_; (case hd => rfl); (case hg => rfl); (case hr => first | (go_simp; done) | (go_simp; rfl))
              intro g11 hg W2 hbox hb
              have hge : wr.heap.size ≤ g11 := by rw [hg]; exact hHeld.2.2.size
              replace hHeld := And.intro (pw_cell_below hb hHeld.1) (And.intro (pw_cell_below hb hHeld.2.1) (below_step hHeld.2.2 hb))
              clear hb hg
              refine hK.out _ _ hHeld (fun _ => ?_)
              clear hK K
              refine norm_ (a' := ?_) ?_ ?_
              rotate_left
              · show Act.put _ (some 11) _ = _
                simp only [Act.put, List.setIfInBounds_toArray, List.set_cons_zero, List.set_cons_succ, i64_w, i32_w]
                rfl
              refine one_ (i := 6) (N := some 58) #[true, true, true, true, true, true, true, true, false] rfl rfl (by kernel_rfl) (by decide) (fun K hK => ?_)
              refine goes_ Tryd.func23 (by kernel_rfl) rfl #[.agg #[.float .f64 X, .float .f64 Y], .agg #[.float .f64 (rt m).1, .float .f64 (rt m).2]] (by rfl) rfl rfl (by (try simp only [List.map_toArray, List.map_cons, List.map_nil]); first | done | rfl | simp) ?_
              with_reducible refine (spec_l3Product.calls X Y (rt m).1 (rt m).2 X Y (rt m).1 (rt m).2 ⟨Same.rfl⟩ ⟨Same.rfl⟩ ⟨Same.rfl⟩ ⟨Same.rfl⟩ _).mono ?_
              rintro e W1 ⟨p1, p2, rfl, h1, h2, hb⟩
              refine ⟨_, rfl, ?_⟩
              replace hHeld := And.intro (pw_cell_below hb hHeld.1) (And.intro (pw_cell_below hb hHeld.2.1) (below_step hHeld.2.2 hb))
              replace hbox := blk_below hbox hb
              clear hb
              refine hK.out _ _ hHeld (fun _ => ?_)
              clear hK K
              refine norm_ (a' := ?_) ?_ ?_
              rotate_left
              · show Act.put _ (some 58) _ = _
                simp only [Act.put, List.setIfInBounds_toArray, List.set_cons_zero, List.set_cons_succ, i64_w, i32_w]
                rfl
              exact norm_ (by simp only [putAll, Act.put, List.setIfInBounds_toArray, List.set_cons_zero, List.set_cons_succ]) (hCont (p1, p2, g11) _ ⟨hHeld.2.2, hbox, hge, ⟨h1, h2⟩⟩)
          · skip
            refine box_step ?hg (N := 11) ?hd (cs := #[.float .f64 0, .float .f64 0]) (t := 28) ?hr ?_; (case hd => rfl); (case hg => rfl); (case hr => first | (go_simp; done) | (go_simp; rfl))
            intro g11 hg W2 hbox hb
            have hge : wr.heap.size ≤ g11 := by rw [hg]; exact hHeld.2.2.size
            replace hHeld := And.intro (pw_cell_below hb hHeld.1) (And.intro (pw_cell_below hb hHeld.2.1) (below_step hHeld.2.2 hb))
            clear hb hg
            refine hK.out _ _ hHeld (fun _ => ?_)
            clear hK K
            refine norm_ (a' := ?_) ?_ ?_
            rotate_left
            · show Act.put _ (some 11) _ = _
              simp only [Act.put, List.setIfInBounds_toArray, List.set_cons_zero, List.set_cons_succ, i64_w, i32_w]
              rfl
            refine one_ (i := 5) (N := some 57) #[true, true, true, true, true, true, false, true, false] rfl rfl (by kernel_rfl) (by decide) (fun K hK => ?_)
            refine goes_ Tryd.func24 (by kernel_rfl) rfl #[.int .i64 (m : Int)] (by rfl) rfl rfl (by (try simp only [List.map_toArray, List.map_cons, List.map_nil]); first | done | rfl | simp) ?_
            with_reducible refine (spec_l3Root.calls m HM8.out _).mono ?_
            rintro e W1 ⟨rfl, hb⟩
            refine ⟨_, rfl, ?_⟩
            replace hHeld := And.intro (pw_cell_below hb hHeld.1) (And.intro (pw_cell_below hb hHeld.2.1) (below_step hHeld.2.2 hb))
            replace hbox := blk_below hbox hb
            clear hb
            refine hK.out _ _ hHeld (fun _ => ?_)
            clear hK K
            refine norm_ (a' := ?_) ?_ ?_
            rotate_left
            · show Act.put _ (some 57) _ = _
              simp only [Act.put, List.setIfInBounds_toArray, List.set_cons_zero, List.set_cons_succ, i64_w, i32_w]
              rfl
            refine one_ (i := 6) (N := some 58) #[true, true, true, true, true, true, true, true, false] rfl rfl (by kernel_rfl) (by decide) (fun K hK => ?_)
            refine goes_ Tryd.func23 (by kernel_rfl) rfl #[.agg #[.float .f64 X, .float .f64 Y], .agg #[.float .f64 (rt m).1, .float .f64 (rt m).2]] (by rfl) rfl rfl (by (try simp only [List.map_toArray, List.map_cons, List.map_nil]); first | done | rfl | simp) ?_
            with_reducible refine (spec_l3Product.calls X Y (rt m).1 (rt m).2 X Y (rt m).1 (rt m).2 ⟨Same.rfl⟩ ⟨Same.rfl⟩ ⟨Same.rfl⟩ ⟨Same.rfl⟩ _).mono ?_
            rintro e W1 ⟨p1, p2, rfl, h1, h2, hb⟩
            refine ⟨_, rfl, ?_⟩
            replace hHeld := And.intro (pw_cell_below hb hHeld.1) (And.intro (pw_cell_below hb hHeld.2.1) (below_step hHeld.2.2 hb))
            replace hbox := blk_below hbox hb
            clear hb
            refine hK.out _ _ hHeld (fun _ => ?_)
            clear hK K
            refine norm_ (a' := ?_) ?_ ?_
            rotate_left
            · show Act.put _ (some 58) _ = _
              simp only [Act.put, List.setIfInBounds_toArray, List.set_cons_zero, List.set_cons_succ, i64_w, i32_w]
              rfl
            exact norm_ (by simp only [putAll, Act.put, List.setIfInBounds_toArray, List.set_cons_zero, List.set_cons_succ]) (hCont (p1, p2, g11) _ ⟨hHeld.2.2, hbox, hge, ⟨h1, h2⟩⟩)
        rintro ⟨p1, p2, g11⟩ W9 ⟨hB9, hbox, hge, hs2⟩
        clear hHeld
        have HGE := Aside0.mk hge
        have HS2 := Aside0.mk hs2
        have HB9 := Aside0.mk hB9
        have HBO := Aside0.mk hbox
        refine norm_ (a' := ?_) ?_ ?_
        rotate_left
        · simp only [putAll, Act.put, List.setIfInBounds_toArray, List.set_cons_zero, List.set_cons_succ]
          rfl
        refine last_ (i := 8) (N := none) #[true, true, true, true, true, true, true, true, true] rfl rfl (by kernel_rfl) (by decide) (fun K hK => ?_)
        have e0 : W9.cell? ⟨g11, 0, none⟩ = some (.float .f64 0) := (blk_cell hbox 0).trans rfl
        have e1 : W9.cell? ⟨g11, 1, none⟩ = some (.float .f64 0) := (blk_cell hbox 1).trans rfl
        have e2 := blk_frozen hbox 0
        have e3 := blk_frozen hbox 1
        clear hge hs2 hB9 hbox
        refine skip_ (w1 := ?_) (by rfl) rfl ?_ ?_
        rotate_left
        · go_simp
          rfl
        refine hK.out _ _ ?_
        clear hK K e0 e1 e2 e3
        refine done_ (by kernel_rfl) ?_
        have HBX := Aside0.mk (below_set (g := g11) (j := 1) (v := .float .f64 p2) (below_set (g := g11) (j := 0) (v := .float .f64 p1) HB9.out HGE.out) HGE.out)
        replace BX := Aside0.mk (blk_below BX.out HBX.out)
        replace HO := Aside0.mk (pw_own_below HO.out HBX.out)
        replace HB := Aside0.mk (below_step HB.out HBX.out)
        have B11 : Aside0 (((W9.setCell ⟨g11, 0, none⟩ (.float .f64 p1)).setCell ⟨g11, 1, none⟩ (.float .f64 p2)).heap[g11]? = some (.cells #[.float .f64 p1, .float .f64 p2] 28 (0, 0))) := ⟨blk_put (cs := #[.float .f64 p1, .float .f64 0]) (blk_put (cs := #[.float .f64 0, .float .f64 0]) HBO.out 0 _ rfl) 1 _ rfl⟩
        generalize (W9.setCell ⟨g11, 0, none⟩ (.float .f64 p1)).setCell ⟨g11, 1, none⟩ (.float .f64 p2) = V3 at BX HO HB B11 HBX ⊢
        clear HBX HB9 HBO HGE
        have c0 : V3.cell? ⟨g, 0, none⟩ = some (.float .f64 s1) := (blk_cell BX.out 0).trans rfl
        have c1 : V3.cell? ⟨g, 1, none⟩ = some (.float .f64 s2) := (blk_cell BX.out 1).trans rfl
        have f0 := blk_frozen BX.out 0
        have f1 := blk_frozen BX.out 1
        have d0 : V3.cell? ⟨g11, 0, none⟩ = some (.float .f64 p1) := (blk_cell B11.out 0).trans rfl
        have d1 : V3.cell? ⟨g11, 1, none⟩ = some (.float .f64 p2) := (blk_cell B11.out 1).trans rfl
        have q1 := Aside0.mk HSM.out.1
        have q2 := Aside0.mk HSM.out.2
        have q3 := Aside0.mk HS2.out.1
        have q4 := Aside0.mk HS2.out.2
        go_wp2_with (first | ((with_reducible refine gate_ (.binOp .add 26 (.tmp 60) (.tmp 62) 26) rfl ?_); refine step_op rfl .add 26 _ _ 26 rfl rfl q1.out q3.out rfl rfl ?_; intro r1 n1 hs1; have hr1 := Aside0.mk hs1; clear hs1) | ((with_reducible refine gate_ (.binOp .add 26 (.tmp 65) (.tmp 67) 26) rfl ?_); refine step_op rfl .add 26 _ _ 26 rfl rfl q2.out q4.out rfl rfl ?_; intro r2 n2 hs2; have hr2 := Aside0.mk hs2; clear hs2))
        go_roundg (gk - 1)
        case measure => have := HKK.out; have := HKN.out; omega
        case rel => exact ⟨k + 1, r1, r2, by first | rfl | rw [Hwk.out], ⟨by have := HKK.out; have := HKN.out; omega⟩, ⟨blk_put (cs := #[.float .f64 r1, .float .f64 s2]) (blk_put (cs := #[.float .f64 s1, .float .f64 s2]) (blk_drewN BX.out _) 0 _ rfl) 1 _ rfl⟩, ⟨by rw [HSS.out]; exact ⟨hr1.out, hr2.out⟩⟩, ⟨own_setCell (own_setCell (pw_own_drewN HO.out _) (p := ⟨g, 0, none⟩) NE.out _) (p := ⟨g, 1, none⟩) NE.out _⟩, ⟨below_set (below_set (pw_below_drewN HB.out _) LG.out) LG.out⟩⟩
end Go.Proofs.YtnldjdpophkkcaaDoor.PFnExactWaves
