/- FnExactProduct: the walks, floats told up to NaN. Written by wip/wave/gen_product.py. -/
import Derived.Test.YtihmoiheiglohaaPFnExactProductx1
import Derived.Test.YtihmoiheiglohaaFl
namespace Go.Proofs.Ytihmoiheiglohaa.PFnExactProduct
open Go.RowKit Go.Proofs.YtihmoiheiglohaaW.PrintWords Go.Proofs.YtihmoiheiglohaaW.PrintLast Go.Proofs.YtihmoiheiglohaaW.PrintMore Go.Proofs.Ytihmoiheiglohaa.Fl
attribute [local go_sem] run_store_float
set_option linter.unusedVariables false
set_option linter.unusedSimpArgs false
/-- What the law comes to: whatever the four floats, true. -/
def laws_FnExactProduct.f (a b c d : Nat) : Option Bool := some true
set_option maxHeartbeats 8000000 in
set_option maxRecDepth 100000 in
theorem laws_FnExactProduct.calls (a b c d : Nat) (r : Bool) (w : World) (hr : laws_FnExactProduct.f a b c d = some r) :
    Calls Try.prog 3 #[.agg #[.float .f64 a, .float .f64 b], .agg #[.float .f64 c, .float .f64 d]] w fun e w' => e = .returned (.bool r) ∧ Below w.heap.size w w' := by
  obtain rfl : true = r := Option.some.inj hr
  clear hr
  have hu24 := Try.underlying24
  have hu25 := Try.underlying25
  have HB := Aside0.mk (Below.refl w.heap.size w)
  go_enter Try.func3, Try.ntmps3
  go_wp2_with (first | ((with_reducible refine gate_dst (N := 2) rfl ?_); refine box_event ?hg (N := 2) ?hd (cs := #[.float .f64 a, .float .f64 b]) (t := 24) ?hr ?_; (case hd => rfl); (case hg => rfl); (case hr => first | (go_simp; done) | (go_simp; rfl)); intro g0 hg W2 hbox hb; have HB2 := Aside0.mk (below_step HB.out hb); have K2_ := Aside0.mk hbox; clear hb hbox hg) | ((with_reducible refine gate_dst (N := 3) rfl ?_); refine box_event ?hg (N := 3) ?hd (cs := #[.float .f64 c, .float .f64 d]) (t := 24) ?hr ?_; (case hd => rfl); (case hg => rfl); (case hr => first | (go_simp; done) | (go_simp; rfl)); intro g1 hg W3 hbox hb; have K4_ := Aside0.mk (blk_below K2_.out hb); have HB3 := Aside0.mk (below_step HB2.out hb); have K3_ := Aside0.mk hbox; clear hb hbox hg))
  have K0 := K4_
  have K1 := K3_
  clear HB HB2 K2_ K3_ K4_
  have HB := HB3
  clear HB3
  replace K0 := Aside0.mk (blk_drew K0.out)
  replace K1 := Aside0.mk (blk_drew K1.out)
  replace HB := Aside0.mk (below_drew1 HB.out)
  refine start_ (n := 7) (S := fun w' => w'.heap[g0]? = some (.cells #[.float .f64 a, .float .f64 b] 24 (0, 0)) ∧ w'.heap[g1]? = some (.cells #[.float .f64 c, .float .f64 d] 24 (0, 0))) (ds := []) #[false, false, false, false, false, false, false] (by kernel_rfl) rfl rfl ⟨K0.out, K1.out⟩ (fun hHeld => ?_)
  generalize World.drew _ = V1 at K0 K1 HB hHeld ⊢
  refine take_ (i := 0) (N := some 7) (v := ?_) (a' := ?_) #[true, false, false, false, false, false, false] rfl rfl (by kernel_rfl) (fun _ _ _ h => h) (Or.inl ⟨by rfl, ?_⟩) hHeld ?_ ?_
  rotate_left
  · rintro w' ⟨s0, s1⟩
    have c00 : w'.cell? ⟨g0, 0, none⟩ = some (.float .f64 a) := (blk_cell s0 0).trans rfl
    have c01 : w'.cell? ⟨g0, 1, none⟩ = some (.float .f64 b) := (blk_cell s0 1).trans rfl
    have c10 : w'.cell? ⟨g1, 0, none⟩ = some (.float .f64 c) := (blk_cell s1 0).trans rfl
    have c11 : w'.cell? ⟨g1, 1, none⟩ = some (.float .f64 d) := (blk_cell s1 1).trans rfl
    clear s0 s1
    go_simp
    with_reducible rfl
  rotate_left
  · simp only [Act.put, List.setIfInBounds_toArray, List.set_cons_zero, List.set_cons_succ, i64_w, i32_w]
    rfl
  refine take_ (i := 2) (N := some 9) (v := ?_) (a' := ?_) #[true, false, true, false, false, false, false] rfl rfl (by kernel_rfl) (fun _ _ _ h => h) (Or.inl ⟨by rfl, ?_⟩) hHeld ?_ ?_
  rotate_left
  · rintro w' ⟨s0, s1⟩
    have c00 : w'.cell? ⟨g0, 0, none⟩ = some (.float .f64 a) := (blk_cell s0 0).trans rfl
    have c01 : w'.cell? ⟨g0, 1, none⟩ = some (.float .f64 b) := (blk_cell s0 1).trans rfl
    have c10 : w'.cell? ⟨g1, 0, none⟩ = some (.float .f64 c) := (blk_cell s1 0).trans rfl
    have c11 : w'.cell? ⟨g1, 1, none⟩ = some (.float .f64 d) := (blk_cell s1 1).trans rfl
    clear s0 s1
    go_simp
    with_reducible rfl
  rotate_left
  · simp only [Act.put, List.setIfInBounds_toArray, List.set_cons_zero, List.set_cons_succ, i64_w, i32_w]
    rfl
  clear hHeld
  refine join_ (σ := Nat × Nat × Nat) 1 #[true, true, true, true, true, true, false] (fun s_ => [(8, .agg #[.float .f64 a, .float .f64 b]), (10, .agg #[.float .f64 c, .float .f64 d]), (11, .agg #[.float .f64 s_.2.1, .float .f64 s_.2.2]), (5, .pointer (some ⟨s_.1, 0, none⟩))]) (fun s_ w' => (w'.heap[g0]? = some (.cells #[.float .f64 a, .float .f64 b] 24 (0, 0)) ∧ w'.heap[g1]? = some (.cells #[.float .f64 c, .float .f64 d] 24 (0, 0))) ∧ (w'.heap[g0]? = some (.cells #[.float .f64 a, .float .f64 b] 24 (0, 0))) ∧ (w'.heap[g1]? = some (.cells #[.float .f64 c, .float .f64 d] 24 (0, 0))) ∧ (w'.heap[s_.1]? = some (.cells #[.float .f64 0, .float .f64 0] 25 (0, 0))) ∧ (w.heap.size ≤ s_.1) ∧ (g0 ≠ s_.1) ∧ (g1 ≠ s_.1) ∧ Below w.heap.size w w' ∧ Same s_.2.1 (fo .sub (fo .mul a c) (fo .mul b d)) ∧ Same s_.2.2 (fo .add (fo .mul a d) (fo .mul b c))) ?_ ?_
  rotate_left
  · intro hCont
    refine two_ (i := 1) (j := 5) (Ni := some 8) (Nj := some 5) #[true, true, true, false, false, false, false] #[true, false, true, false, false, true, false] rfl rfl rfl rfl (by kernel_rfl) (by decide) (by decide) (fun K hK => ?_) (fun K hK => ?_)
    · skip
      refine goes_ Try.func11 (by kernel_rfl) rfl #[.agg #[.float .f64 a, .float .f64 b]] (by rfl) rfl rfl (by (try simp only [List.map_toArray, List.map_cons, List.map_nil]); first | done | rfl) ?_
      with_reducible refine (laws_toCx.calls a b _).mono ?_
      rintro e W1 ⟨rfl, hb⟩
      refine ⟨_, rfl, ?_⟩
      replace K0 := Aside0.mk (blk_below K0.out hb)
      replace K1 := Aside0.mk (blk_below K1.out hb)
      replace HB := Aside0.mk (below_step HB.out hb)
      clear hb
      refine hK.out _ _ ⟨K0.out, K1.out⟩ (fun _ => ?_)
      clear hK K
      refine norm_ (a' := ?_) ?_ ?_
      rotate_left
      · show Act.put _ (some 8) _ = _
        simp only [Act.put, List.setIfInBounds_toArray, List.set_cons_zero, List.set_cons_succ, i64_w, i32_w]
        rfl
      refine two_ (i := 3) (j := 5) (Ni := some 10) (Nj := some 5) #[true, true, true, true, false, false, false] #[true, true, true, false, false, true, false] rfl rfl rfl rfl (by kernel_rfl) (by decide) (by decide) (fun K hK => ?_) (fun K hK => ?_)
      · skip
        refine goes_ Try.func11 (by kernel_rfl) rfl #[.agg #[.float .f64 c, .float .f64 d]] (by rfl) rfl rfl (by (try simp only [List.map_toArray, List.map_cons, List.map_nil]); first | done | rfl) ?_
        with_reducible refine (laws_toCx.calls c d _).mono ?_
        rintro e W1 ⟨rfl, hb⟩
        refine ⟨_, rfl, ?_⟩
        replace K0 := Aside0.mk (blk_below K0.out hb)
        replace K1 := Aside0.mk (blk_below K1.out hb)
        replace HB := Aside0.mk (below_step HB.out hb)
        clear hb
        refine hK.out _ _ ⟨K0.out, K1.out⟩ (fun _ => ?_)
        clear hK K
        refine norm_ (a' := ?_) ?_ ?_
        rotate_left
        · show Act.put _ (some 10) _ = _
          simp only [Act.put, List.setIfInBounds_toArray, List.set_cons_zero, List.set_cons_succ, i64_w, i32_w]
          rfl
        refine two_ (i := 4) (j := 5) (Ni := some 11) (Nj := some 5) #[true, true, true, true, true, false, false] #[true, true, true, true, false, true, false] rfl rfl rfl rfl (by kernel_rfl) (by decide) (by decide) (fun K hK => ?_) (fun K hK => ?_)
        · skip
          refine goes_ Try.func10 (by kernel_rfl) rfl #[.agg #[.float .f64 a, .float .f64 b], .agg #[.float .f64 c, .float .f64 d]] (by rfl) rfl rfl (by (try simp only [List.map_toArray, List.map_cons, List.map_nil]); first | done | rfl) ?_
          with_reducible refine (spec_Product.calls a b c d a b c d ⟨Same.rfl⟩ ⟨Same.rfl⟩ ⟨Same.rfl⟩ ⟨Same.rfl⟩ _).mono ?_
          rintro e W1 ⟨r1, r2, rfl, h1, h2, hb⟩
          have hr1 := Aside0.mk h1
          have hr2 := Aside0.mk h2
          clear h1 h2
          refine ⟨_, rfl, ?_⟩
          replace K0 := Aside0.mk (blk_below K0.out hb)
          replace K1 := Aside0.mk (blk_below K1.out hb)
          replace HB := Aside0.mk (below_step HB.out hb)
          clear hb
          refine hK.out _ _ ⟨K0.out, K1.out⟩ (fun _ => ?_)
          clear hK K
          refine norm_ (a' := ?_) ?_ ?_
          rotate_left
          · show Act.put _ (some 11) _ = _
            simp only [Act.put, List.setIfInBounds_toArray, List.set_cons_zero, List.set_cons_succ, i64_w, i32_w]
            rfl
          refine one_ (i := 5) (N := some 5) #[true, true, true, true, true, true, false] rfl rfl (by kernel_rfl) (by decide) (fun K hK => ?_)
          refine box_step ?hg (N := 5) ?hd (cs := #[.float .f64 0, .float .f64 0]) (t := 25) ?hr ?_; (case hd => rfl); (case hg => rfl); (case hr => first | (go_simp; done) | (go_simp; rfl))
          intro gW hg W1 hbox hb
          have NE0 : Aside0 (g0 ≠ gW) := ⟨by rw [hg]; exact Nat.ne_of_lt (blk_lt K0.out)⟩
          have NE1 : Aside0 (g1 ≠ gW) := ⟨by rw [hg]; exact Nat.ne_of_lt (blk_lt K1.out)⟩
          have GE : Aside0 (w.heap.size ≤ gW) := ⟨by rw [hg]; exact below_size HB.out⟩
          replace K0 := Aside0.mk (blk_below K0.out hb)
          replace K1 := Aside0.mk (blk_below K1.out hb)
          replace HB := Aside0.mk (below_step HB.out hb)
          have BK := Aside0.mk hbox
          clear hg hb hbox
          refine hK.out _ _ ⟨K0.out, K1.out⟩ (fun _ => ?_)
          clear hK K
          refine norm_ (a' := ?_) ?_ ?_
          rotate_left
          · show Act.put _ (some 5) _ = _
            simp only [Act.put, List.setIfInBounds_toArray, List.set_cons_zero, List.set_cons_succ, i64_w, i32_w]
            rfl
          exact norm_ (by simp only [putAll, Act.put, List.setIfInBounds_toArray, List.set_cons_zero, List.set_cons_succ]) (hCont (gW, r1, r2) _ ⟨⟨K0.out, K1.out⟩, K0.out, K1.out, BK.out, GE.out, NE0.out, NE1.out, HB.out, hr1.out, hr2.out⟩)
        · skip
          refine box_step ?hg (N := 5) ?hd (cs := #[.float .f64 0, .float .f64 0]) (t := 25) ?hr ?_; (case hd => rfl); (case hg => rfl); (case hr => first | (go_simp; done) | (go_simp; rfl))
          intro gW hg W1 hbox hb
          have NE0 : Aside0 (g0 ≠ gW) := ⟨by rw [hg]; exact Nat.ne_of_lt (blk_lt K0.out)⟩
          have NE1 : Aside0 (g1 ≠ gW) := ⟨by rw [hg]; exact Nat.ne_of_lt (blk_lt K1.out)⟩
          have GE : Aside0 (w.heap.size ≤ gW) := ⟨by rw [hg]; exact below_size HB.out⟩
          replace K0 := Aside0.mk (blk_below K0.out hb)
          replace K1 := Aside0.mk (blk_below K1.out hb)
          replace HB := Aside0.mk (below_step HB.out hb)
          have BK := Aside0.mk hbox
          clear hg hb hbox
          refine hK.out _ _ ⟨K0.out, K1.out⟩ (fun _ => ?_)
          clear hK K
          refine norm_ (a' := ?_) ?_ ?_
          rotate_left
          · show Act.put _ (some 5) _ = _
            simp only [Act.put, List.setIfInBounds_toArray, List.set_cons_zero, List.set_cons_succ, i64_w, i32_w]
            rfl
          refine one_ (i := 4) (N := some 11) #[true, true, true, true, true, true, false] rfl rfl (by kernel_rfl) (by decide) (fun K hK => ?_)
          refine goes_ Try.func10 (by kernel_rfl) rfl #[.agg #[.float .f64 a, .float .f64 b], .agg #[.float .f64 c, .float .f64 d]] (by rfl) rfl rfl (by (try simp only [List.map_toArray, List.map_cons, List.map_nil]); first | done | rfl) ?_
          with_reducible refine (spec_Product.calls a b c d a b c d ⟨Same.rfl⟩ ⟨Same.rfl⟩ ⟨Same.rfl⟩ ⟨Same.rfl⟩ _).mono ?_
          rintro e W1 ⟨r1, r2, rfl, h1, h2, hb⟩
          have hr1 := Aside0.mk h1
          have hr2 := Aside0.mk h2
          clear h1 h2
          refine ⟨_, rfl, ?_⟩
          replace K0 := Aside0.mk (blk_below K0.out hb)
          replace K1 := Aside0.mk (blk_below K1.out hb)
          replace BK := Aside0.mk (blk_below BK.out hb)
          replace HB := Aside0.mk (below_step HB.out hb)
          clear hb
          refine hK.out _ _ ⟨K0.out, K1.out⟩ (fun _ => ?_)
          clear hK K
          refine norm_ (a' := ?_) ?_ ?_
          rotate_left
          · show Act.put _ (some 11) _ = _
            simp only [Act.put, List.setIfInBounds_toArray, List.set_cons_zero, List.set_cons_succ, i64_w, i32_w]
            rfl
          exact norm_ (by simp only [putAll, Act.put, List.setIfInBounds_toArray, List.set_cons_zero, List.set_cons_succ]) (hCont (gW, r1, r2) _ ⟨⟨K0.out, K1.out⟩, K0.out, K1.out, BK.out, GE.out, NE0.out, NE1.out, HB.out, hr1.out, hr2.out⟩)
      · skip
        refine box_step ?hg (N := 5) ?hd (cs := #[.float .f64 0, .float .f64 0]) (t := 25) ?hr ?_; (case hd => rfl); (case hg => rfl); (case hr => first | (go_simp; done) | (go_simp; rfl))
        intro gW hg W1 hbox hb
        have NE0 : Aside0 (g0 ≠ gW) := ⟨by rw [hg]; exact Nat.ne_of_lt (blk_lt K0.out)⟩
        have NE1 : Aside0 (g1 ≠ gW) := ⟨by rw [hg]; exact Nat.ne_of_lt (blk_lt K1.out)⟩
        have GE : Aside0 (w.heap.size ≤ gW) := ⟨by rw [hg]; exact below_size HB.out⟩
        replace K0 := Aside0.mk (blk_below K0.out hb)
        replace K1 := Aside0.mk (blk_below K1.out hb)
        replace HB := Aside0.mk (below_step HB.out hb)
        have BK := Aside0.mk hbox
        clear hg hb hbox
        refine hK.out _ _ ⟨K0.out, K1.out⟩ (fun _ => ?_)
        clear hK K
        refine norm_ (a' := ?_) ?_ ?_
        rotate_left
        · show Act.put _ (some 5) _ = _
          simp only [Act.put, List.setIfInBounds_toArray, List.set_cons_zero, List.set_cons_succ, i64_w, i32_w]
          rfl
        refine one_ (i := 3) (N := some 10) #[true, true, true, true, false, true, false] rfl rfl (by kernel_rfl) (by decide) (fun K hK => ?_)
        refine goes_ Try.func11 (by kernel_rfl) rfl #[.agg #[.float .f64 c, .float .f64 d]] (by rfl) rfl rfl (by (try simp only [List.map_toArray, List.map_cons, List.map_nil]); first | done | rfl) ?_
        with_reducible refine (laws_toCx.calls c d _).mono ?_
        rintro e W1 ⟨rfl, hb⟩
        refine ⟨_, rfl, ?_⟩
        replace K0 := Aside0.mk (blk_below K0.out hb)
        replace K1 := Aside0.mk (blk_below K1.out hb)
        replace BK := Aside0.mk (blk_below BK.out hb)
        replace HB := Aside0.mk (below_step HB.out hb)
        clear hb
        refine hK.out _ _ ⟨K0.out, K1.out⟩ (fun _ => ?_)
        clear hK K
        refine norm_ (a' := ?_) ?_ ?_
        rotate_left
        · show Act.put _ (some 10) _ = _
          simp only [Act.put, List.setIfInBounds_toArray, List.set_cons_zero, List.set_cons_succ, i64_w, i32_w]
          rfl
        refine one_ (i := 4) (N := some 11) #[true, true, true, true, true, true, false] rfl rfl (by kernel_rfl) (by decide) (fun K hK => ?_)
        refine goes_ Try.func10 (by kernel_rfl) rfl #[.agg #[.float .f64 a, .float .f64 b], .agg #[.float .f64 c, .float .f64 d]] (by rfl) rfl rfl (by (try simp only [List.map_toArray, List.map_cons, List.map_nil]); first | done | rfl) ?_
        with_reducible refine (spec_Product.calls a b c d a b c d ⟨Same.rfl⟩ ⟨Same.rfl⟩ ⟨Same.rfl⟩ ⟨Same.rfl⟩ _).mono ?_
        rintro e W1 ⟨r1, r2, rfl, h1, h2, hb⟩
        have hr1 := Aside0.mk h1
        have hr2 := Aside0.mk h2
        clear h1 h2
        refine ⟨_, rfl, ?_⟩
        replace K0 := Aside0.mk (blk_below K0.out hb)
        replace K1 := Aside0.mk (blk_below K1.out hb)
        replace BK := Aside0.mk (blk_below BK.out hb)
        replace HB := Aside0.mk (below_step HB.out hb)
        clear hb
        refine hK.out _ _ ⟨K0.out, K1.out⟩ (fun _ => ?_)
        clear hK K
        refine norm_ (a' := ?_) ?_ ?_
        rotate_left
        · show Act.put _ (some 11) _ = _
          simp only [Act.put, List.setIfInBounds_toArray, List.set_cons_zero, List.set_cons_succ, i64_w, i32_w]
          rfl
        exact norm_ (by simp only [putAll, Act.put, List.setIfInBounds_toArray, List.set_cons_zero, List.set_cons_succ]) (hCont (gW, r1, r2) _ ⟨⟨K0.out, K1.out⟩, K0.out, K1.out, BK.out, GE.out, NE0.out, NE1.out, HB.out, hr1.out, hr2.out⟩)
    · skip
      refine box_step ?hg (N := 5) ?hd (cs := #[.float .f64 0, .float .f64 0]) (t := 25) ?hr ?_; (case hd => rfl); (case hg => rfl); (case hr => first | (go_simp; done) | (go_simp; rfl))
      intro gW hg W1 hbox hb
      have NE0 : Aside0 (g0 ≠ gW) := ⟨by rw [hg]; exact Nat.ne_of_lt (blk_lt K0.out)⟩
      have NE1 : Aside0 (g1 ≠ gW) := ⟨by rw [hg]; exact Nat.ne_of_lt (blk_lt K1.out)⟩
      have GE : Aside0 (w.heap.size ≤ gW) := ⟨by rw [hg]; exact below_size HB.out⟩
      replace K0 := Aside0.mk (blk_below K0.out hb)
      replace K1 := Aside0.mk (blk_below K1.out hb)
      replace HB := Aside0.mk (below_step HB.out hb)
      have BK := Aside0.mk hbox
      clear hg hb hbox
      refine hK.out _ _ ⟨K0.out, K1.out⟩ (fun _ => ?_)
      clear hK K
      refine norm_ (a' := ?_) ?_ ?_
      rotate_left
      · show Act.put _ (some 5) _ = _
        simp only [Act.put, List.setIfInBounds_toArray, List.set_cons_zero, List.set_cons_succ, i64_w, i32_w]
        rfl
      refine one_ (i := 1) (N := some 8) #[true, true, true, false, false, true, false] rfl rfl (by kernel_rfl) (by decide) (fun K hK => ?_)
      refine goes_ Try.func11 (by kernel_rfl) rfl #[.agg #[.float .f64 a, .float .f64 b]] (by rfl) rfl rfl (by (try simp only [List.map_toArray, List.map_cons, List.map_nil]); first | done | rfl) ?_
      with_reducible refine (laws_toCx.calls a b _).mono ?_
      rintro e W1 ⟨rfl, hb⟩
      refine ⟨_, rfl, ?_⟩
      replace K0 := Aside0.mk (blk_below K0.out hb)
      replace K1 := Aside0.mk (blk_below K1.out hb)
      replace BK := Aside0.mk (blk_below BK.out hb)
      replace HB := Aside0.mk (below_step HB.out hb)
      clear hb
      refine hK.out _ _ ⟨K0.out, K1.out⟩ (fun _ => ?_)
      clear hK K
      refine norm_ (a' := ?_) ?_ ?_
      rotate_left
      · show Act.put _ (some 8) _ = _
        simp only [Act.put, List.setIfInBounds_toArray, List.set_cons_zero, List.set_cons_succ, i64_w, i32_w]
        rfl
      refine one_ (i := 3) (N := some 10) #[true, true, true, true, false, true, false] rfl rfl (by kernel_rfl) (by decide) (fun K hK => ?_)
      refine goes_ Try.func11 (by kernel_rfl) rfl #[.agg #[.float .f64 c, .float .f64 d]] (by rfl) rfl rfl (by (try simp only [List.map_toArray, List.map_cons, List.map_nil]); first | done | rfl) ?_
      with_reducible refine (laws_toCx.calls c d _).mono ?_
      rintro e W1 ⟨rfl, hb⟩
      refine ⟨_, rfl, ?_⟩
      replace K0 := Aside0.mk (blk_below K0.out hb)
      replace K1 := Aside0.mk (blk_below K1.out hb)
      replace BK := Aside0.mk (blk_below BK.out hb)
      replace HB := Aside0.mk (below_step HB.out hb)
      clear hb
      refine hK.out _ _ ⟨K0.out, K1.out⟩ (fun _ => ?_)
      clear hK K
      refine norm_ (a' := ?_) ?_ ?_
      rotate_left
      · show Act.put _ (some 10) _ = _
        simp only [Act.put, List.setIfInBounds_toArray, List.set_cons_zero, List.set_cons_succ, i64_w, i32_w]
        rfl
      refine one_ (i := 4) (N := some 11) #[true, true, true, true, true, true, false] rfl rfl (by kernel_rfl) (by decide) (fun K hK => ?_)
      refine goes_ Try.func10 (by kernel_rfl) rfl #[.agg #[.float .f64 a, .float .f64 b], .agg #[.float .f64 c, .float .f64 d]] (by rfl) rfl rfl (by (try simp only [List.map_toArray, List.map_cons, List.map_nil]); first | done | rfl) ?_
      with_reducible refine (spec_Product.calls a b c d a b c d ⟨Same.rfl⟩ ⟨Same.rfl⟩ ⟨Same.rfl⟩ ⟨Same.rfl⟩ _).mono ?_
      rintro e W1 ⟨r1, r2, rfl, h1, h2, hb⟩
      have hr1 := Aside0.mk h1
      have hr2 := Aside0.mk h2
      clear h1 h2
      refine ⟨_, rfl, ?_⟩
      replace K0 := Aside0.mk (blk_below K0.out hb)
      replace K1 := Aside0.mk (blk_below K1.out hb)
      replace BK := Aside0.mk (blk_below BK.out hb)
      replace HB := Aside0.mk (below_step HB.out hb)
      clear hb
      refine hK.out _ _ ⟨K0.out, K1.out⟩ (fun _ => ?_)
      clear hK K
      refine norm_ (a' := ?_) ?_ ?_
      rotate_left
      · show Act.put _ (some 11) _ = _
        simp only [Act.put, List.setIfInBounds_toArray, List.set_cons_zero, List.set_cons_succ, i64_w, i32_w]
        rfl
      exact norm_ (by simp only [putAll, Act.put, List.setIfInBounds_toArray, List.set_cons_zero, List.set_cons_succ]) (hCont (gW, r1, r2) _ ⟨⟨K0.out, K1.out⟩, K0.out, K1.out, BK.out, GE.out, NE0.out, NE1.out, HB.out, hr1.out, hr2.out⟩)
  clear K0 K1 HB
  rintro ⟨gW, q1, q2⟩ U1 ⟨hS_, k0, k1, bk, ge, ne0, ne1, bel, hq1, hq2⟩
  dsimp only at bk ge ne0 ne1 hq1 hq2 ⊢
  have K0 := Aside0.mk k0
  have K1 := Aside0.mk k1
  have BK := Aside0.mk bk
  have GE := Aside0.mk ge
  have NE0 := Aside0.mk ne0
  have NE1 := Aside0.mk ne1
  have HB := Aside0.mk bel
  have Hq1 := Aside0.mk hq1
  have Hq2 := Aside0.mk hq2
  clear k0 k1 bk ge ne0 ne1 bel hq1 hq2
  refine norm_ (a' := ?_) ?_ ?_
  rotate_left
  · simp only [putAll, Act.put, List.setIfInBounds_toArray, List.set_cons_zero, List.set_cons_succ]
    rfl
  refine one_ (i := 6) (N := none) #[true, true, true, true, true, true, true] rfl rfl (by kernel_rfl) (by decide) (fun K hK => ?_)
  have c0 : U1.cell? ⟨gW, 0, none⟩ = some (.float .f64 0) := (blk_cell BK.out 0).trans rfl
  have f0 := blk_frozen BK.out 0
  have c1 : U1.cell? ⟨gW, 1, none⟩ = some (.float .f64 0) := (blk_cell BK.out 1).trans rfl
  have f1 := blk_frozen BK.out 1
  refine skip_ (w1 := ?_) (by rfl) rfl ?_ ?_
  rotate_left
  · go_simp
    rfl
  clear c0 c1 f0 f1
  replace K0 := Aside0.mk (blk_far (blk_far K0.out (p := ⟨gW, 0, none⟩) NE0.out (.float .f64 q1)) (p := ⟨gW, 1, none⟩) NE0.out (.float .f64 q2))
  replace K1 := Aside0.mk (blk_far (blk_far K1.out (p := ⟨gW, 0, none⟩) NE1.out (.float .f64 q1)) (p := ⟨gW, 1, none⟩) NE1.out (.float .f64 q2))
  replace BK := Aside0.mk (blk_put (blk_put BK.out 0 (.float .f64 q1) (show _ = #[.float .f64 q1, .float .f64 0] from rfl)) 1 (.float .f64 q2) (show _ = #[.float .f64 q1, .float .f64 q2] from rfl))
  replace HB := Aside0.mk (below_set (j := 1) (v := .float .f64 q2) (below_set (j := 0) (v := .float .f64 q1) HB.out GE.out) GE.out)
  refine hK.out _ _ ⟨K0.out, K1.out⟩ (fun _ => ?_)
  clear hK K
  generalize (U1.setCell ⟨gW, 0, none⟩ (.float .f64 q1)).setCell ⟨gW, 1, none⟩ (.float .f64 q2) = Z1 at K0 K1 BK HB ⊢
  refine done_ (by kernel_rfl) ?_
  try go_wp2
  have KW := BK
  clear BK GE NE0 NE1
  replace K0 := Aside0.mk (blk_drew K0.out)
  replace K1 := Aside0.mk (blk_drew K1.out)
  replace KW := Aside0.mk (blk_drew KW.out)
  replace HB := Aside0.mk (below_drew1 HB.out)
  refine start_ (n := 7) (S := fun w' => w'.heap[g0]? = some (.cells #[.float .f64 a, .float .f64 b] 24 (0, 0)) ∧ w'.heap[g1]? = some (.cells #[.float .f64 c, .float .f64 d] 24 (0, 0))) (ds := []) #[false, false, false, false, false, false, false] (by kernel_rfl) rfl rfl ⟨K0.out, K1.out⟩ (fun hHeld => ?_)
  generalize World.drew _ = V2 at K0 K1 KW HB hHeld ⊢
  refine take_ (i := 0) (N := some 12) (v := ?_) (a' := ?_) #[true, false, false, false, false, false, false] rfl rfl (by kernel_rfl) (fun _ _ _ h => h) (Or.inl ⟨by rfl, ?_⟩) hHeld ?_ ?_
  rotate_left
  · rintro w' ⟨s0, s1⟩
    have c00 : w'.cell? ⟨g0, 0, none⟩ = some (.float .f64 a) := (blk_cell s0 0).trans rfl
    have c01 : w'.cell? ⟨g0, 1, none⟩ = some (.float .f64 b) := (blk_cell s0 1).trans rfl
    have c10 : w'.cell? ⟨g1, 0, none⟩ = some (.float .f64 c) := (blk_cell s1 0).trans rfl
    have c11 : w'.cell? ⟨g1, 1, none⟩ = some (.float .f64 d) := (blk_cell s1 1).trans rfl
    clear s0 s1
    go_simp
    with_reducible rfl
  rotate_left
  · simp only [Act.put, List.setIfInBounds_toArray, List.set_cons_zero, List.set_cons_succ, i64_w, i32_w]
    rfl
  refine take_ (i := 2) (N := some 14) (v := ?_) (a' := ?_) #[true, false, true, false, false, false, false] rfl rfl (by kernel_rfl) (fun _ _ _ h => h) (Or.inl ⟨by rfl, ?_⟩) hHeld ?_ ?_
  rotate_left
  · rintro w' ⟨s0, s1⟩
    have c00 : w'.cell? ⟨g0, 0, none⟩ = some (.float .f64 a) := (blk_cell s0 0).trans rfl
    have c01 : w'.cell? ⟨g0, 1, none⟩ = some (.float .f64 b) := (blk_cell s0 1).trans rfl
    have c10 : w'.cell? ⟨g1, 0, none⟩ = some (.float .f64 c) := (blk_cell s1 0).trans rfl
    have c11 : w'.cell? ⟨g1, 1, none⟩ = some (.float .f64 d) := (blk_cell s1 1).trans rfl
    clear s0 s1
    go_simp
    with_reducible rfl
  rotate_left
  · simp only [Act.put, List.setIfInBounds_toArray, List.set_cons_zero, List.set_cons_succ, i64_w, i32_w]
    rfl
  clear hHeld
  refine join_ (σ := Nat × Nat × Nat) 1 #[true, true, true, true, true, true, false] (fun s_ => [(13, .agg #[.float .f64 a, .float .f64 b]), (15, .agg #[.float .f64 c, .float .f64 d]), (16, .agg #[.float .f64 s_.2.1, .float .f64 s_.2.2]), (6, .pointer (some ⟨s_.1, 0, none⟩))]) (fun s_ w' => (w'.heap[g0]? = some (.cells #[.float .f64 a, .float .f64 b] 24 (0, 0)) ∧ w'.heap[g1]? = some (.cells #[.float .f64 c, .float .f64 d] 24 (0, 0))) ∧ (w'.heap[g0]? = some (.cells #[.float .f64 a, .float .f64 b] 24 (0, 0))) ∧ (w'.heap[g1]? = some (.cells #[.float .f64 c, .float .f64 d] 24 (0, 0))) ∧ (w'.heap[gW]? = some (.cells #[.float .f64 q1, .float .f64 q2] 25 (0, 0))) ∧ (w'.heap[s_.1]? = some (.cells #[.float .f64 0, .float .f64 0] 25 (0, 0))) ∧ (w.heap.size ≤ s_.1) ∧ (g0 ≠ s_.1) ∧ (g1 ≠ s_.1) ∧ (gW ≠ s_.1) ∧ Below w.heap.size w w' ∧ Same s_.2.1 (fo .sub (fo .mul a c) (fo .mul b d)) ∧ Same s_.2.2 (fo .add (fo .mul a d) (fo .mul b c))) ?_ ?_
  rotate_left
  · intro hCont
    refine two_ (i := 1) (j := 5) (Ni := some 13) (Nj := some 6) #[true, true, true, false, false, false, false] #[true, false, true, false, false, true, false] rfl rfl rfl rfl (by kernel_rfl) (by decide) (by decide) (fun K hK => ?_) (fun K hK => ?_)
    · skip
      refine goes_ Try.func11 (by kernel_rfl) rfl #[.agg #[.float .f64 a, .float .f64 b]] (by rfl) rfl rfl (by (try simp only [List.map_toArray, List.map_cons, List.map_nil]); first | done | rfl) ?_
      with_reducible refine (laws_toCx.calls a b _).mono ?_
      rintro e W1 ⟨rfl, hb⟩
      refine ⟨_, rfl, ?_⟩
      replace K0 := Aside0.mk (blk_below K0.out hb)
      replace K1 := Aside0.mk (blk_below K1.out hb)
      replace KW := Aside0.mk (blk_below KW.out hb)
      replace HB := Aside0.mk (below_step HB.out hb)
      clear hb
      refine hK.out _ _ ⟨K0.out, K1.out⟩ (fun _ => ?_)
      clear hK K
      refine norm_ (a' := ?_) ?_ ?_
      rotate_left
      · show Act.put _ (some 13) _ = _
        simp only [Act.put, List.setIfInBounds_toArray, List.set_cons_zero, List.set_cons_succ, i64_w, i32_w]
        rfl
      refine two_ (i := 3) (j := 5) (Ni := some 15) (Nj := some 6) #[true, true, true, true, false, false, false] #[true, true, true, false, false, true, false] rfl rfl rfl rfl (by kernel_rfl) (by decide) (by decide) (fun K hK => ?_) (fun K hK => ?_)
      · skip
        refine goes_ Try.func11 (by kernel_rfl) rfl #[.agg #[.float .f64 c, .float .f64 d]] (by rfl) rfl rfl (by (try simp only [List.map_toArray, List.map_cons, List.map_nil]); first | done | rfl) ?_
        with_reducible refine (laws_toCx.calls c d _).mono ?_
        rintro e W1 ⟨rfl, hb⟩
        refine ⟨_, rfl, ?_⟩
        replace K0 := Aside0.mk (blk_below K0.out hb)
        replace K1 := Aside0.mk (blk_below K1.out hb)
        replace KW := Aside0.mk (blk_below KW.out hb)
        replace HB := Aside0.mk (below_step HB.out hb)
        clear hb
        refine hK.out _ _ ⟨K0.out, K1.out⟩ (fun _ => ?_)
        clear hK K
        refine norm_ (a' := ?_) ?_ ?_
        rotate_left
        · show Act.put _ (some 15) _ = _
          simp only [Act.put, List.setIfInBounds_toArray, List.set_cons_zero, List.set_cons_succ, i64_w, i32_w]
          rfl
        refine two_ (i := 4) (j := 5) (Ni := some 16) (Nj := some 6) #[true, true, true, true, true, false, false] #[true, true, true, true, false, true, false] rfl rfl rfl rfl (by kernel_rfl) (by decide) (by decide) (fun K hK => ?_) (fun K hK => ?_)
        · skip
          refine goes_ Try.func12 (by kernel_rfl) rfl #[.agg #[.float .f64 a, .float .f64 b], .agg #[.float .f64 c, .float .f64 d]] (by rfl) rfl rfl (by (try simp only [List.map_toArray, List.map_cons, List.map_nil]); first | done | rfl) ?_
          with_reducible refine (impl_Product.calls a b c d a b c d ⟨Same.rfl⟩ ⟨Same.rfl⟩ ⟨Same.rfl⟩ ⟨Same.rfl⟩ _).mono ?_
          rintro e W1 ⟨r1, r2, rfl, h1, h2, hb⟩
          have hr1 := Aside0.mk h1
          have hr2 := Aside0.mk h2
          clear h1 h2
          refine ⟨_, rfl, ?_⟩
          replace K0 := Aside0.mk (blk_below K0.out hb)
          replace K1 := Aside0.mk (blk_below K1.out hb)
          replace KW := Aside0.mk (blk_below KW.out hb)
          replace HB := Aside0.mk (below_step HB.out hb)
          clear hb
          refine hK.out _ _ ⟨K0.out, K1.out⟩ (fun _ => ?_)
          clear hK K
          refine norm_ (a' := ?_) ?_ ?_
          rotate_left
          · show Act.put _ (some 16) _ = _
            simp only [Act.put, List.setIfInBounds_toArray, List.set_cons_zero, List.set_cons_succ, i64_w, i32_w]
            rfl
          refine one_ (i := 5) (N := some 6) #[true, true, true, true, true, true, false] rfl rfl (by kernel_rfl) (by decide) (fun K hK => ?_)
          refine box_step ?hg (N := 6) ?hd (cs := #[.float .f64 0, .float .f64 0]) (t := 25) ?hr ?_; (case hd => rfl); (case hg => rfl); (case hr => first | (go_simp; done) | (go_simp; rfl))
          intro gX hg W1 hbox hb
          have NE0 : Aside0 (g0 ≠ gX) := ⟨by rw [hg]; exact Nat.ne_of_lt (blk_lt K0.out)⟩
          have NE1 : Aside0 (g1 ≠ gX) := ⟨by rw [hg]; exact Nat.ne_of_lt (blk_lt K1.out)⟩
          have NEW : Aside0 (gW ≠ gX) := ⟨by rw [hg]; exact Nat.ne_of_lt (blk_lt KW.out)⟩
          have GE : Aside0 (w.heap.size ≤ gX) := ⟨by rw [hg]; exact below_size HB.out⟩
          replace K0 := Aside0.mk (blk_below K0.out hb)
          replace K1 := Aside0.mk (blk_below K1.out hb)
          replace KW := Aside0.mk (blk_below KW.out hb)
          replace HB := Aside0.mk (below_step HB.out hb)
          have BK := Aside0.mk hbox
          clear hg hb hbox
          refine hK.out _ _ ⟨K0.out, K1.out⟩ (fun _ => ?_)
          clear hK K
          refine norm_ (a' := ?_) ?_ ?_
          rotate_left
          · show Act.put _ (some 6) _ = _
            simp only [Act.put, List.setIfInBounds_toArray, List.set_cons_zero, List.set_cons_succ, i64_w, i32_w]
            rfl
          exact norm_ (by simp only [putAll, Act.put, List.setIfInBounds_toArray, List.set_cons_zero, List.set_cons_succ]) (hCont (gX, r1, r2) _ ⟨⟨K0.out, K1.out⟩, K0.out, K1.out, KW.out, BK.out, GE.out, NE0.out, NE1.out, NEW.out, HB.out, hr1.out, hr2.out⟩)
        · skip
          refine box_step ?hg (N := 6) ?hd (cs := #[.float .f64 0, .float .f64 0]) (t := 25) ?hr ?_; (case hd => rfl); (case hg => rfl); (case hr => first | (go_simp; done) | (go_simp; rfl))
          intro gX hg W1 hbox hb
          have NE0 : Aside0 (g0 ≠ gX) := ⟨by rw [hg]; exact Nat.ne_of_lt (blk_lt K0.out)⟩
          have NE1 : Aside0 (g1 ≠ gX) := ⟨by rw [hg]; exact Nat.ne_of_lt (blk_lt K1.out)⟩
          have NEW : Aside0 (gW ≠ gX) := ⟨by rw [hg]; exact Nat.ne_of_lt (blk_lt KW.out)⟩
          have GE : Aside0 (w.heap.size ≤ gX) := ⟨by rw [hg]; exact below_size HB.out⟩
          replace K0 := Aside0.mk (blk_below K0.out hb)
          replace K1 := Aside0.mk (blk_below K1.out hb)
          replace KW := Aside0.mk (blk_below KW.out hb)
          replace HB := Aside0.mk (below_step HB.out hb)
          have BK := Aside0.mk hbox
          clear hg hb hbox
          refine hK.out _ _ ⟨K0.out, K1.out⟩ (fun _ => ?_)
          clear hK K
          refine norm_ (a' := ?_) ?_ ?_
          rotate_left
          · show Act.put _ (some 6) _ = _
            simp only [Act.put, List.setIfInBounds_toArray, List.set_cons_zero, List.set_cons_succ, i64_w, i32_w]
            rfl
          refine one_ (i := 4) (N := some 16) #[true, true, true, true, true, true, false] rfl rfl (by kernel_rfl) (by decide) (fun K hK => ?_)
          refine goes_ Try.func12 (by kernel_rfl) rfl #[.agg #[.float .f64 a, .float .f64 b], .agg #[.float .f64 c, .float .f64 d]] (by rfl) rfl rfl (by (try simp only [List.map_toArray, List.map_cons, List.map_nil]); first | done | rfl) ?_
          with_reducible refine (impl_Product.calls a b c d a b c d ⟨Same.rfl⟩ ⟨Same.rfl⟩ ⟨Same.rfl⟩ ⟨Same.rfl⟩ _).mono ?_
          rintro e W1 ⟨r1, r2, rfl, h1, h2, hb⟩
          have hr1 := Aside0.mk h1
          have hr2 := Aside0.mk h2
          clear h1 h2
          refine ⟨_, rfl, ?_⟩
          replace K0 := Aside0.mk (blk_below K0.out hb)
          replace K1 := Aside0.mk (blk_below K1.out hb)
          replace KW := Aside0.mk (blk_below KW.out hb)
          replace BK := Aside0.mk (blk_below BK.out hb)
          replace HB := Aside0.mk (below_step HB.out hb)
          clear hb
          refine hK.out _ _ ⟨K0.out, K1.out⟩ (fun _ => ?_)
          clear hK K
          refine norm_ (a' := ?_) ?_ ?_
          rotate_left
          · show Act.put _ (some 16) _ = _
            simp only [Act.put, List.setIfInBounds_toArray, List.set_cons_zero, List.set_cons_succ, i64_w, i32_w]
            rfl
          exact norm_ (by simp only [putAll, Act.put, List.setIfInBounds_toArray, List.set_cons_zero, List.set_cons_succ]) (hCont (gX, r1, r2) _ ⟨⟨K0.out, K1.out⟩, K0.out, K1.out, KW.out, BK.out, GE.out, NE0.out, NE1.out, NEW.out, HB.out, hr1.out, hr2.out⟩)
      · skip
        refine box_step ?hg (N := 6) ?hd (cs := #[.float .f64 0, .float .f64 0]) (t := 25) ?hr ?_; (case hd => rfl); (case hg => rfl); (case hr => first | (go_simp; done) | (go_simp; rfl))
        intro gX hg W1 hbox hb
        have NE0 : Aside0 (g0 ≠ gX) := ⟨by rw [hg]; exact Nat.ne_of_lt (blk_lt K0.out)⟩
        have NE1 : Aside0 (g1 ≠ gX) := ⟨by rw [hg]; exact Nat.ne_of_lt (blk_lt K1.out)⟩
        have NEW : Aside0 (gW ≠ gX) := ⟨by rw [hg]; exact Nat.ne_of_lt (blk_lt KW.out)⟩
        have GE : Aside0 (w.heap.size ≤ gX) := ⟨by rw [hg]; exact below_size HB.out⟩
        replace K0 := Aside0.mk (blk_below K0.out hb)
        replace K1 := Aside0.mk (blk_below K1.out hb)
        replace KW := Aside0.mk (blk_below KW.out hb)
        replace HB := Aside0.mk (below_step HB.out hb)
        have BK := Aside0.mk hbox
        clear hg hb hbox
        refine hK.out _ _ ⟨K0.out, K1.out⟩ (fun _ => ?_)
        clear hK K
        refine norm_ (a' := ?_) ?_ ?_
        rotate_left
        · show Act.put _ (some 6) _ = _
          simp only [Act.put, List.setIfInBounds_toArray, List.set_cons_zero, List.set_cons_succ, i64_w, i32_w]
          rfl
        refine one_ (i := 3) (N := some 15) #[true, true, true, true, false, true, false] rfl rfl (by kernel_rfl) (by decide) (fun K hK => ?_)
        refine goes_ Try.func11 (by kernel_rfl) rfl #[.agg #[.float .f64 c, .float .f64 d]] (by rfl) rfl rfl (by (try simp only [List.map_toArray, List.map_cons, List.map_nil]); first | done | rfl) ?_
        with_reducible refine (laws_toCx.calls c d _).mono ?_
        rintro e W1 ⟨rfl, hb⟩
        refine ⟨_, rfl, ?_⟩
        replace K0 := Aside0.mk (blk_below K0.out hb)
        replace K1 := Aside0.mk (blk_below K1.out hb)
        replace KW := Aside0.mk (blk_below KW.out hb)
        replace BK := Aside0.mk (blk_below BK.out hb)
        replace HB := Aside0.mk (below_step HB.out hb)
        clear hb
        refine hK.out _ _ ⟨K0.out, K1.out⟩ (fun _ => ?_)
        clear hK K
        refine norm_ (a' := ?_) ?_ ?_
        rotate_left
        · show Act.put _ (some 15) _ = _
          simp only [Act.put, List.setIfInBounds_toArray, List.set_cons_zero, List.set_cons_succ, i64_w, i32_w]
          rfl
        refine one_ (i := 4) (N := some 16) #[true, true, true, true, true, true, false] rfl rfl (by kernel_rfl) (by decide) (fun K hK => ?_)
        refine goes_ Try.func12 (by kernel_rfl) rfl #[.agg #[.float .f64 a, .float .f64 b], .agg #[.float .f64 c, .float .f64 d]] (by rfl) rfl rfl (by (try simp only [List.map_toArray, List.map_cons, List.map_nil]); first | done | rfl) ?_
        with_reducible refine (impl_Product.calls a b c d a b c d ⟨Same.rfl⟩ ⟨Same.rfl⟩ ⟨Same.rfl⟩ ⟨Same.rfl⟩ _).mono ?_
        rintro e W1 ⟨r1, r2, rfl, h1, h2, hb⟩
        have hr1 := Aside0.mk h1
        have hr2 := Aside0.mk h2
        clear h1 h2
        refine ⟨_, rfl, ?_⟩
        replace K0 := Aside0.mk (blk_below K0.out hb)
        replace K1 := Aside0.mk (blk_below K1.out hb)
        replace KW := Aside0.mk (blk_below KW.out hb)
        replace BK := Aside0.mk (blk_below BK.out hb)
        replace HB := Aside0.mk (below_step HB.out hb)
        clear hb
        refine hK.out _ _ ⟨K0.out, K1.out⟩ (fun _ => ?_)
        clear hK K
        refine norm_ (a' := ?_) ?_ ?_
        rotate_left
        · show Act.put _ (some 16) _ = _
          simp only [Act.put, List.setIfInBounds_toArray, List.set_cons_zero, List.set_cons_succ, i64_w, i32_w]
          rfl
        exact norm_ (by simp only [putAll, Act.put, List.setIfInBounds_toArray, List.set_cons_zero, List.set_cons_succ]) (hCont (gX, r1, r2) _ ⟨⟨K0.out, K1.out⟩, K0.out, K1.out, KW.out, BK.out, GE.out, NE0.out, NE1.out, NEW.out, HB.out, hr1.out, hr2.out⟩)
    · skip
      refine box_step ?hg (N := 6) ?hd (cs := #[.float .f64 0, .float .f64 0]) (t := 25) ?hr ?_; (case hd => rfl); (case hg => rfl); (case hr => first | (go_simp; done) | (go_simp; rfl))
      intro gX hg W1 hbox hb
      have NE0 : Aside0 (g0 ≠ gX) := ⟨by rw [hg]; exact Nat.ne_of_lt (blk_lt K0.out)⟩
      have NE1 : Aside0 (g1 ≠ gX) := ⟨by rw [hg]; exact Nat.ne_of_lt (blk_lt K1.out)⟩
      have NEW : Aside0 (gW ≠ gX) := ⟨by rw [hg]; exact Nat.ne_of_lt (blk_lt KW.out)⟩
      have GE : Aside0 (w.heap.size ≤ gX) := ⟨by rw [hg]; exact below_size HB.out⟩
      replace K0 := Aside0.mk (blk_below K0.out hb)
      replace K1 := Aside0.mk (blk_below K1.out hb)
      replace KW := Aside0.mk (blk_below KW.out hb)
      replace HB := Aside0.mk (below_step HB.out hb)
      have BK := Aside0.mk hbox
      clear hg hb hbox
      refine hK.out _ _ ⟨K0.out, K1.out⟩ (fun _ => ?_)
      clear hK K
      refine norm_ (a' := ?_) ?_ ?_
      rotate_left
      · show Act.put _ (some 6) _ = _
        simp only [Act.put, List.setIfInBounds_toArray, List.set_cons_zero, List.set_cons_succ, i64_w, i32_w]
        rfl
      refine one_ (i := 1) (N := some 13) #[true, true, true, false, false, true, false] rfl rfl (by kernel_rfl) (by decide) (fun K hK => ?_)
      refine goes_ Try.func11 (by kernel_rfl) rfl #[.agg #[.float .f64 a, .float .f64 b]] (by rfl) rfl rfl (by (try simp only [List.map_toArray, List.map_cons, List.map_nil]); first | done | rfl) ?_
      with_reducible refine (laws_toCx.calls a b _).mono ?_
      rintro e W1 ⟨rfl, hb⟩
      refine ⟨_, rfl, ?_⟩
      replace K0 := Aside0.mk (blk_below K0.out hb)
      replace K1 := Aside0.mk (blk_below K1.out hb)
      replace KW := Aside0.mk (blk_below KW.out hb)
      replace BK := Aside0.mk (blk_below BK.out hb)
      replace HB := Aside0.mk (below_step HB.out hb)
      clear hb
      refine hK.out _ _ ⟨K0.out, K1.out⟩ (fun _ => ?_)
      clear hK K
      refine norm_ (a' := ?_) ?_ ?_
      rotate_left
      · show Act.put _ (some 13) _ = _
        simp only [Act.put, List.setIfInBounds_toArray, List.set_cons_zero, List.set_cons_succ, i64_w, i32_w]
        rfl
      refine one_ (i := 3) (N := some 15) #[true, true, true, true, false, true, false] rfl rfl (by kernel_rfl) (by decide) (fun K hK => ?_)
      refine goes_ Try.func11 (by kernel_rfl) rfl #[.agg #[.float .f64 c, .float .f64 d]] (by rfl) rfl rfl (by (try simp only [List.map_toArray, List.map_cons, List.map_nil]); first | done | rfl) ?_
      with_reducible refine (laws_toCx.calls c d _).mono ?_
      rintro e W1 ⟨rfl, hb⟩
      refine ⟨_, rfl, ?_⟩
      replace K0 := Aside0.mk (blk_below K0.out hb)
      replace K1 := Aside0.mk (blk_below K1.out hb)
      replace KW := Aside0.mk (blk_below KW.out hb)
      replace BK := Aside0.mk (blk_below BK.out hb)
      replace HB := Aside0.mk (below_step HB.out hb)
      clear hb
      refine hK.out _ _ ⟨K0.out, K1.out⟩ (fun _ => ?_)
      clear hK K
      refine norm_ (a' := ?_) ?_ ?_
      rotate_left
      · show Act.put _ (some 15) _ = _
        simp only [Act.put, List.setIfInBounds_toArray, List.set_cons_zero, List.set_cons_succ, i64_w, i32_w]
        rfl
      refine one_ (i := 4) (N := some 16) #[true, true, true, true, true, true, false] rfl rfl (by kernel_rfl) (by decide) (fun K hK => ?_)
      refine goes_ Try.func12 (by kernel_rfl) rfl #[.agg #[.float .f64 a, .float .f64 b], .agg #[.float .f64 c, .float .f64 d]] (by rfl) rfl rfl (by (try simp only [List.map_toArray, List.map_cons, List.map_nil]); first | done | rfl) ?_
      with_reducible refine (impl_Product.calls a b c d a b c d ⟨Same.rfl⟩ ⟨Same.rfl⟩ ⟨Same.rfl⟩ ⟨Same.rfl⟩ _).mono ?_
      rintro e W1 ⟨r1, r2, rfl, h1, h2, hb⟩
      have hr1 := Aside0.mk h1
      have hr2 := Aside0.mk h2
      clear h1 h2
      refine ⟨_, rfl, ?_⟩
      replace K0 := Aside0.mk (blk_below K0.out hb)
      replace K1 := Aside0.mk (blk_below K1.out hb)
      replace KW := Aside0.mk (blk_below KW.out hb)
      replace BK := Aside0.mk (blk_below BK.out hb)
      replace HB := Aside0.mk (below_step HB.out hb)
      clear hb
      refine hK.out _ _ ⟨K0.out, K1.out⟩ (fun _ => ?_)
      clear hK K
      refine norm_ (a' := ?_) ?_ ?_
      rotate_left
      · show Act.put _ (some 16) _ = _
        simp only [Act.put, List.setIfInBounds_toArray, List.set_cons_zero, List.set_cons_succ, i64_w, i32_w]
        rfl
      exact norm_ (by simp only [putAll, Act.put, List.setIfInBounds_toArray, List.set_cons_zero, List.set_cons_succ]) (hCont (gX, r1, r2) _ ⟨⟨K0.out, K1.out⟩, K0.out, K1.out, KW.out, BK.out, GE.out, NE0.out, NE1.out, NEW.out, HB.out, hr1.out, hr2.out⟩)
  clear K0 K1 KW HB
  rintro ⟨gX, p1, p2⟩ U2 ⟨hS_, k0, k1, kw, bk, ge, ne0, ne1, new_, bel, hq1, hq2⟩
  dsimp only at bk ge ne0 ne1 hq1 hq2 new_ ⊢
  have K0 := Aside0.mk k0
  have K1 := Aside0.mk k1
  have BK := Aside0.mk bk
  have GE := Aside0.mk ge
  have NE0 := Aside0.mk ne0
  have NE1 := Aside0.mk ne1
  have HB := Aside0.mk bel
  have Hp1 := Aside0.mk hq1
  have Hp2 := Aside0.mk hq2
  have KW := Aside0.mk kw
  have NEW := Aside0.mk new_
  clear k0 k1 bk ge ne0 ne1 bel hq1 hq2 kw new_
  refine norm_ (a' := ?_) ?_ ?_
  rotate_left
  · simp only [putAll, Act.put, List.setIfInBounds_toArray, List.set_cons_zero, List.set_cons_succ]
    rfl
  refine one_ (i := 6) (N := none) #[true, true, true, true, true, true, true] rfl rfl (by kernel_rfl) (by decide) (fun K hK => ?_)
  have c0 : U2.cell? ⟨gX, 0, none⟩ = some (.float .f64 0) := (blk_cell BK.out 0).trans rfl
  have f0 := blk_frozen BK.out 0
  have c1 : U2.cell? ⟨gX, 1, none⟩ = some (.float .f64 0) := (blk_cell BK.out 1).trans rfl
  have f1 := blk_frozen BK.out 1
  refine skip_ (w1 := ?_) (by rfl) rfl ?_ ?_
  rotate_left
  · go_simp
    rfl
  clear c0 c1 f0 f1
  replace K0 := Aside0.mk (blk_far (blk_far K0.out (p := ⟨gX, 0, none⟩) NE0.out (.float .f64 p1)) (p := ⟨gX, 1, none⟩) NE0.out (.float .f64 p2))
  replace K1 := Aside0.mk (blk_far (blk_far K1.out (p := ⟨gX, 0, none⟩) NE1.out (.float .f64 p1)) (p := ⟨gX, 1, none⟩) NE1.out (.float .f64 p2))
  replace KW := Aside0.mk (blk_far (blk_far KW.out (p := ⟨gX, 0, none⟩) NEW.out (.float .f64 p1)) (p := ⟨gX, 1, none⟩) NEW.out (.float .f64 p2))
  replace BK := Aside0.mk (blk_put (blk_put BK.out 0 (.float .f64 p1) (show _ = #[.float .f64 p1, .float .f64 0] from rfl)) 1 (.float .f64 p2) (show _ = #[.float .f64 p1, .float .f64 p2] from rfl))
  replace HB := Aside0.mk (below_set (j := 1) (v := .float .f64 p2) (below_set (j := 0) (v := .float .f64 p1) HB.out GE.out) GE.out)
  refine hK.out _ _ ⟨K0.out, K1.out⟩ (fun _ => ?_)
  clear hK K
  generalize (U2.setCell ⟨gX, 0, none⟩ (.float .f64 p1)).setCell ⟨gX, 1, none⟩ (.float .f64 p2) = Z2 at K0 K1 KW BK HB ⊢
  refine done_ (by kernel_rfl) ?_
  skip
  have kw0 : Z2.cell? ⟨gW, 0, none⟩ = some (.float .f64 q1) := (blk_cell KW.out 0).trans rfl
  have kw1 : Z2.cell? ⟨gW, 1, none⟩ = some (.float .f64 q2) := (blk_cell KW.out 1).trans rfl
  have bk0 : Z2.cell? ⟨gX, 0, none⟩ = some (.float .f64 p1) := (blk_cell BK.out 0).trans rfl
  have bk1 : Z2.cell? ⟨gX, 1, none⟩ = some (.float .f64 p2) := (blk_cell BK.out 1).trans rfl
  go_wp2_with (first | ((with_reducible refine gate_callee (f := 13) rfl ?_); refine goesL_ (some 19) rfl rfl Try.func13 (by kernel_rfl) rfl #[.agg #[.float .f64 p1, .float .f64 p2], .agg #[.float .f64 q1, .float .f64 q2]] rfl (by (try simp only [List.map_toArray, List.map_cons, List.map_nil]); first | done | rfl) ?_; (with_reducible refine (laws_eqCx.calls p1 p2 q1 q2 ⟨Hp1.out.trans Hq1.out.symm⟩ ⟨Hp2.out.trans Hq2.out.symm⟩ _).mono ?_); rintro e W1 ⟨rfl, hb⟩; refine ⟨_, rfl, ?_⟩; replace HB := Aside0.mk (below_step HB.out hb); clear hb))
  all_goals (go_ret; exact ⟨rfl, HB.out⟩)
end Go.Proofs.Ytihmoiheiglohaa.PFnExactProduct
