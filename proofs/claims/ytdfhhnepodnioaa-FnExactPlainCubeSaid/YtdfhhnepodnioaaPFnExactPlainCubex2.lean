/- The functions that the law reaches, as Lean functions, each with the proof that the Go code comes to just these answers. Written by a program of this session (wip/tools/handprint.py over the kit's print); by hand where the print takes no such text. -/
import Derived.Test.YtdfhhnepodnioaaPFnExactPlainCubex0
import Derived.Test.YtdfhhnepodnioaaPFnExactPlainCubex1
namespace Go.Proofs.Ytdfhhnepodnioaa.PFnExactPlainCube
open Go.RowKit Go.Proofs.YtdfhhnepodnioaaW.PrintWords Go.Proofs.YtdfhhnepodnioaaW.PrintLast Go.Proofs.YtdfhhnepodnioaaW.PrintMore
attribute [local go_sem] max2_int min2_int max_two min_two max_three min_three max_four min_four   -- for this text's walks alone
set_option linter.unusedVariables false
set_option linter.unusedSimpArgs false

/-! ### impl_PlainCube: function 25 -/
-- rounds 0 making 1
-- roots loop.example/g00066/impl.near loop.example/g00066/impl.in
/-- A part of the cube's node. -/
def pcq (n p : Nat) : Int := (((2 * (p * 65535) + (n - 1)) / (2 * (n - 1)) : Nat) : Int)
def pce (n i : Nat) : S63 := ⟨pcq n (i / (n * n)), pcq n (i / n % n), pcq n (i % n)⟩
def impl_PlainCube.f (a0 : Int) : Option (List S63) := some (if 2 ≤ a0 ∧ a0 ≤ 9 then (List.range (a0.toNat * a0.toNat * a0.toNat)).map (pce a0.toNat) else [])
theorem near_pc (n p : Nat) (hn : 2 ≤ n) (hn9 : n ≤ 9) (hp : p < 10000) : impl_near.f ((p : Int) * 65535) ((n : Int) - 1) = some (pcq n p) := by
  have w1 : wrap64 (2 * ((p : Int) * 65535)) = 2 * ((p : Int) * 65535) := by unfold wrap64; omega
  have w2 : wrap64 (2 * ((p : Int) * 65535) + ((n : Int) - 1)) = ((2 * (p * 65535) + (n - 1) : Nat) : Int) := by unfold wrap64; omega
  have w3 : wrap64 (2 * ((n : Int) - 1)) = ((2 * (n - 1) : Nat) : Int) := by unfold wrap64; omega
  unfold impl_near.f
  rw [w1, w2, w3]
  unfold impl_down.f
  generalize hA : 2 * (p * 65535) + (n - 1) = A
  generalize hB : 2 * (n - 1) = B
  have hB0 : B ≠ 0 := by omega
  rw [if_neg (by omega), Int.tmod_eq_emod_of_nonneg (by omega), if_neg (by have := Int.emod_nonneg (A : Int) (by omega : (B : Int) ≠ 0); omega)]
  have hq : Int.tdiv (A : Int) (B : Int) = ((A / B : Nat) : Int) := by rw [Int.tdiv_eq_ediv_of_nonneg (by omega)]; rfl
  rw [hq]
  have hle : A / B ≤ A := Nat.div_le_self _ _
  unfold pcq
  rw [hA, hB]
  generalize A / B = Q at *
  have w4 : wrap64 (Q : Int) = (Q : Int) := by unfold wrap64; omega
  rw [w4]
  rfl
set_option maxHeartbeats 8000000 in
set_option maxRecDepth 100000 in
theorem rgb_calls (x y z : Int) (w : World) : Calls Try.prog 50 #[.agg #[.int .i64 x, .int .i64 y, .int .i64 z]] w fun e w' => e = .returned (.agg #[.int .i64 x, .int .i64 y, .int .i64 z]) ∧ Below w.heap.size w w' := by
  have hu63 := Try.underlying63
  have hu64 := Try.underlying64
  have hu2 := Try.underlying2
  have HB := Aside0.mk (Below.refl w.heap.size w)
  go_enter Try.func50, Try.ntmps50
  go_wp2
  refine bodyPost_ret (results_cell_row rfl _ _ (w.heap.size + 1) 63 #[.int .i64 x, .int .i64 y, .int .i64 z] (0, 0) _ rfl (by
    first
    | (simpa using blk_new (w.alloc (.cells #[.int .i64 x, .int .i64 y, .int .i64 z] 64)) (.cells #[.int .i64 x, .int .i64 y, .int .i64 z] 63))
    | (refine blk_put (cs := #[.int .i64 x, .int .i64 y, .int .i64 0]) ?_ 2 _ rfl
       refine blk_put (cs := #[.int .i64 x, .int .i64 0, .int .i64 0]) ?_ 1 _ rfl
       refine blk_put (cs := #[.int .i64 0, .int .i64 0, .int .i64 0]) ?_ 0 _ rfl
       simpa using blk_new (w.alloc (.cells #[.int .i64 x, .int .i64 y, .int .i64 z] 64)) (.cells #[.int .i64 0, .int .i64 0, .int .i64 0] 63))) Try.underlying63 rfl (by kernel_rfl)) rfl ?_
  exact ⟨rfl, by repeat (first | exact HB.out | apply below_alloc | apply pw_below_drewN | (refine below_set ?_ (by omega)))⟩
set_option maxHeartbeats 8000000 in
set_option maxRecDepth 100000 in
theorem impl_PlainCube.at2 (w : World) : Calls Try.prog 25 #[.int .i64 2] w fun e w' => ∃ v, e = .returned v ∧ Kd.R k63 63 w' w.heap.size (fun _ => True) v ((List.range 8).map (pce 2)) ∧ Below w.heap.size w w' := by
  have hu2 := Try.underlying2
  have hu63 := Try.underlying63
  have hu64 := Try.underlying64
  have hu44 := Try.underlying44
  have HB := Aside0.mk (Below.refl w.heap.size w)
  have HIN : Aside0 (impl_in.f 2 2 9 = some true) := ⟨by decide⟩
  go_enter Try.func25, Try.ntmps25
  go_wp2_with (first | ((with_reducible refine gate_dst (N := 10) rfl ?_); refine Kd.R_lit k63 w.heap.size 63 ?hg (N := 10) ?hd (xs := ([] : List (S63))) (inner := []) (ok := fun _ => True) (okp := fun _ => True) ?hr ?hp (fun _ hk => hk) trivial HB.out HB.out.size (by simp) ?_; (case hd => rfl); (case hg => rfl); (case hr => first | (go_simp; done) | (go_simp; rfl)); (case hp => exact (Reps.none _ _)); intro v103 w4 ho5 hb hg_ hnew_; replace HB := Aside0.mk hb; have HO : Aside0 (Kd.R k63 63 w4 w.heap.size (fun _ => True) v103 (((List.range 8).map (pce 2)).take 0)) := ⟨ho5⟩; clear hg_ hnew_ ho5 hb) | ((with_reducible refine gate_dst (N := 8) rfl ?_); refine goesL_ (some 8) rfl rfl Try.func31 (by kernel_rfl) rfl #[.int .i64 2, .int .i64 2, .int .i64 9] rfl (by (try simp only [List.map_toArray, List.map_cons, List.map_nil]); first | done | rfl) ?_; (with_reducible refine (impl_in.calls 2 2 9 true _ HIN.out).mono ?_); rintro e W1 ⟨rfl, hD⟩; refine ⟨_, rfl, ?_⟩; have hb := hD.below; replace HB := Aside0.mk (below_step HB.out hb); clear hb hD))
  go_loopg [3, 16] 8 (fun kq v3 v16 w' => ∃ (i : Nat), v16 = .int .i64 (i : Int) ∧ Aside0 (i + kq = 8) ∧ Aside0 (Kd.R k63 63 w' w.heap.size (fun _ => True) v3 (((List.range 8).map (pce 2)).take i)) ∧ Aside0 (Below w.heap.size w w'))
  case atStart => exact ⟨0, rfl, ⟨by omega⟩, HO, HB⟩
  case round =>
    clear HB HO
    obtain ⟨i, rfl, HK, HO, HB⟩ := hrel
    by_cases hi : i < 8
    · have hlt : decide ((i : Int) < (8 : Int)) = true := decide_eq_true (by omega)
      have hi2 : (i : Int) < (8 : Int) := by omega
      have HI := Aside0.mk hi
      have HT : Aside0 (((List.range 8).map (pce 2)).take (i + 1) = ((List.range 8).map (pce 2)).take i ++ [pce 2 i]) := ⟨by rw [List.take_succ_eq_append_getElem (by simpa using hi)]; simp⟩
      have hw2 : wrap64 4 = 4 := by unfold wrap64; omega
      have hq1 : IntKind.i64.wrap ((i : Int) / 4) = (i : Int) / 4 := by rw [i64_w]; unfold wrap64; omega
      have hq2 : IntKind.i64.wrap ((i : Int) / 2) = (i : Int) / 2 := by rw [i64_w]; unfold wrap64; omega
      clear hi
      go_upto_region 7 with (fail)
      refine start_ (n := 16) (S := fun w' => Below wr.heap.size wr w') (ds := [15]) #[false, false, false, false, false, false, false, false, false, false, false, false, false, false, false, false] (by kernel_rfl) rfl rfl (below_drew1 (Below.refl _ _)) (fun hHeld => ?_)
      generalize World.drew _ = V at hHeld ⊢
      refine pure_ (i := 0) (N := some 19) (v := ?_) (a' := ?_) #[true, false, false, false, false, false, false, false, false, false, false, false, false, false, false, false] rfl rfl (by kernel_rfl) (fun _ _ _ h => h) (Or.inl ⟨by rfl, ?_⟩) ?_ ?_
      rotate_left
      · intro w'
        go_simp
        with_reducible rfl
      rotate_left
      · simp only [Act.put, List.setIfInBounds_toArray, List.set_cons_zero, List.set_cons_succ, i64_w, i32_w]
        rfl
      refine pure_ (i := 1) (N := some 20) (v := ?_) (a' := ?_) #[true, true, false, false, false, false, false, false, false, false, false, false, false, false, false, false] rfl rfl (by kernel_rfl) (fun _ _ _ h => h) (Or.inl ⟨by rfl, ?_⟩) ?_ ?_
      rotate_left
      · intro w'
        go_simp
        with_reducible rfl
      rotate_left
      · simp only [Act.put, List.setIfInBounds_toArray, List.set_cons_zero, List.set_cons_succ, i64_w, i32_w]
        rfl
      refine pure_ (i := 2) (N := some 21) (v := ?_) (a' := ?_) #[true, true, true, false, false, false, false, false, false, false, false, false, false, false, false, false] rfl rfl (by kernel_rfl) (fun _ _ _ h => h) (Or.inl ⟨by rfl, ?_⟩) ?_ ?_
      rotate_left
      · intro w'
        go_simp
        with_reducible rfl
      rotate_left
      · simp only [Act.put, List.setIfInBounds_toArray, List.set_cons_zero, List.set_cons_succ, i64_w, i32_w]
        rfl
      refine pure_ (i := 3) (N := some 22) (v := ?_) (a' := ?_) #[true, true, true, true, false, false, false, false, false, false, false, false, false, false, false, false] rfl rfl (by kernel_rfl) (fun _ _ _ h => h) (Or.inl ⟨by rfl, ?_⟩) ?_ ?_
      rotate_left
      · intro w'
        go_simp
        with_reducible rfl
      rotate_left
      · simp only [Act.put, List.setIfInBounds_toArray, List.set_cons_zero, List.set_cons_succ, i64_w, i32_w]
        rfl
      refine pure_ (i := 4) (N := some 23) (v := ?_) (a' := ?_) #[true, true, true, true, true, false, false, false, false, false, false, false, false, false, false, false] rfl rfl (by kernel_rfl) (fun _ _ _ h => h) (Or.inl ⟨by rfl, ?_⟩) ?_ ?_
      rotate_left
      · intro w'
        go_simp
        with_reducible rfl
      rotate_left
      · simp only [Act.put, List.setIfInBounds_toArray, List.set_cons_zero, List.set_cons_succ, i64_w, i32_w]
        rfl
      refine pure_ (i := 5) (N := some 24) (v := ?_) (a' := ?_) #[true, true, true, true, true, true, false, false, false, false, false, false, false, false, false, false] rfl rfl (by kernel_rfl) (fun _ _ _ h => h) (Or.inl ⟨by rfl, ?_⟩) ?_ ?_
      rotate_left
      · intro w'
        go_simp
        with_reducible rfl
      rotate_left
      · simp only [Act.put, List.setIfInBounds_toArray, List.set_cons_zero, List.set_cons_succ, i64_w, i32_w]
        rfl
      refine pure_ (i := 6) (N := some 25) (v := ?_) (a' := ?_) #[true, true, true, true, true, true, true, false, false, false, false, false, false, false, false, false] rfl rfl (by kernel_rfl) (fun _ _ _ h => h) (Or.inl ⟨by rfl, ?_⟩) ?_ ?_
      rotate_left
      · intro w'
        go_simp
        with_reducible rfl
      rotate_left
      · simp only [Act.put, List.setIfInBounds_toArray, List.set_cons_zero, List.set_cons_succ, i64_w, i32_w]
        rfl
      refine pure_ (i := 7) (N := some 26) (v := ?_) (a' := ?_) #[true, true, true, true, true, true, true, true, false, false, false, false, false, false, false, false] rfl rfl (by kernel_rfl) (fun _ _ _ h => h) (Or.inl ⟨by rfl, ?_⟩) ?_ ?_
      rotate_left
      · intro w'
        go_simp
        with_reducible rfl
      rotate_left
      · simp only [Act.put, List.setIfInBounds_toArray, List.set_cons_zero, List.set_cons_succ, i64_w, i32_w]
        rfl
      refine pure_ (i := 8) (N := some 27) (v := ?_) (a' := ?_) #[true, true, true, true, true, true, true, true, true, false, false, false, false, false, false, false] rfl rfl (by kernel_rfl) (fun _ _ _ h => h) (Or.inl ⟨by rfl, ?_⟩) ?_ ?_
      rotate_left
      · intro w'
        go_simp
        with_reducible rfl
      rotate_left
      · simp only [Act.put, List.setIfInBounds_toArray, List.set_cons_zero, List.set_cons_succ, i64_w, i32_w]
        rfl
      refine pure_ (i := 9) (N := some 28) (v := ?_) (a' := ?_) #[true, true, true, true, true, true, true, true, true, true, false, false, false, false, false, false] rfl rfl (by kernel_rfl) (fun _ _ _ h => h) (Or.inl ⟨by rfl, ?_⟩) ?_ ?_
      rotate_left
      · intro w'
        go_simp
        with_reducible rfl
      rotate_left
      · simp only [Act.put, List.setIfInBounds_toArray, List.set_cons_zero, List.set_cons_succ, i64_w, i32_w]
        rfl
      refine pure_ (i := 10) (N := some 29) (v := ?_) (a' := ?_) #[true, true, true, true, true, true, true, true, true, true, true, false, false, false, false, false] rfl rfl (by kernel_rfl) (fun _ _ _ h => h) (Or.inl ⟨by rfl, ?_⟩) ?_ ?_
      rotate_left
      · intro w'
        go_simp
        with_reducible rfl
      rotate_left
      · simp only [Act.put, List.setIfInBounds_toArray, List.set_cons_zero, List.set_cons_succ, i64_w, i32_w]
        rfl
      refine pure_ (i := 11) (N := some 30) (v := ?_) (a' := ?_) #[true, true, true, true, true, true, true, true, true, true, true, true, false, false, false, false] rfl rfl (by kernel_rfl) (fun _ _ _ h => h) (Or.inl ⟨by rfl, ?_⟩) ?_ ?_
      rotate_left
      · intro w'
        go_simp
        with_reducible rfl
      rotate_left
      · simp only [Act.put, List.setIfInBounds_toArray, List.set_cons_zero, List.set_cons_succ, i64_w, i32_w]
        rfl
      refine pure_ (i := 12) (N := some 31) (v := ?_) (a' := ?_) #[true, true, true, true, true, true, true, true, true, true, true, true, true, false, false, false] rfl rfl (by kernel_rfl) (fun _ _ _ h => h) (Or.inl ⟨by rfl, ?_⟩) ?_ ?_
      rotate_left
      · intro w'
        go_simp
        with_reducible rfl
      rotate_left
      · simp only [Act.put, List.setIfInBounds_toArray, List.set_cons_zero, List.set_cons_succ, i64_w, i32_w]
        rfl
      refine pure_ (i := 13) (N := some 32) (v := ?_) (a' := ?_) #[true, true, true, true, true, true, true, true, true, true, true, true, true, true, false, false] rfl rfl (by kernel_rfl) (fun _ _ _ h => h) (Or.inl ⟨by rfl, ?_⟩) ?_ ?_
      rotate_left
      · intro w'
        go_simp
        with_reducible rfl
      rotate_left
      · simp only [Act.put, List.setIfInBounds_toArray, List.set_cons_zero, List.set_cons_succ, i64_w, i32_w]
        rfl
      refine one_ (i := 14) (N := some 5) #[true, true, true, true, true, true, true, true, true, true, true, true, true, true, true, false] rfl rfl (by kernel_rfl) (by decide) (fun K hK => ?_)
      refine box_step ?hg (N := 5) ?hd (cs := #[.int .i64 0, .int .i64 0, .int .i64 0]) (t := 64) ?hr ?_; (case hd => rfl); (case hg => rfl); (case hr => first | (go_simp; done) | (go_simp; rfl))
      intro g5 hg W2 hbox hb
      have hge : wr.heap.size ≤ g5 := by rw [hg]; exact hHeld.size
      replace hHeld := below_step hHeld hb
      clear hb hg
      refine hK.out _ _ hHeld (fun _ => ?_)
      clear hK K
      refine norm_ (a' := ?_) ?_ ?_
      rotate_left
      · show Act.put _ (some 5) _ = _
        simp only [Act.put, List.setIfInBounds_toArray, List.set_cons_zero, List.set_cons_succ, i64_w, i32_w]
        rfl
      refine last_ (i := 15) (N := none) #[true, true, true, true, true, true, true, true, true, true, true, true, true, true, true, true] rfl rfl (by kernel_rfl) (by decide) (fun K hK => ?_)
      have e0 : W2.cell? ⟨g5, 0, none⟩ = some (.int .i64 0) := (blk_cell hbox 0).trans rfl
      have e1 : W2.cell? ⟨g5, 1, none⟩ = some (.int .i64 0) := (blk_cell hbox 1).trans rfl
      have e2 : W2.cell? ⟨g5, 2, none⟩ = some (.int .i64 0) := (blk_cell hbox 2).trans rfl
      have e3 := blk_frozen hbox 0
      have e4 := blk_frozen hbox 1
      have e5 := blk_frozen hbox 2
      have HGE := Aside0.mk hge
      have HBO := Aside0.mk hbox
      have HBW := Aside0.mk hHeld
      clear hge hHeld hbox
      refine skip_ (w1 := ?_) (by rfl) rfl ?_ ?_
      rotate_left
      · go_simp
        rfl
      refine hK.out _ _ ?_
      clear hK K e0 e1 e2 e3 e4 e5
      refine done_ (by kernel_rfl) ?_
      obtain ⟨P0, hP0⟩ : ∃ P : Nat, P = i / 4 := ⟨_, rfl⟩
      obtain ⟨P1, hP1⟩ : ∃ P : Nat, P = i / 2 % 2 := ⟨_, rfl⟩
      obtain ⟨P2, hP2⟩ : ∃ P : Nat, P = i % 2 := ⟨_, rfl⟩
      have hb0 : P0 < 10000 := by have := HI.out; omega
      have hb1 : P1 < 10000 := by omega
      have hb2 : P2 < 10000 := by omega
      have HPE : Aside0 (pce 2 i = ⟨pcq 2 P0, pcq 2 P1, pcq 2 P2⟩) := ⟨by rw [hP0, hP1, hP2]; rfl⟩
      rw [show ((i : Int) / 2).tmod 2 = (P1 : Int) by rw [Int.tmod_eq_emod_of_nonneg (by omega)]; omega, show ((i : Int)).tmod 2 = (P2 : Int) by rw [Int.tmod_eq_emod_of_nonneg (by omega)]; omega, show (i : Int) / 4 = (P0 : Int) by omega]
      have BP : Aside0 ((((W2.setCell ⟨g5, 0, none⟩ (.int .i64 (P0 : Int))).setCell ⟨g5, 1, none⟩ (.int .i64 (P1 : Int))).setCell ⟨g5, 2, none⟩ (.int .i64 (P2 : Int))).heap[g5]? = some (.cells #[.int .i64 (P0 : Int), .int .i64 (P1 : Int), .int .i64 (P2 : Int)] 64 (0, 0))) := ⟨blk_put (cs := #[.int .i64 (P0 : Int), .int .i64 (P1 : Int), .int .i64 0]) (blk_put (cs := #[.int .i64 (P0 : Int), .int .i64 0, .int .i64 0]) (blk_put (cs := #[.int .i64 0, .int .i64 0, .int .i64 0]) HBO.out 0 _ rfl) 1 _ rfl) 2 _ rfl⟩
      replace HBW := Aside0.mk (below_set (g := g5) (j := 2) (v := .int .i64 (P2 : Int)) (below_set (g := g5) (j := 1) (v := .int .i64 (P1 : Int)) (below_set (g := g5) (j := 0) (v := .int .i64 (P0 : Int)) HBW.out HGE.out) HGE.out) HGE.out)
      generalize World.setCell _ _ _ = V3 at BP HBW ⊢
      clear HBO hP0 hP1 hP2 hq1 hq2 hw2
      have N0 : Aside0 (impl_near.f ((P0 : Int) * 65535) 1 = some (pcq 2 P0)) := ⟨near_pc 2 P0 (by omega) (by omega) hb0⟩
      have N1 : Aside0 (impl_near.f ((P1 : Int) * 65535) 1 = some (pcq 2 P1)) := ⟨near_pc 2 P1 (by omega) (by omega) hb1⟩
      have N2 : Aside0 (impl_near.f ((P2 : Int) * 65535) 1 = some (pcq 2 P2)) := ⟨near_pc 2 P2 (by omega) (by omega) hb2⟩
      obtain ⟨gkO, hgO⟩ : ∃ g : Nat, g = gk := ⟨_, rfl⟩
      have HGO := Aside0.mk hgO
      clear hgO
      go_wp2
      go_loopg [33] 3 (fun kq v33 w' => ∃ (k x y z : Int), v33 = .int .i64 k ∧ Aside0 (k + kq = 3) ∧ Aside0 (w'.heap[g5]? = some (.cells #[.int .i64 x, .int .i64 y, .int .i64 z] 64 (0, 0))) ∧ Aside0 ((k = 0 ∧ x = P0 ∧ y = P1 ∧ z = P2) ∨ (k = 1 ∧ x = pcq 2 P0 ∧ y = P1 ∧ z = P2) ∨ (k = 2 ∧ x = pcq 2 P0 ∧ y = pcq 2 P1 ∧ z = P2) ∨ (k = 3 ∧ x = pcq 2 P0 ∧ y = pcq 2 P1 ∧ z = pcq 2 P2)) ∧ Aside0 (Below wr.heap.size wr w'))
      case atStart => exact ⟨0, P0, P1, P2, rfl, ⟨by omega⟩, BP, ⟨.inl ⟨rfl, rfl, rfl, rfl⟩⟩, HBW⟩
      case round =>
        clear BP HBW
        obtain ⟨k, x, y, z, rfl, HKK, BP, HF, HBW⟩ := hrel
        rcases HF.out with ⟨rfl, rfl, rfl, rfl⟩ | ⟨rfl, rfl, rfl, rfl⟩ | ⟨rfl, rfl, rfl, rfl⟩ | ⟨rfl, rfl, rfl, rfl⟩
        · clear HF
          have c0 := (blk_cell BP.out 0).trans (show _ = some (.int .i64 (P0 : Int)) from rfl)
          have c1 := (blk_cell BP.out 1).trans (show _ = some (.int .i64 (P1 : Int)) from rfl)
          have c2 := (blk_cell BP.out 2).trans (show _ = some (.int .i64 (P2 : Int)) from rfl)
          have f0 := blk_frozen BP.out 0
          have f1 := blk_frozen BP.out 1
          have f2 := blk_frozen BP.out 2
          go_wp2_with (first | ((with_reducible refine gate_dst (N := 43) rfl ?_); refine goesL_ (some 43) rfl rfl Try.func48 (by kernel_rfl) rfl #[.int .i64 ((P0 : Int) * 65535), .int .i64 1] rfl (by (try simp only [List.map_toArray, List.map_cons, List.map_nil]); first | done | rfl) ?_; (with_reducible refine (impl_near.calls ((P0 : Int) * 65535) 1 (pcq 2 P0) _ N0.out).mono ?_); rintro e W1 ⟨rfl, hD⟩; refine ⟨_, rfl, ?_⟩; have hb := hD.below; replace BP := Aside0.mk (blk_below BP.out hb); replace HBW := Aside0.mk (below_step HBW.out hb); clear hb hD c0 c1 c2 f0 f1 f2; have c0 : W1.cell? ⟨g5, 0, none⟩ = some (.int .i64 (P0 : Int)) := (blk_cell BP.out 0).trans rfl; have c1 : W1.cell? ⟨g5, 1, none⟩ = some (.int .i64 (P1 : Int)) := (blk_cell BP.out 1).trans rfl; have c2 : W1.cell? ⟨g5, 2, none⟩ = some (.int .i64 (P2 : Int)) := (blk_cell BP.out 2).trans rfl; have f0 := blk_frozen BP.out 0; have f1 := blk_frozen BP.out 1; have f2 := blk_frozen BP.out 2))
          go_roundg (gk - 1)
          case measure => have := HKK.out; omega
          case rel => exact ⟨1, (pcq 2 P0), (P1 : Int), (P2 : Int), rfl, ⟨by have := HKK.out; omega⟩, ⟨blk_put (cs := #[.int .i64 (P0 : Int), .int .i64 (P1 : Int), .int .i64 (P2 : Int)]) BP.out 0 _ rfl⟩, ⟨.inr (.inl ⟨rfl, rfl, rfl, rfl⟩)⟩, ⟨below_set HBW.out HGE.out⟩⟩
        · clear HF
          have c0 := (blk_cell BP.out 0).trans (show _ = some (.int .i64 (pcq 2 P0)) from rfl)
          have c1 := (blk_cell BP.out 1).trans (show _ = some (.int .i64 (P1 : Int)) from rfl)
          have c2 := (blk_cell BP.out 2).trans (show _ = some (.int .i64 (P2 : Int)) from rfl)
          have f0 := blk_frozen BP.out 0
          have f1 := blk_frozen BP.out 1
          have f2 := blk_frozen BP.out 2
          go_wp2_with (first | ((with_reducible refine gate_dst (N := 43) rfl ?_); refine goesL_ (some 43) rfl rfl Try.func48 (by kernel_rfl) rfl #[.int .i64 ((P1 : Int) * 65535), .int .i64 1] rfl (by (try simp only [List.map_toArray, List.map_cons, List.map_nil]); first | done | rfl) ?_; (with_reducible refine (impl_near.calls ((P1 : Int) * 65535) 1 (pcq 2 P1) _ N1.out).mono ?_); rintro e W1 ⟨rfl, hD⟩; refine ⟨_, rfl, ?_⟩; have hb := hD.below; replace BP := Aside0.mk (blk_below BP.out hb); replace HBW := Aside0.mk (below_step HBW.out hb); clear hb hD c0 c1 c2 f0 f1 f2; have c0 : W1.cell? ⟨g5, 0, none⟩ = some (.int .i64 (pcq 2 P0)) := (blk_cell BP.out 0).trans rfl; have c1 : W1.cell? ⟨g5, 1, none⟩ = some (.int .i64 (P1 : Int)) := (blk_cell BP.out 1).trans rfl; have c2 : W1.cell? ⟨g5, 2, none⟩ = some (.int .i64 (P2 : Int)) := (blk_cell BP.out 2).trans rfl; have f0 := blk_frozen BP.out 0; have f1 := blk_frozen BP.out 1; have f2 := blk_frozen BP.out 2))
          go_roundg (gk - 1)
          case measure => have := HKK.out; omega
          case rel => exact ⟨2, (pcq 2 P0), (pcq 2 P1), (P2 : Int), rfl, ⟨by have := HKK.out; omega⟩, ⟨blk_put (cs := #[.int .i64 (pcq 2 P0), .int .i64 (P1 : Int), .int .i64 (P2 : Int)]) BP.out 1 _ rfl⟩, ⟨.inr (.inr (.inl ⟨rfl, rfl, rfl, rfl⟩))⟩, ⟨below_set HBW.out HGE.out⟩⟩
        · clear HF
          have c0 := (blk_cell BP.out 0).trans (show _ = some (.int .i64 (pcq 2 P0)) from rfl)
          have c1 := (blk_cell BP.out 1).trans (show _ = some (.int .i64 (pcq 2 P1)) from rfl)
          have c2 := (blk_cell BP.out 2).trans (show _ = some (.int .i64 (P2 : Int)) from rfl)
          have f0 := blk_frozen BP.out 0
          have f1 := blk_frozen BP.out 1
          have f2 := blk_frozen BP.out 2
          go_wp2_with (first | ((with_reducible refine gate_dst (N := 43) rfl ?_); refine goesL_ (some 43) rfl rfl Try.func48 (by kernel_rfl) rfl #[.int .i64 ((P2 : Int) * 65535), .int .i64 1] rfl (by (try simp only [List.map_toArray, List.map_cons, List.map_nil]); first | done | rfl) ?_; (with_reducible refine (impl_near.calls ((P2 : Int) * 65535) 1 (pcq 2 P2) _ N2.out).mono ?_); rintro e W1 ⟨rfl, hD⟩; refine ⟨_, rfl, ?_⟩; have hb := hD.below; replace BP := Aside0.mk (blk_below BP.out hb); replace HBW := Aside0.mk (below_step HBW.out hb); clear hb hD c0 c1 c2 f0 f1 f2; have c0 : W1.cell? ⟨g5, 0, none⟩ = some (.int .i64 (pcq 2 P0)) := (blk_cell BP.out 0).trans rfl; have c1 : W1.cell? ⟨g5, 1, none⟩ = some (.int .i64 (pcq 2 P1)) := (blk_cell BP.out 1).trans rfl; have c2 : W1.cell? ⟨g5, 2, none⟩ = some (.int .i64 (P2 : Int)) := (blk_cell BP.out 2).trans rfl; have f0 := blk_frozen BP.out 0; have f1 := blk_frozen BP.out 1; have f2 := blk_frozen BP.out 2))
          go_roundg (gk - 1)
          case measure => have := HKK.out; omega
          case rel => exact ⟨3, (pcq 2 P0), (pcq 2 P1), (pcq 2 P2), rfl, ⟨by have := HKK.out; omega⟩, ⟨blk_put (cs := #[.int .i64 (pcq 2 P0), .int .i64 (pcq 2 P1), .int .i64 (P2 : Int)]) BP.out 2 _ rfl⟩, ⟨.inr (.inr (.inr ⟨rfl, rfl, rfl, rfl⟩))⟩, ⟨below_set HBW.out HGE.out⟩⟩
        · clear HF
          have c0 := (blk_cell BP.out 0).trans (show _ = some (.int .i64 (pcq 2 P0)) from rfl)
          have c1 := (blk_cell BP.out 1).trans (show _ = some (.int .i64 (pcq 2 P1)) from rfl)
          have c2 := (blk_cell BP.out 2).trans (show _ = some (.int .i64 (pcq 2 P2)) from rfl)
          have f0 := blk_frozen BP.out 0
          have f1 := blk_frozen BP.out 1
          have f2 := blk_frozen BP.out 2
          go_wp2_with (first | ((with_reducible refine gate_dst (N := 48) rfl ?_); refine goesL_ (some 48) rfl rfl Try.func50 (by kernel_rfl) rfl #[.agg #[.int .i64 (pcq 2 P0), .int .i64 (pcq 2 P1), .int .i64 (pcq 2 P2)]] rfl (by (try simp only [List.map_toArray, List.map_cons, List.map_nil]); first | done | rfl) ?_; (with_reducible refine (rgb_calls (pcq 2 P0) (pcq 2 P1) (pcq 2 P2) _).mono ?_); rintro e W1 ⟨rfl, hb⟩; refine ⟨_, rfl, ?_⟩; replace HBW := Aside0.mk (below_step HBW.out hb); clear hb c0 c1 c2 f0 f1 f2) | ((with_reducible refine gate_dst (N := 50) rfl ?_); at_builtin; refine Kd.R_append k63 (w0 := w) w.heap.size rfl (.tmp 46) (.tmp 49) 44 63 (.agg #[(.int .i64 0), (.int .i64 0), (.int .i64 0)]) 24 (by rfl) Try.underlying44 info63 rfl (by decide) (by omega) u3 (((List.range 8).map (pce 2)).take i) (⟨pcq 2 P0, pcq 2 P1, pcq 2 P2⟩ : S63) [.int .i64 (pcq 2 P0), .int .i64 (pcq 2 P1), .int .i64 (pcq 2 P2)] (fun _ => True) (fun _ => False) (by rfl) (by rfl) (k63_mkM _ _ _ (⟨pcq 2 P0, pcq 2 P1, pcq 2 P2⟩ : S63)) (fun _ hk => hk.elim) (fun _ _ => trivial) ?aO ?aB ?aS ?aL ?_; (case aO => exact Kd.R_below HO.out HBW.out); (case aB => exact below_step HB.out HBW.out); (case aS => exact below_size (below_step HB.out HBW.out)); (case aL => (rw [List.length_take, List.length_map, List.length_range]; have := HI.out; omega)); intro v1 w2 ho hb hg_ hat; have HO2 := Aside0.mk ho; have HB2 := Aside0.mk hb; clear ho hb hg_ hat))
          go_roundg (gkO - 1)
          case measure => have := HK.out; have := HI.out; have := HGO.out; omega
          case rel => exact ⟨i + 1, by first | rfl | simp, ⟨by have := HK.out; have := HI.out; have := HGO.out; omega⟩, ⟨by rw [HT.out, HPE.out]; exact HO2.out⟩, HB2⟩
    · have hlt : decide ((i : Int) < (8 : Int)) = false := decide_eq_false (by omega)
      have HF : Aside0 (Kd.R k63 63 wr w.heap.size (fun _ => True) u3 ((List.range 8).map (pce 2))) := ⟨by
        have h := HO.out
        rwa [List.take_of_length_le (by simp; omega)] at h⟩
      clear HK HO hi
      go_wp2
      go_ret
      exact ⟨_, rfl, HF.out, HB.out⟩
set_option maxHeartbeats 8000000 in
set_option maxRecDepth 100000 in
theorem impl_PlainCube.at3 (w : World) : Calls Try.prog 25 #[.int .i64 3] w fun e w' => ∃ v, e = .returned v ∧ Kd.R k63 63 w' w.heap.size (fun _ => True) v ((List.range 27).map (pce 3)) ∧ Below w.heap.size w w' := by
  have hu2 := Try.underlying2
  have hu63 := Try.underlying63
  have hu64 := Try.underlying64
  have hu44 := Try.underlying44
  have HB := Aside0.mk (Below.refl w.heap.size w)
  have HIN : Aside0 (impl_in.f 3 2 9 = some true) := ⟨by decide⟩
  go_enter Try.func25, Try.ntmps25
  go_wp2_with (first | ((with_reducible refine gate_dst (N := 10) rfl ?_); refine Kd.R_lit k63 w.heap.size 63 ?hg (N := 10) ?hd (xs := ([] : List (S63))) (inner := []) (ok := fun _ => True) (okp := fun _ => True) ?hr ?hp (fun _ hk => hk) trivial HB.out HB.out.size (by simp) ?_; (case hd => rfl); (case hg => rfl); (case hr => first | (go_simp; done) | (go_simp; rfl)); (case hp => exact (Reps.none _ _)); intro v103 w4 ho5 hb hg_ hnew_; replace HB := Aside0.mk hb; have HO : Aside0 (Kd.R k63 63 w4 w.heap.size (fun _ => True) v103 (((List.range 27).map (pce 3)).take 0)) := ⟨ho5⟩; clear hg_ hnew_ ho5 hb) | ((with_reducible refine gate_dst (N := 8) rfl ?_); refine goesL_ (some 8) rfl rfl Try.func31 (by kernel_rfl) rfl #[.int .i64 3, .int .i64 2, .int .i64 9] rfl (by (try simp only [List.map_toArray, List.map_cons, List.map_nil]); first | done | rfl) ?_; (with_reducible refine (impl_in.calls 3 2 9 true _ HIN.out).mono ?_); rintro e W1 ⟨rfl, hD⟩; refine ⟨_, rfl, ?_⟩; have hb := hD.below; replace HB := Aside0.mk (below_step HB.out hb); clear hb hD))
  go_loopg [3, 16] 27 (fun kq v3 v16 w' => ∃ (i : Nat), v16 = .int .i64 (i : Int) ∧ Aside0 (i + kq = 27) ∧ Aside0 (Kd.R k63 63 w' w.heap.size (fun _ => True) v3 (((List.range 27).map (pce 3)).take i)) ∧ Aside0 (Below w.heap.size w w'))
  case atStart => exact ⟨0, rfl, ⟨by omega⟩, HO, HB⟩
  case round =>
    clear HB HO
    obtain ⟨i, rfl, HK, HO, HB⟩ := hrel
    by_cases hi : i < 27
    · have hlt : decide ((i : Int) < (27 : Int)) = true := decide_eq_true (by omega)
      have hi2 : (i : Int) < (27 : Int) := by omega
      have HI := Aside0.mk hi
      have HT : Aside0 (((List.range 27).map (pce 3)).take (i + 1) = ((List.range 27).map (pce 3)).take i ++ [pce 3 i]) := ⟨by rw [List.take_succ_eq_append_getElem (by simpa using hi)]; simp⟩
      have hw2 : wrap64 9 = 9 := by unfold wrap64; omega
      have hq1 : IntKind.i64.wrap ((i : Int) / 9) = (i : Int) / 9 := by rw [i64_w]; unfold wrap64; omega
      have hq2 : IntKind.i64.wrap ((i : Int) / 3) = (i : Int) / 3 := by rw [i64_w]; unfold wrap64; omega
      clear hi
      go_upto_region 7 with (fail)
      refine start_ (n := 16) (S := fun w' => Below wr.heap.size wr w') (ds := [15]) #[false, false, false, false, false, false, false, false, false, false, false, false, false, false, false, false] (by kernel_rfl) rfl rfl (below_drew1 (Below.refl _ _)) (fun hHeld => ?_)
      generalize World.drew _ = V at hHeld ⊢
      refine pure_ (i := 0) (N := some 19) (v := ?_) (a' := ?_) #[true, false, false, false, false, false, false, false, false, false, false, false, false, false, false, false] rfl rfl (by kernel_rfl) (fun _ _ _ h => h) (Or.inl ⟨by rfl, ?_⟩) ?_ ?_
      rotate_left
      · intro w'
        go_simp
        with_reducible rfl
      rotate_left
      · simp only [Act.put, List.setIfInBounds_toArray, List.set_cons_zero, List.set_cons_succ, i64_w, i32_w]
        rfl
      refine pure_ (i := 1) (N := some 20) (v := ?_) (a' := ?_) #[true, true, false, false, false, false, false, false, false, false, false, false, false, false, false, false] rfl rfl (by kernel_rfl) (fun _ _ _ h => h) (Or.inl ⟨by rfl, ?_⟩) ?_ ?_
      rotate_left
      · intro w'
        go_simp
        with_reducible rfl
      rotate_left
      · simp only [Act.put, List.setIfInBounds_toArray, List.set_cons_zero, List.set_cons_succ, i64_w, i32_w]
        rfl
      refine pure_ (i := 2) (N := some 21) (v := ?_) (a' := ?_) #[true, true, true, false, false, false, false, false, false, false, false, false, false, false, false, false] rfl rfl (by kernel_rfl) (fun _ _ _ h => h) (Or.inl ⟨by rfl, ?_⟩) ?_ ?_
      rotate_left
      · intro w'
        go_simp
        with_reducible rfl
      rotate_left
      · simp only [Act.put, List.setIfInBounds_toArray, List.set_cons_zero, List.set_cons_succ, i64_w, i32_w]
        rfl
      refine pure_ (i := 3) (N := some 22) (v := ?_) (a' := ?_) #[true, true, true, true, false, false, false, false, false, false, false, false, false, false, false, false] rfl rfl (by kernel_rfl) (fun _ _ _ h => h) (Or.inl ⟨by rfl, ?_⟩) ?_ ?_
      rotate_left
      · intro w'
        go_simp
        with_reducible rfl
      rotate_left
      · simp only [Act.put, List.setIfInBounds_toArray, List.set_cons_zero, List.set_cons_succ, i64_w, i32_w]
        rfl
      refine pure_ (i := 4) (N := some 23) (v := ?_) (a' := ?_) #[true, true, true, true, true, false, false, false, false, false, false, false, false, false, false, false] rfl rfl (by kernel_rfl) (fun _ _ _ h => h) (Or.inl ⟨by rfl, ?_⟩) ?_ ?_
      rotate_left
      · intro w'
        go_simp
        with_reducible rfl
      rotate_left
      · simp only [Act.put, List.setIfInBounds_toArray, List.set_cons_zero, List.set_cons_succ, i64_w, i32_w]
        rfl
      refine pure_ (i := 5) (N := some 24) (v := ?_) (a' := ?_) #[true, true, true, true, true, true, false, false, false, false, false, false, false, false, false, false] rfl rfl (by kernel_rfl) (fun _ _ _ h => h) (Or.inl ⟨by rfl, ?_⟩) ?_ ?_
      rotate_left
      · intro w'
        go_simp
        with_reducible rfl
      rotate_left
      · simp only [Act.put, List.setIfInBounds_toArray, List.set_cons_zero, List.set_cons_succ, i64_w, i32_w]
        rfl
      refine pure_ (i := 6) (N := some 25) (v := ?_) (a' := ?_) #[true, true, true, true, true, true, true, false, false, false, false, false, false, false, false, false] rfl rfl (by kernel_rfl) (fun _ _ _ h => h) (Or.inl ⟨by rfl, ?_⟩) ?_ ?_
      rotate_left
      · intro w'
        go_simp
        with_reducible rfl
      rotate_left
      · simp only [Act.put, List.setIfInBounds_toArray, List.set_cons_zero, List.set_cons_succ, i64_w, i32_w]
        rfl
      refine pure_ (i := 7) (N := some 26) (v := ?_) (a' := ?_) #[true, true, true, true, true, true, true, true, false, false, false, false, false, false, false, false] rfl rfl (by kernel_rfl) (fun _ _ _ h => h) (Or.inl ⟨by rfl, ?_⟩) ?_ ?_
      rotate_left
      · intro w'
        go_simp
        with_reducible rfl
      rotate_left
      · simp only [Act.put, List.setIfInBounds_toArray, List.set_cons_zero, List.set_cons_succ, i64_w, i32_w]
        rfl
      refine pure_ (i := 8) (N := some 27) (v := ?_) (a' := ?_) #[true, true, true, true, true, true, true, true, true, false, false, false, false, false, false, false] rfl rfl (by kernel_rfl) (fun _ _ _ h => h) (Or.inl ⟨by rfl, ?_⟩) ?_ ?_
      rotate_left
      · intro w'
        go_simp
        with_reducible rfl
      rotate_left
      · simp only [Act.put, List.setIfInBounds_toArray, List.set_cons_zero, List.set_cons_succ, i64_w, i32_w]
        rfl
      refine pure_ (i := 9) (N := some 28) (v := ?_) (a' := ?_) #[true, true, true, true, true, true, true, true, true, true, false, false, false, false, false, false] rfl rfl (by kernel_rfl) (fun _ _ _ h => h) (Or.inl ⟨by rfl, ?_⟩) ?_ ?_
      rotate_left
      · intro w'
        go_simp
        with_reducible rfl
      rotate_left
      · simp only [Act.put, List.setIfInBounds_toArray, List.set_cons_zero, List.set_cons_succ, i64_w, i32_w]
        rfl
      refine pure_ (i := 10) (N := some 29) (v := ?_) (a' := ?_) #[true, true, true, true, true, true, true, true, true, true, true, false, false, false, false, false] rfl rfl (by kernel_rfl) (fun _ _ _ h => h) (Or.inl ⟨by rfl, ?_⟩) ?_ ?_
      rotate_left
      · intro w'
        go_simp
        with_reducible rfl
      rotate_left
      · simp only [Act.put, List.setIfInBounds_toArray, List.set_cons_zero, List.set_cons_succ, i64_w, i32_w]
        rfl
      refine pure_ (i := 11) (N := some 30) (v := ?_) (a' := ?_) #[true, true, true, true, true, true, true, true, true, true, true, true, false, false, false, false] rfl rfl (by kernel_rfl) (fun _ _ _ h => h) (Or.inl ⟨by rfl, ?_⟩) ?_ ?_
      rotate_left
      · intro w'
        go_simp
        with_reducible rfl
      rotate_left
      · simp only [Act.put, List.setIfInBounds_toArray, List.set_cons_zero, List.set_cons_succ, i64_w, i32_w]
        rfl
      refine pure_ (i := 12) (N := some 31) (v := ?_) (a' := ?_) #[true, true, true, true, true, true, true, true, true, true, true, true, true, false, false, false] rfl rfl (by kernel_rfl) (fun _ _ _ h => h) (Or.inl ⟨by rfl, ?_⟩) ?_ ?_
      rotate_left
      · intro w'
        go_simp
        with_reducible rfl
      rotate_left
      · simp only [Act.put, List.setIfInBounds_toArray, List.set_cons_zero, List.set_cons_succ, i64_w, i32_w]
        rfl
      refine pure_ (i := 13) (N := some 32) (v := ?_) (a' := ?_) #[true, true, true, true, true, true, true, true, true, true, true, true, true, true, false, false] rfl rfl (by kernel_rfl) (fun _ _ _ h => h) (Or.inl ⟨by rfl, ?_⟩) ?_ ?_
      rotate_left
      · intro w'
        go_simp
        with_reducible rfl
      rotate_left
      · simp only [Act.put, List.setIfInBounds_toArray, List.set_cons_zero, List.set_cons_succ, i64_w, i32_w]
        rfl
      refine one_ (i := 14) (N := some 5) #[true, true, true, true, true, true, true, true, true, true, true, true, true, true, true, false] rfl rfl (by kernel_rfl) (by decide) (fun K hK => ?_)
      refine box_step ?hg (N := 5) ?hd (cs := #[.int .i64 0, .int .i64 0, .int .i64 0]) (t := 64) ?hr ?_; (case hd => rfl); (case hg => rfl); (case hr => first | (go_simp; done) | (go_simp; rfl))
      intro g5 hg W2 hbox hb
      have hge : wr.heap.size ≤ g5 := by rw [hg]; exact hHeld.size
      replace hHeld := below_step hHeld hb
      clear hb hg
      refine hK.out _ _ hHeld (fun _ => ?_)
      clear hK K
      refine norm_ (a' := ?_) ?_ ?_
      rotate_left
      · show Act.put _ (some 5) _ = _
        simp only [Act.put, List.setIfInBounds_toArray, List.set_cons_zero, List.set_cons_succ, i64_w, i32_w]
        rfl
      refine last_ (i := 15) (N := none) #[true, true, true, true, true, true, true, true, true, true, true, true, true, true, true, true] rfl rfl (by kernel_rfl) (by decide) (fun K hK => ?_)
      have e0 : W2.cell? ⟨g5, 0, none⟩ = some (.int .i64 0) := (blk_cell hbox 0).trans rfl
      have e1 : W2.cell? ⟨g5, 1, none⟩ = some (.int .i64 0) := (blk_cell hbox 1).trans rfl
      have e2 : W2.cell? ⟨g5, 2, none⟩ = some (.int .i64 0) := (blk_cell hbox 2).trans rfl
      have e3 := blk_frozen hbox 0
      have e4 := blk_frozen hbox 1
      have e5 := blk_frozen hbox 2
      have HGE := Aside0.mk hge
      have HBO := Aside0.mk hbox
      have HBW := Aside0.mk hHeld
      clear hge hHeld hbox
      refine skip_ (w1 := ?_) (by rfl) rfl ?_ ?_
      rotate_left
      · go_simp
        rfl
      refine hK.out _ _ ?_
      clear hK K e0 e1 e2 e3 e4 e5
      refine done_ (by kernel_rfl) ?_
      obtain ⟨P0, hP0⟩ : ∃ P : Nat, P = i / 9 := ⟨_, rfl⟩
      obtain ⟨P1, hP1⟩ : ∃ P : Nat, P = i / 3 % 3 := ⟨_, rfl⟩
      obtain ⟨P2, hP2⟩ : ∃ P : Nat, P = i % 3 := ⟨_, rfl⟩
      have hb0 : P0 < 10000 := by have := HI.out; omega
      have hb1 : P1 < 10000 := by omega
      have hb2 : P2 < 10000 := by omega
      have HPE : Aside0 (pce 3 i = ⟨pcq 3 P0, pcq 3 P1, pcq 3 P2⟩) := ⟨by rw [hP0, hP1, hP2]; rfl⟩
      rw [show ((i : Int) / 3).tmod 3 = (P1 : Int) by rw [Int.tmod_eq_emod_of_nonneg (by omega)]; omega, show ((i : Int)).tmod 3 = (P2 : Int) by rw [Int.tmod_eq_emod_of_nonneg (by omega)]; omega, show (i : Int) / 9 = (P0 : Int) by omega]
      have BP : Aside0 ((((W2.setCell ⟨g5, 0, none⟩ (.int .i64 (P0 : Int))).setCell ⟨g5, 1, none⟩ (.int .i64 (P1 : Int))).setCell ⟨g5, 2, none⟩ (.int .i64 (P2 : Int))).heap[g5]? = some (.cells #[.int .i64 (P0 : Int), .int .i64 (P1 : Int), .int .i64 (P2 : Int)] 64 (0, 0))) := ⟨blk_put (cs := #[.int .i64 (P0 : Int), .int .i64 (P1 : Int), .int .i64 0]) (blk_put (cs := #[.int .i64 (P0 : Int), .int .i64 0, .int .i64 0]) (blk_put (cs := #[.int .i64 0, .int .i64 0, .int .i64 0]) HBO.out 0 _ rfl) 1 _ rfl) 2 _ rfl⟩
      replace HBW := Aside0.mk (below_set (g := g5) (j := 2) (v := .int .i64 (P2 : Int)) (below_set (g := g5) (j := 1) (v := .int .i64 (P1 : Int)) (below_set (g := g5) (j := 0) (v := .int .i64 (P0 : Int)) HBW.out HGE.out) HGE.out) HGE.out)
      generalize World.setCell _ _ _ = V3 at BP HBW ⊢
      clear HBO hP0 hP1 hP2 hq1 hq2 hw2
      have N0 : Aside0 (impl_near.f ((P0 : Int) * 65535) 2 = some (pcq 3 P0)) := ⟨near_pc 3 P0 (by omega) (by omega) hb0⟩
      have N1 : Aside0 (impl_near.f ((P1 : Int) * 65535) 2 = some (pcq 3 P1)) := ⟨near_pc 3 P1 (by omega) (by omega) hb1⟩
      have N2 : Aside0 (impl_near.f ((P2 : Int) * 65535) 2 = some (pcq 3 P2)) := ⟨near_pc 3 P2 (by omega) (by omega) hb2⟩
      obtain ⟨gkO, hgO⟩ : ∃ g : Nat, g = gk := ⟨_, rfl⟩
      have HGO := Aside0.mk hgO
      clear hgO
      go_wp2
      go_loopg [33] 3 (fun kq v33 w' => ∃ (k x y z : Int), v33 = .int .i64 k ∧ Aside0 (k + kq = 3) ∧ Aside0 (w'.heap[g5]? = some (.cells #[.int .i64 x, .int .i64 y, .int .i64 z] 64 (0, 0))) ∧ Aside0 ((k = 0 ∧ x = P0 ∧ y = P1 ∧ z = P2) ∨ (k = 1 ∧ x = pcq 3 P0 ∧ y = P1 ∧ z = P2) ∨ (k = 2 ∧ x = pcq 3 P0 ∧ y = pcq 3 P1 ∧ z = P2) ∨ (k = 3 ∧ x = pcq 3 P0 ∧ y = pcq 3 P1 ∧ z = pcq 3 P2)) ∧ Aside0 (Below wr.heap.size wr w'))
      case atStart => exact ⟨0, P0, P1, P2, rfl, ⟨by omega⟩, BP, ⟨.inl ⟨rfl, rfl, rfl, rfl⟩⟩, HBW⟩
      case round =>
        clear BP HBW
        obtain ⟨k, x, y, z, rfl, HKK, BP, HF, HBW⟩ := hrel
        rcases HF.out with ⟨rfl, rfl, rfl, rfl⟩ | ⟨rfl, rfl, rfl, rfl⟩ | ⟨rfl, rfl, rfl, rfl⟩ | ⟨rfl, rfl, rfl, rfl⟩
        · clear HF
          have c0 := (blk_cell BP.out 0).trans (show _ = some (.int .i64 (P0 : Int)) from rfl)
          have c1 := (blk_cell BP.out 1).trans (show _ = some (.int .i64 (P1 : Int)) from rfl)
          have c2 := (blk_cell BP.out 2).trans (show _ = some (.int .i64 (P2 : Int)) from rfl)
          have f0 := blk_frozen BP.out 0
          have f1 := blk_frozen BP.out 1
          have f2 := blk_frozen BP.out 2
          go_wp2_with (first | ((with_reducible refine gate_dst (N := 43) rfl ?_); refine goesL_ (some 43) rfl rfl Try.func48 (by kernel_rfl) rfl #[.int .i64 ((P0 : Int) * 65535), .int .i64 2] rfl (by (try simp only [List.map_toArray, List.map_cons, List.map_nil]); first | done | rfl) ?_; (with_reducible refine (impl_near.calls ((P0 : Int) * 65535) 2 (pcq 3 P0) _ N0.out).mono ?_); rintro e W1 ⟨rfl, hD⟩; refine ⟨_, rfl, ?_⟩; have hb := hD.below; replace BP := Aside0.mk (blk_below BP.out hb); replace HBW := Aside0.mk (below_step HBW.out hb); clear hb hD c0 c1 c2 f0 f1 f2; have c0 : W1.cell? ⟨g5, 0, none⟩ = some (.int .i64 (P0 : Int)) := (blk_cell BP.out 0).trans rfl; have c1 : W1.cell? ⟨g5, 1, none⟩ = some (.int .i64 (P1 : Int)) := (blk_cell BP.out 1).trans rfl; have c2 : W1.cell? ⟨g5, 2, none⟩ = some (.int .i64 (P2 : Int)) := (blk_cell BP.out 2).trans rfl; have f0 := blk_frozen BP.out 0; have f1 := blk_frozen BP.out 1; have f2 := blk_frozen BP.out 2))
          go_roundg (gk - 1)
          case measure => have := HKK.out; omega
          case rel => exact ⟨1, (pcq 3 P0), (P1 : Int), (P2 : Int), rfl, ⟨by have := HKK.out; omega⟩, ⟨blk_put (cs := #[.int .i64 (P0 : Int), .int .i64 (P1 : Int), .int .i64 (P2 : Int)]) BP.out 0 _ rfl⟩, ⟨.inr (.inl ⟨rfl, rfl, rfl, rfl⟩)⟩, ⟨below_set HBW.out HGE.out⟩⟩
        · clear HF
          have c0 := (blk_cell BP.out 0).trans (show _ = some (.int .i64 (pcq 3 P0)) from rfl)
          have c1 := (blk_cell BP.out 1).trans (show _ = some (.int .i64 (P1 : Int)) from rfl)
          have c2 := (blk_cell BP.out 2).trans (show _ = some (.int .i64 (P2 : Int)) from rfl)
          have f0 := blk_frozen BP.out 0
          have f1 := blk_frozen BP.out 1
          have f2 := blk_frozen BP.out 2
          go_wp2_with (first | ((with_reducible refine gate_dst (N := 43) rfl ?_); refine goesL_ (some 43) rfl rfl Try.func48 (by kernel_rfl) rfl #[.int .i64 ((P1 : Int) * 65535), .int .i64 2] rfl (by (try simp only [List.map_toArray, List.map_cons, List.map_nil]); first | done | rfl) ?_; (with_reducible refine (impl_near.calls ((P1 : Int) * 65535) 2 (pcq 3 P1) _ N1.out).mono ?_); rintro e W1 ⟨rfl, hD⟩; refine ⟨_, rfl, ?_⟩; have hb := hD.below; replace BP := Aside0.mk (blk_below BP.out hb); replace HBW := Aside0.mk (below_step HBW.out hb); clear hb hD c0 c1 c2 f0 f1 f2; have c0 : W1.cell? ⟨g5, 0, none⟩ = some (.int .i64 (pcq 3 P0)) := (blk_cell BP.out 0).trans rfl; have c1 : W1.cell? ⟨g5, 1, none⟩ = some (.int .i64 (P1 : Int)) := (blk_cell BP.out 1).trans rfl; have c2 : W1.cell? ⟨g5, 2, none⟩ = some (.int .i64 (P2 : Int)) := (blk_cell BP.out 2).trans rfl; have f0 := blk_frozen BP.out 0; have f1 := blk_frozen BP.out 1; have f2 := blk_frozen BP.out 2))
          go_roundg (gk - 1)
          case measure => have := HKK.out; omega
          case rel => exact ⟨2, (pcq 3 P0), (pcq 3 P1), (P2 : Int), rfl, ⟨by have := HKK.out; omega⟩, ⟨blk_put (cs := #[.int .i64 (pcq 3 P0), .int .i64 (P1 : Int), .int .i64 (P2 : Int)]) BP.out 1 _ rfl⟩, ⟨.inr (.inr (.inl ⟨rfl, rfl, rfl, rfl⟩))⟩, ⟨below_set HBW.out HGE.out⟩⟩
        · clear HF
          have c0 := (blk_cell BP.out 0).trans (show _ = some (.int .i64 (pcq 3 P0)) from rfl)
          have c1 := (blk_cell BP.out 1).trans (show _ = some (.int .i64 (pcq 3 P1)) from rfl)
          have c2 := (blk_cell BP.out 2).trans (show _ = some (.int .i64 (P2 : Int)) from rfl)
          have f0 := blk_frozen BP.out 0
          have f1 := blk_frozen BP.out 1
          have f2 := blk_frozen BP.out 2
          go_wp2_with (first | ((with_reducible refine gate_dst (N := 43) rfl ?_); refine goesL_ (some 43) rfl rfl Try.func48 (by kernel_rfl) rfl #[.int .i64 ((P2 : Int) * 65535), .int .i64 2] rfl (by (try simp only [List.map_toArray, List.map_cons, List.map_nil]); first | done | rfl) ?_; (with_reducible refine (impl_near.calls ((P2 : Int) * 65535) 2 (pcq 3 P2) _ N2.out).mono ?_); rintro e W1 ⟨rfl, hD⟩; refine ⟨_, rfl, ?_⟩; have hb := hD.below; replace BP := Aside0.mk (blk_below BP.out hb); replace HBW := Aside0.mk (below_step HBW.out hb); clear hb hD c0 c1 c2 f0 f1 f2; have c0 : W1.cell? ⟨g5, 0, none⟩ = some (.int .i64 (pcq 3 P0)) := (blk_cell BP.out 0).trans rfl; have c1 : W1.cell? ⟨g5, 1, none⟩ = some (.int .i64 (pcq 3 P1)) := (blk_cell BP.out 1).trans rfl; have c2 : W1.cell? ⟨g5, 2, none⟩ = some (.int .i64 (P2 : Int)) := (blk_cell BP.out 2).trans rfl; have f0 := blk_frozen BP.out 0; have f1 := blk_frozen BP.out 1; have f2 := blk_frozen BP.out 2))
          go_roundg (gk - 1)
          case measure => have := HKK.out; omega
          case rel => exact ⟨3, (pcq 3 P0), (pcq 3 P1), (pcq 3 P2), rfl, ⟨by have := HKK.out; omega⟩, ⟨blk_put (cs := #[.int .i64 (pcq 3 P0), .int .i64 (pcq 3 P1), .int .i64 (P2 : Int)]) BP.out 2 _ rfl⟩, ⟨.inr (.inr (.inr ⟨rfl, rfl, rfl, rfl⟩))⟩, ⟨below_set HBW.out HGE.out⟩⟩
        · clear HF
          have c0 := (blk_cell BP.out 0).trans (show _ = some (.int .i64 (pcq 3 P0)) from rfl)
          have c1 := (blk_cell BP.out 1).trans (show _ = some (.int .i64 (pcq 3 P1)) from rfl)
          have c2 := (blk_cell BP.out 2).trans (show _ = some (.int .i64 (pcq 3 P2)) from rfl)
          have f0 := blk_frozen BP.out 0
          have f1 := blk_frozen BP.out 1
          have f2 := blk_frozen BP.out 2
          go_wp2_with (first | ((with_reducible refine gate_dst (N := 48) rfl ?_); refine goesL_ (some 48) rfl rfl Try.func50 (by kernel_rfl) rfl #[.agg #[.int .i64 (pcq 3 P0), .int .i64 (pcq 3 P1), .int .i64 (pcq 3 P2)]] rfl (by (try simp only [List.map_toArray, List.map_cons, List.map_nil]); first | done | rfl) ?_; (with_reducible refine (rgb_calls (pcq 3 P0) (pcq 3 P1) (pcq 3 P2) _).mono ?_); rintro e W1 ⟨rfl, hb⟩; refine ⟨_, rfl, ?_⟩; replace HBW := Aside0.mk (below_step HBW.out hb); clear hb c0 c1 c2 f0 f1 f2) | ((with_reducible refine gate_dst (N := 50) rfl ?_); at_builtin; refine Kd.R_append k63 (w0 := w) w.heap.size rfl (.tmp 46) (.tmp 49) 44 63 (.agg #[(.int .i64 0), (.int .i64 0), (.int .i64 0)]) 24 (by rfl) Try.underlying44 info63 rfl (by decide) (by omega) u3 (((List.range 27).map (pce 3)).take i) (⟨pcq 3 P0, pcq 3 P1, pcq 3 P2⟩ : S63) [.int .i64 (pcq 3 P0), .int .i64 (pcq 3 P1), .int .i64 (pcq 3 P2)] (fun _ => True) (fun _ => False) (by rfl) (by rfl) (k63_mkM _ _ _ (⟨pcq 3 P0, pcq 3 P1, pcq 3 P2⟩ : S63)) (fun _ hk => hk.elim) (fun _ _ => trivial) ?aO ?aB ?aS ?aL ?_; (case aO => exact Kd.R_below HO.out HBW.out); (case aB => exact below_step HB.out HBW.out); (case aS => exact below_size (below_step HB.out HBW.out)); (case aL => (rw [List.length_take, List.length_map, List.length_range]; have := HI.out; omega)); intro v1 w2 ho hb hg_ hat; have HO2 := Aside0.mk ho; have HB2 := Aside0.mk hb; clear ho hb hg_ hat))
          go_roundg (gkO - 1)
          case measure => have := HK.out; have := HI.out; have := HGO.out; omega
          case rel => exact ⟨i + 1, by first | rfl | simp, ⟨by have := HK.out; have := HI.out; have := HGO.out; omega⟩, ⟨by rw [HT.out, HPE.out]; exact HO2.out⟩, HB2⟩
    · have hlt : decide ((i : Int) < (27 : Int)) = false := decide_eq_false (by omega)
      have HF : Aside0 (Kd.R k63 63 wr w.heap.size (fun _ => True) u3 ((List.range 27).map (pce 3))) := ⟨by
        have h := HO.out
        rwa [List.take_of_length_le (by simp; omega)] at h⟩
      clear HK HO hi
      go_wp2
      go_ret
      exact ⟨_, rfl, HF.out, HB.out⟩
set_option maxHeartbeats 8000000 in
set_option maxRecDepth 100000 in
theorem impl_PlainCube.at4 (w : World) : Calls Try.prog 25 #[.int .i64 4] w fun e w' => ∃ v, e = .returned v ∧ Kd.R k63 63 w' w.heap.size (fun _ => True) v ((List.range 64).map (pce 4)) ∧ Below w.heap.size w w' := by
  have hu2 := Try.underlying2
  have hu63 := Try.underlying63
  have hu64 := Try.underlying64
  have hu44 := Try.underlying44
  have HB := Aside0.mk (Below.refl w.heap.size w)
  have HIN : Aside0 (impl_in.f 4 2 9 = some true) := ⟨by decide⟩
  go_enter Try.func25, Try.ntmps25
  go_wp2_with (first | ((with_reducible refine gate_dst (N := 10) rfl ?_); refine Kd.R_lit k63 w.heap.size 63 ?hg (N := 10) ?hd (xs := ([] : List (S63))) (inner := []) (ok := fun _ => True) (okp := fun _ => True) ?hr ?hp (fun _ hk => hk) trivial HB.out HB.out.size (by simp) ?_; (case hd => rfl); (case hg => rfl); (case hr => first | (go_simp; done) | (go_simp; rfl)); (case hp => exact (Reps.none _ _)); intro v103 w4 ho5 hb hg_ hnew_; replace HB := Aside0.mk hb; have HO : Aside0 (Kd.R k63 63 w4 w.heap.size (fun _ => True) v103 (((List.range 64).map (pce 4)).take 0)) := ⟨ho5⟩; clear hg_ hnew_ ho5 hb) | ((with_reducible refine gate_dst (N := 8) rfl ?_); refine goesL_ (some 8) rfl rfl Try.func31 (by kernel_rfl) rfl #[.int .i64 4, .int .i64 2, .int .i64 9] rfl (by (try simp only [List.map_toArray, List.map_cons, List.map_nil]); first | done | rfl) ?_; (with_reducible refine (impl_in.calls 4 2 9 true _ HIN.out).mono ?_); rintro e W1 ⟨rfl, hD⟩; refine ⟨_, rfl, ?_⟩; have hb := hD.below; replace HB := Aside0.mk (below_step HB.out hb); clear hb hD))
  go_loopg [3, 16] 64 (fun kq v3 v16 w' => ∃ (i : Nat), v16 = .int .i64 (i : Int) ∧ Aside0 (i + kq = 64) ∧ Aside0 (Kd.R k63 63 w' w.heap.size (fun _ => True) v3 (((List.range 64).map (pce 4)).take i)) ∧ Aside0 (Below w.heap.size w w'))
  case atStart => exact ⟨0, rfl, ⟨by omega⟩, HO, HB⟩
  case round =>
    clear HB HO
    obtain ⟨i, rfl, HK, HO, HB⟩ := hrel
    by_cases hi : i < 64
    · have hlt : decide ((i : Int) < (64 : Int)) = true := decide_eq_true (by omega)
      have hi2 : (i : Int) < (64 : Int) := by omega
      have HI := Aside0.mk hi
      have HT : Aside0 (((List.range 64).map (pce 4)).take (i + 1) = ((List.range 64).map (pce 4)).take i ++ [pce 4 i]) := ⟨by rw [List.take_succ_eq_append_getElem (by simpa using hi)]; simp⟩
      have hw2 : wrap64 16 = 16 := by unfold wrap64; omega
      have hq1 : IntKind.i64.wrap ((i : Int) / 16) = (i : Int) / 16 := by rw [i64_w]; unfold wrap64; omega
      have hq2 : IntKind.i64.wrap ((i : Int) / 4) = (i : Int) / 4 := by rw [i64_w]; unfold wrap64; omega
      clear hi
      go_upto_region 7 with (fail)
      refine start_ (n := 16) (S := fun w' => Below wr.heap.size wr w') (ds := [15]) #[false, false, false, false, false, false, false, false, false, false, false, false, false, false, false, false] (by kernel_rfl) rfl rfl (below_drew1 (Below.refl _ _)) (fun hHeld => ?_)
      generalize World.drew _ = V at hHeld ⊢
      refine pure_ (i := 0) (N := some 19) (v := ?_) (a' := ?_) #[true, false, false, false, false, false, false, false, false, false, false, false, false, false, false, false] rfl rfl (by kernel_rfl) (fun _ _ _ h => h) (Or.inl ⟨by rfl, ?_⟩) ?_ ?_
      rotate_left
      · intro w'
        go_simp
        with_reducible rfl
      rotate_left
      · simp only [Act.put, List.setIfInBounds_toArray, List.set_cons_zero, List.set_cons_succ, i64_w, i32_w]
        rfl
      refine pure_ (i := 1) (N := some 20) (v := ?_) (a' := ?_) #[true, true, false, false, false, false, false, false, false, false, false, false, false, false, false, false] rfl rfl (by kernel_rfl) (fun _ _ _ h => h) (Or.inl ⟨by rfl, ?_⟩) ?_ ?_
      rotate_left
      · intro w'
        go_simp
        with_reducible rfl
      rotate_left
      · simp only [Act.put, List.setIfInBounds_toArray, List.set_cons_zero, List.set_cons_succ, i64_w, i32_w]
        rfl
      refine pure_ (i := 2) (N := some 21) (v := ?_) (a' := ?_) #[true, true, true, false, false, false, false, false, false, false, false, false, false, false, false, false] rfl rfl (by kernel_rfl) (fun _ _ _ h => h) (Or.inl ⟨by rfl, ?_⟩) ?_ ?_
      rotate_left
      · intro w'
        go_simp
        with_reducible rfl
      rotate_left
      · simp only [Act.put, List.setIfInBounds_toArray, List.set_cons_zero, List.set_cons_succ, i64_w, i32_w]
        rfl
      refine pure_ (i := 3) (N := some 22) (v := ?_) (a' := ?_) #[true, true, true, true, false, false, false, false, false, false, false, false, false, false, false, false] rfl rfl (by kernel_rfl) (fun _ _ _ h => h) (Or.inl ⟨by rfl, ?_⟩) ?_ ?_
      rotate_left
      · intro w'
        go_simp
        with_reducible rfl
      rotate_left
      · simp only [Act.put, List.setIfInBounds_toArray, List.set_cons_zero, List.set_cons_succ, i64_w, i32_w]
        rfl
      refine pure_ (i := 4) (N := some 23) (v := ?_) (a' := ?_) #[true, true, true, true, true, false, false, false, false, false, false, false, false, false, false, false] rfl rfl (by kernel_rfl) (fun _ _ _ h => h) (Or.inl ⟨by rfl, ?_⟩) ?_ ?_
      rotate_left
      · intro w'
        go_simp
        with_reducible rfl
      rotate_left
      · simp only [Act.put, List.setIfInBounds_toArray, List.set_cons_zero, List.set_cons_succ, i64_w, i32_w]
        rfl
      refine pure_ (i := 5) (N := some 24) (v := ?_) (a' := ?_) #[true, true, true, true, true, true, false, false, false, false, false, false, false, false, false, false] rfl rfl (by kernel_rfl) (fun _ _ _ h => h) (Or.inl ⟨by rfl, ?_⟩) ?_ ?_
      rotate_left
      · intro w'
        go_simp
        with_reducible rfl
      rotate_left
      · simp only [Act.put, List.setIfInBounds_toArray, List.set_cons_zero, List.set_cons_succ, i64_w, i32_w]
        rfl
      refine pure_ (i := 6) (N := some 25) (v := ?_) (a' := ?_) #[true, true, true, true, true, true, true, false, false, false, false, false, false, false, false, false] rfl rfl (by kernel_rfl) (fun _ _ _ h => h) (Or.inl ⟨by rfl, ?_⟩) ?_ ?_
      rotate_left
      · intro w'
        go_simp
        with_reducible rfl
      rotate_left
      · simp only [Act.put, List.setIfInBounds_toArray, List.set_cons_zero, List.set_cons_succ, i64_w, i32_w]
        rfl
      refine pure_ (i := 7) (N := some 26) (v := ?_) (a' := ?_) #[true, true, true, true, true, true, true, true, false, false, false, false, false, false, false, false] rfl rfl (by kernel_rfl) (fun _ _ _ h => h) (Or.inl ⟨by rfl, ?_⟩) ?_ ?_
      rotate_left
      · intro w'
        go_simp
        with_reducible rfl
      rotate_left
      · simp only [Act.put, List.setIfInBounds_toArray, List.set_cons_zero, List.set_cons_succ, i64_w, i32_w]
        rfl
      refine pure_ (i := 8) (N := some 27) (v := ?_) (a' := ?_) #[true, true, true, true, true, true, true, true, true, false, false, false, false, false, false, false] rfl rfl (by kernel_rfl) (fun _ _ _ h => h) (Or.inl ⟨by rfl, ?_⟩) ?_ ?_
      rotate_left
      · intro w'
        go_simp
        with_reducible rfl
      rotate_left
      · simp only [Act.put, List.setIfInBounds_toArray, List.set_cons_zero, List.set_cons_succ, i64_w, i32_w]
        rfl
      refine pure_ (i := 9) (N := some 28) (v := ?_) (a' := ?_) #[true, true, true, true, true, true, true, true, true, true, false, false, false, false, false, false] rfl rfl (by kernel_rfl) (fun _ _ _ h => h) (Or.inl ⟨by rfl, ?_⟩) ?_ ?_
      rotate_left
      · intro w'
        go_simp
        with_reducible rfl
      rotate_left
      · simp only [Act.put, List.setIfInBounds_toArray, List.set_cons_zero, List.set_cons_succ, i64_w, i32_w]
        rfl
      refine pure_ (i := 10) (N := some 29) (v := ?_) (a' := ?_) #[true, true, true, true, true, true, true, true, true, true, true, false, false, false, false, false] rfl rfl (by kernel_rfl) (fun _ _ _ h => h) (Or.inl ⟨by rfl, ?_⟩) ?_ ?_
      rotate_left
      · intro w'
        go_simp
        with_reducible rfl
      rotate_left
      · simp only [Act.put, List.setIfInBounds_toArray, List.set_cons_zero, List.set_cons_succ, i64_w, i32_w]
        rfl
      refine pure_ (i := 11) (N := some 30) (v := ?_) (a' := ?_) #[true, true, true, true, true, true, true, true, true, true, true, true, false, false, false, false] rfl rfl (by kernel_rfl) (fun _ _ _ h => h) (Or.inl ⟨by rfl, ?_⟩) ?_ ?_
      rotate_left
      · intro w'
        go_simp
        with_reducible rfl
      rotate_left
      · simp only [Act.put, List.setIfInBounds_toArray, List.set_cons_zero, List.set_cons_succ, i64_w, i32_w]
        rfl
      refine pure_ (i := 12) (N := some 31) (v := ?_) (a' := ?_) #[true, true, true, true, true, true, true, true, true, true, true, true, true, false, false, false] rfl rfl (by kernel_rfl) (fun _ _ _ h => h) (Or.inl ⟨by rfl, ?_⟩) ?_ ?_
      rotate_left
      · intro w'
        go_simp
        with_reducible rfl
      rotate_left
      · simp only [Act.put, List.setIfInBounds_toArray, List.set_cons_zero, List.set_cons_succ, i64_w, i32_w]
        rfl
      refine pure_ (i := 13) (N := some 32) (v := ?_) (a' := ?_) #[true, true, true, true, true, true, true, true, true, true, true, true, true, true, false, false] rfl rfl (by kernel_rfl) (fun _ _ _ h => h) (Or.inl ⟨by rfl, ?_⟩) ?_ ?_
      rotate_left
      · intro w'
        go_simp
        with_reducible rfl
      rotate_left
      · simp only [Act.put, List.setIfInBounds_toArray, List.set_cons_zero, List.set_cons_succ, i64_w, i32_w]
        rfl
      refine one_ (i := 14) (N := some 5) #[true, true, true, true, true, true, true, true, true, true, true, true, true, true, true, false] rfl rfl (by kernel_rfl) (by decide) (fun K hK => ?_)
      refine box_step ?hg (N := 5) ?hd (cs := #[.int .i64 0, .int .i64 0, .int .i64 0]) (t := 64) ?hr ?_; (case hd => rfl); (case hg => rfl); (case hr => first | (go_simp; done) | (go_simp; rfl))
      intro g5 hg W2 hbox hb
      have hge : wr.heap.size ≤ g5 := by rw [hg]; exact hHeld.size
      replace hHeld := below_step hHeld hb
      clear hb hg
      refine hK.out _ _ hHeld (fun _ => ?_)
      clear hK K
      refine norm_ (a' := ?_) ?_ ?_
      rotate_left
      · show Act.put _ (some 5) _ = _
        simp only [Act.put, List.setIfInBounds_toArray, List.set_cons_zero, List.set_cons_succ, i64_w, i32_w]
        rfl
      refine last_ (i := 15) (N := none) #[true, true, true, true, true, true, true, true, true, true, true, true, true, true, true, true] rfl rfl (by kernel_rfl) (by decide) (fun K hK => ?_)
      have e0 : W2.cell? ⟨g5, 0, none⟩ = some (.int .i64 0) := (blk_cell hbox 0).trans rfl
      have e1 : W2.cell? ⟨g5, 1, none⟩ = some (.int .i64 0) := (blk_cell hbox 1).trans rfl
      have e2 : W2.cell? ⟨g5, 2, none⟩ = some (.int .i64 0) := (blk_cell hbox 2).trans rfl
      have e3 := blk_frozen hbox 0
      have e4 := blk_frozen hbox 1
      have e5 := blk_frozen hbox 2
      have HGE := Aside0.mk hge
      have HBO := Aside0.mk hbox
      have HBW := Aside0.mk hHeld
      clear hge hHeld hbox
      refine skip_ (w1 := ?_) (by rfl) rfl ?_ ?_
      rotate_left
      · go_simp
        rfl
      refine hK.out _ _ ?_
      clear hK K e0 e1 e2 e3 e4 e5
      refine done_ (by kernel_rfl) ?_
      obtain ⟨P0, hP0⟩ : ∃ P : Nat, P = i / 16 := ⟨_, rfl⟩
      obtain ⟨P1, hP1⟩ : ∃ P : Nat, P = i / 4 % 4 := ⟨_, rfl⟩
      obtain ⟨P2, hP2⟩ : ∃ P : Nat, P = i % 4 := ⟨_, rfl⟩
      have hb0 : P0 < 10000 := by have := HI.out; omega
      have hb1 : P1 < 10000 := by omega
      have hb2 : P2 < 10000 := by omega
      have HPE : Aside0 (pce 4 i = ⟨pcq 4 P0, pcq 4 P1, pcq 4 P2⟩) := ⟨by rw [hP0, hP1, hP2]; rfl⟩
      rw [show ((i : Int) / 4).tmod 4 = (P1 : Int) by rw [Int.tmod_eq_emod_of_nonneg (by omega)]; omega, show ((i : Int)).tmod 4 = (P2 : Int) by rw [Int.tmod_eq_emod_of_nonneg (by omega)]; omega, show (i : Int) / 16 = (P0 : Int) by omega]
      have BP : Aside0 ((((W2.setCell ⟨g5, 0, none⟩ (.int .i64 (P0 : Int))).setCell ⟨g5, 1, none⟩ (.int .i64 (P1 : Int))).setCell ⟨g5, 2, none⟩ (.int .i64 (P2 : Int))).heap[g5]? = some (.cells #[.int .i64 (P0 : Int), .int .i64 (P1 : Int), .int .i64 (P2 : Int)] 64 (0, 0))) := ⟨blk_put (cs := #[.int .i64 (P0 : Int), .int .i64 (P1 : Int), .int .i64 0]) (blk_put (cs := #[.int .i64 (P0 : Int), .int .i64 0, .int .i64 0]) (blk_put (cs := #[.int .i64 0, .int .i64 0, .int .i64 0]) HBO.out 0 _ rfl) 1 _ rfl) 2 _ rfl⟩
      replace HBW := Aside0.mk (below_set (g := g5) (j := 2) (v := .int .i64 (P2 : Int)) (below_set (g := g5) (j := 1) (v := .int .i64 (P1 : Int)) (below_set (g := g5) (j := 0) (v := .int .i64 (P0 : Int)) HBW.out HGE.out) HGE.out) HGE.out)
      generalize World.setCell _ _ _ = V3 at BP HBW ⊢
      clear HBO hP0 hP1 hP2 hq1 hq2 hw2
      have N0 : Aside0 (impl_near.f ((P0 : Int) * 65535) 3 = some (pcq 4 P0)) := ⟨near_pc 4 P0 (by omega) (by omega) hb0⟩
      have N1 : Aside0 (impl_near.f ((P1 : Int) * 65535) 3 = some (pcq 4 P1)) := ⟨near_pc 4 P1 (by omega) (by omega) hb1⟩
      have N2 : Aside0 (impl_near.f ((P2 : Int) * 65535) 3 = some (pcq 4 P2)) := ⟨near_pc 4 P2 (by omega) (by omega) hb2⟩
      obtain ⟨gkO, hgO⟩ : ∃ g : Nat, g = gk := ⟨_, rfl⟩
      have HGO := Aside0.mk hgO
      clear hgO
      go_wp2
      go_loopg [33] 3 (fun kq v33 w' => ∃ (k x y z : Int), v33 = .int .i64 k ∧ Aside0 (k + kq = 3) ∧ Aside0 (w'.heap[g5]? = some (.cells #[.int .i64 x, .int .i64 y, .int .i64 z] 64 (0, 0))) ∧ Aside0 ((k = 0 ∧ x = P0 ∧ y = P1 ∧ z = P2) ∨ (k = 1 ∧ x = pcq 4 P0 ∧ y = P1 ∧ z = P2) ∨ (k = 2 ∧ x = pcq 4 P0 ∧ y = pcq 4 P1 ∧ z = P2) ∨ (k = 3 ∧ x = pcq 4 P0 ∧ y = pcq 4 P1 ∧ z = pcq 4 P2)) ∧ Aside0 (Below wr.heap.size wr w'))
      case atStart => exact ⟨0, P0, P1, P2, rfl, ⟨by omega⟩, BP, ⟨.inl ⟨rfl, rfl, rfl, rfl⟩⟩, HBW⟩
      case round =>
        clear BP HBW
        obtain ⟨k, x, y, z, rfl, HKK, BP, HF, HBW⟩ := hrel
        rcases HF.out with ⟨rfl, rfl, rfl, rfl⟩ | ⟨rfl, rfl, rfl, rfl⟩ | ⟨rfl, rfl, rfl, rfl⟩ | ⟨rfl, rfl, rfl, rfl⟩
        · clear HF
          have c0 := (blk_cell BP.out 0).trans (show _ = some (.int .i64 (P0 : Int)) from rfl)
          have c1 := (blk_cell BP.out 1).trans (show _ = some (.int .i64 (P1 : Int)) from rfl)
          have c2 := (blk_cell BP.out 2).trans (show _ = some (.int .i64 (P2 : Int)) from rfl)
          have f0 := blk_frozen BP.out 0
          have f1 := blk_frozen BP.out 1
          have f2 := blk_frozen BP.out 2
          go_wp2_with (first | ((with_reducible refine gate_dst (N := 43) rfl ?_); refine goesL_ (some 43) rfl rfl Try.func48 (by kernel_rfl) rfl #[.int .i64 ((P0 : Int) * 65535), .int .i64 3] rfl (by (try simp only [List.map_toArray, List.map_cons, List.map_nil]); first | done | rfl) ?_; (with_reducible refine (impl_near.calls ((P0 : Int) * 65535) 3 (pcq 4 P0) _ N0.out).mono ?_); rintro e W1 ⟨rfl, hD⟩; refine ⟨_, rfl, ?_⟩; have hb := hD.below; replace BP := Aside0.mk (blk_below BP.out hb); replace HBW := Aside0.mk (below_step HBW.out hb); clear hb hD c0 c1 c2 f0 f1 f2; have c0 : W1.cell? ⟨g5, 0, none⟩ = some (.int .i64 (P0 : Int)) := (blk_cell BP.out 0).trans rfl; have c1 : W1.cell? ⟨g5, 1, none⟩ = some (.int .i64 (P1 : Int)) := (blk_cell BP.out 1).trans rfl; have c2 : W1.cell? ⟨g5, 2, none⟩ = some (.int .i64 (P2 : Int)) := (blk_cell BP.out 2).trans rfl; have f0 := blk_frozen BP.out 0; have f1 := blk_frozen BP.out 1; have f2 := blk_frozen BP.out 2))
          go_roundg (gk - 1)
          case measure => have := HKK.out; omega
          case rel => exact ⟨1, (pcq 4 P0), (P1 : Int), (P2 : Int), rfl, ⟨by have := HKK.out; omega⟩, ⟨blk_put (cs := #[.int .i64 (P0 : Int), .int .i64 (P1 : Int), .int .i64 (P2 : Int)]) BP.out 0 _ rfl⟩, ⟨.inr (.inl ⟨rfl, rfl, rfl, rfl⟩)⟩, ⟨below_set HBW.out HGE.out⟩⟩
        · clear HF
          have c0 := (blk_cell BP.out 0).trans (show _ = some (.int .i64 (pcq 4 P0)) from rfl)
          have c1 := (blk_cell BP.out 1).trans (show _ = some (.int .i64 (P1 : Int)) from rfl)
          have c2 := (blk_cell BP.out 2).trans (show _ = some (.int .i64 (P2 : Int)) from rfl)
          have f0 := blk_frozen BP.out 0
          have f1 := blk_frozen BP.out 1
          have f2 := blk_frozen BP.out 2
          go_wp2_with (first | ((with_reducible refine gate_dst (N := 43) rfl ?_); refine goesL_ (some 43) rfl rfl Try.func48 (by kernel_rfl) rfl #[.int .i64 ((P1 : Int) * 65535), .int .i64 3] rfl (by (try simp only [List.map_toArray, List.map_cons, List.map_nil]); first | done | rfl) ?_; (with_reducible refine (impl_near.calls ((P1 : Int) * 65535) 3 (pcq 4 P1) _ N1.out).mono ?_); rintro e W1 ⟨rfl, hD⟩; refine ⟨_, rfl, ?_⟩; have hb := hD.below; replace BP := Aside0.mk (blk_below BP.out hb); replace HBW := Aside0.mk (below_step HBW.out hb); clear hb hD c0 c1 c2 f0 f1 f2; have c0 : W1.cell? ⟨g5, 0, none⟩ = some (.int .i64 (pcq 4 P0)) := (blk_cell BP.out 0).trans rfl; have c1 : W1.cell? ⟨g5, 1, none⟩ = some (.int .i64 (P1 : Int)) := (blk_cell BP.out 1).trans rfl; have c2 : W1.cell? ⟨g5, 2, none⟩ = some (.int .i64 (P2 : Int)) := (blk_cell BP.out 2).trans rfl; have f0 := blk_frozen BP.out 0; have f1 := blk_frozen BP.out 1; have f2 := blk_frozen BP.out 2))
          go_roundg (gk - 1)
          case measure => have := HKK.out; omega
          case rel => exact ⟨2, (pcq 4 P0), (pcq 4 P1), (P2 : Int), rfl, ⟨by have := HKK.out; omega⟩, ⟨blk_put (cs := #[.int .i64 (pcq 4 P0), .int .i64 (P1 : Int), .int .i64 (P2 : Int)]) BP.out 1 _ rfl⟩, ⟨.inr (.inr (.inl ⟨rfl, rfl, rfl, rfl⟩))⟩, ⟨below_set HBW.out HGE.out⟩⟩
        · clear HF
          have c0 := (blk_cell BP.out 0).trans (show _ = some (.int .i64 (pcq 4 P0)) from rfl)
          have c1 := (blk_cell BP.out 1).trans (show _ = some (.int .i64 (pcq 4 P1)) from rfl)
          have c2 := (blk_cell BP.out 2).trans (show _ = some (.int .i64 (P2 : Int)) from rfl)
          have f0 := blk_frozen BP.out 0
          have f1 := blk_frozen BP.out 1
          have f2 := blk_frozen BP.out 2
          go_wp2_with (first | ((with_reducible refine gate_dst (N := 43) rfl ?_); refine goesL_ (some 43) rfl rfl Try.func48 (by kernel_rfl) rfl #[.int .i64 ((P2 : Int) * 65535), .int .i64 3] rfl (by (try simp only [List.map_toArray, List.map_cons, List.map_nil]); first | done | rfl) ?_; (with_reducible refine (impl_near.calls ((P2 : Int) * 65535) 3 (pcq 4 P2) _ N2.out).mono ?_); rintro e W1 ⟨rfl, hD⟩; refine ⟨_, rfl, ?_⟩; have hb := hD.below; replace BP := Aside0.mk (blk_below BP.out hb); replace HBW := Aside0.mk (below_step HBW.out hb); clear hb hD c0 c1 c2 f0 f1 f2; have c0 : W1.cell? ⟨g5, 0, none⟩ = some (.int .i64 (pcq 4 P0)) := (blk_cell BP.out 0).trans rfl; have c1 : W1.cell? ⟨g5, 1, none⟩ = some (.int .i64 (pcq 4 P1)) := (blk_cell BP.out 1).trans rfl; have c2 : W1.cell? ⟨g5, 2, none⟩ = some (.int .i64 (P2 : Int)) := (blk_cell BP.out 2).trans rfl; have f0 := blk_frozen BP.out 0; have f1 := blk_frozen BP.out 1; have f2 := blk_frozen BP.out 2))
          go_roundg (gk - 1)
          case measure => have := HKK.out; omega
          case rel => exact ⟨3, (pcq 4 P0), (pcq 4 P1), (pcq 4 P2), rfl, ⟨by have := HKK.out; omega⟩, ⟨blk_put (cs := #[.int .i64 (pcq 4 P0), .int .i64 (pcq 4 P1), .int .i64 (P2 : Int)]) BP.out 2 _ rfl⟩, ⟨.inr (.inr (.inr ⟨rfl, rfl, rfl, rfl⟩))⟩, ⟨below_set HBW.out HGE.out⟩⟩
        · clear HF
          have c0 := (blk_cell BP.out 0).trans (show _ = some (.int .i64 (pcq 4 P0)) from rfl)
          have c1 := (blk_cell BP.out 1).trans (show _ = some (.int .i64 (pcq 4 P1)) from rfl)
          have c2 := (blk_cell BP.out 2).trans (show _ = some (.int .i64 (pcq 4 P2)) from rfl)
          have f0 := blk_frozen BP.out 0
          have f1 := blk_frozen BP.out 1
          have f2 := blk_frozen BP.out 2
          go_wp2_with (first | ((with_reducible refine gate_dst (N := 48) rfl ?_); refine goesL_ (some 48) rfl rfl Try.func50 (by kernel_rfl) rfl #[.agg #[.int .i64 (pcq 4 P0), .int .i64 (pcq 4 P1), .int .i64 (pcq 4 P2)]] rfl (by (try simp only [List.map_toArray, List.map_cons, List.map_nil]); first | done | rfl) ?_; (with_reducible refine (rgb_calls (pcq 4 P0) (pcq 4 P1) (pcq 4 P2) _).mono ?_); rintro e W1 ⟨rfl, hb⟩; refine ⟨_, rfl, ?_⟩; replace HBW := Aside0.mk (below_step HBW.out hb); clear hb c0 c1 c2 f0 f1 f2) | ((with_reducible refine gate_dst (N := 50) rfl ?_); at_builtin; refine Kd.R_append k63 (w0 := w) w.heap.size rfl (.tmp 46) (.tmp 49) 44 63 (.agg #[(.int .i64 0), (.int .i64 0), (.int .i64 0)]) 24 (by rfl) Try.underlying44 info63 rfl (by decide) (by omega) u3 (((List.range 64).map (pce 4)).take i) (⟨pcq 4 P0, pcq 4 P1, pcq 4 P2⟩ : S63) [.int .i64 (pcq 4 P0), .int .i64 (pcq 4 P1), .int .i64 (pcq 4 P2)] (fun _ => True) (fun _ => False) (by rfl) (by rfl) (k63_mkM _ _ _ (⟨pcq 4 P0, pcq 4 P1, pcq 4 P2⟩ : S63)) (fun _ hk => hk.elim) (fun _ _ => trivial) ?aO ?aB ?aS ?aL ?_; (case aO => exact Kd.R_below HO.out HBW.out); (case aB => exact below_step HB.out HBW.out); (case aS => exact below_size (below_step HB.out HBW.out)); (case aL => (rw [List.length_take, List.length_map, List.length_range]; have := HI.out; omega)); intro v1 w2 ho hb hg_ hat; have HO2 := Aside0.mk ho; have HB2 := Aside0.mk hb; clear ho hb hg_ hat))
          go_roundg (gkO - 1)
          case measure => have := HK.out; have := HI.out; have := HGO.out; omega
          case rel => exact ⟨i + 1, by first | rfl | simp, ⟨by have := HK.out; have := HI.out; have := HGO.out; omega⟩, ⟨by rw [HT.out, HPE.out]; exact HO2.out⟩, HB2⟩
    · have hlt : decide ((i : Int) < (64 : Int)) = false := decide_eq_false (by omega)
      have HF : Aside0 (Kd.R k63 63 wr w.heap.size (fun _ => True) u3 ((List.range 64).map (pce 4))) := ⟨by
        have h := HO.out
        rwa [List.take_of_length_le (by simp; omega)] at h⟩
      clear HK HO hi
      go_wp2
      go_ret
      exact ⟨_, rfl, HF.out, HB.out⟩
set_option maxHeartbeats 8000000 in
set_option maxRecDepth 100000 in
theorem impl_PlainCube.at5 (w : World) : Calls Try.prog 25 #[.int .i64 5] w fun e w' => ∃ v, e = .returned v ∧ Kd.R k63 63 w' w.heap.size (fun _ => True) v ((List.range 125).map (pce 5)) ∧ Below w.heap.size w w' := by
  have hu2 := Try.underlying2
  have hu63 := Try.underlying63
  have hu64 := Try.underlying64
  have hu44 := Try.underlying44
  have HB := Aside0.mk (Below.refl w.heap.size w)
  have HIN : Aside0 (impl_in.f 5 2 9 = some true) := ⟨by decide⟩
  go_enter Try.func25, Try.ntmps25
  go_wp2_with (first | ((with_reducible refine gate_dst (N := 10) rfl ?_); refine Kd.R_lit k63 w.heap.size 63 ?hg (N := 10) ?hd (xs := ([] : List (S63))) (inner := []) (ok := fun _ => True) (okp := fun _ => True) ?hr ?hp (fun _ hk => hk) trivial HB.out HB.out.size (by simp) ?_; (case hd => rfl); (case hg => rfl); (case hr => first | (go_simp; done) | (go_simp; rfl)); (case hp => exact (Reps.none _ _)); intro v103 w4 ho5 hb hg_ hnew_; replace HB := Aside0.mk hb; have HO : Aside0 (Kd.R k63 63 w4 w.heap.size (fun _ => True) v103 (((List.range 125).map (pce 5)).take 0)) := ⟨ho5⟩; clear hg_ hnew_ ho5 hb) | ((with_reducible refine gate_dst (N := 8) rfl ?_); refine goesL_ (some 8) rfl rfl Try.func31 (by kernel_rfl) rfl #[.int .i64 5, .int .i64 2, .int .i64 9] rfl (by (try simp only [List.map_toArray, List.map_cons, List.map_nil]); first | done | rfl) ?_; (with_reducible refine (impl_in.calls 5 2 9 true _ HIN.out).mono ?_); rintro e W1 ⟨rfl, hD⟩; refine ⟨_, rfl, ?_⟩; have hb := hD.below; replace HB := Aside0.mk (below_step HB.out hb); clear hb hD))
  go_loopg [3, 16] 125 (fun kq v3 v16 w' => ∃ (i : Nat), v16 = .int .i64 (i : Int) ∧ Aside0 (i + kq = 125) ∧ Aside0 (Kd.R k63 63 w' w.heap.size (fun _ => True) v3 (((List.range 125).map (pce 5)).take i)) ∧ Aside0 (Below w.heap.size w w'))
  case atStart => exact ⟨0, rfl, ⟨by omega⟩, HO, HB⟩
  case round =>
    clear HB HO
    obtain ⟨i, rfl, HK, HO, HB⟩ := hrel
    by_cases hi : i < 125
    · have hlt : decide ((i : Int) < (125 : Int)) = true := decide_eq_true (by omega)
      have hi2 : (i : Int) < (125 : Int) := by omega
      have HI := Aside0.mk hi
      have HT : Aside0 (((List.range 125).map (pce 5)).take (i + 1) = ((List.range 125).map (pce 5)).take i ++ [pce 5 i]) := ⟨by rw [List.take_succ_eq_append_getElem (by simpa using hi)]; simp⟩
      have hw2 : wrap64 25 = 25 := by unfold wrap64; omega
      have hq1 : IntKind.i64.wrap ((i : Int) / 25) = (i : Int) / 25 := by rw [i64_w]; unfold wrap64; omega
      have hq2 : IntKind.i64.wrap ((i : Int) / 5) = (i : Int) / 5 := by rw [i64_w]; unfold wrap64; omega
      clear hi
      go_upto_region 7 with (fail)
      refine start_ (n := 16) (S := fun w' => Below wr.heap.size wr w') (ds := [15]) #[false, false, false, false, false, false, false, false, false, false, false, false, false, false, false, false] (by kernel_rfl) rfl rfl (below_drew1 (Below.refl _ _)) (fun hHeld => ?_)
      generalize World.drew _ = V at hHeld ⊢
      refine pure_ (i := 0) (N := some 19) (v := ?_) (a' := ?_) #[true, false, false, false, false, false, false, false, false, false, false, false, false, false, false, false] rfl rfl (by kernel_rfl) (fun _ _ _ h => h) (Or.inl ⟨by rfl, ?_⟩) ?_ ?_
      rotate_left
      · intro w'
        go_simp
        with_reducible rfl
      rotate_left
      · simp only [Act.put, List.setIfInBounds_toArray, List.set_cons_zero, List.set_cons_succ, i64_w, i32_w]
        rfl
      refine pure_ (i := 1) (N := some 20) (v := ?_) (a' := ?_) #[true, true, false, false, false, false, false, false, false, false, false, false, false, false, false, false] rfl rfl (by kernel_rfl) (fun _ _ _ h => h) (Or.inl ⟨by rfl, ?_⟩) ?_ ?_
      rotate_left
      · intro w'
        go_simp
        with_reducible rfl
      rotate_left
      · simp only [Act.put, List.setIfInBounds_toArray, List.set_cons_zero, List.set_cons_succ, i64_w, i32_w]
        rfl
      refine pure_ (i := 2) (N := some 21) (v := ?_) (a' := ?_) #[true, true, true, false, false, false, false, false, false, false, false, false, false, false, false, false] rfl rfl (by kernel_rfl) (fun _ _ _ h => h) (Or.inl ⟨by rfl, ?_⟩) ?_ ?_
      rotate_left
      · intro w'
        go_simp
        with_reducible rfl
      rotate_left
      · simp only [Act.put, List.setIfInBounds_toArray, List.set_cons_zero, List.set_cons_succ, i64_w, i32_w]
        rfl
      refine pure_ (i := 3) (N := some 22) (v := ?_) (a' := ?_) #[true, true, true, true, false, false, false, false, false, false, false, false, false, false, false, false] rfl rfl (by kernel_rfl) (fun _ _ _ h => h) (Or.inl ⟨by rfl, ?_⟩) ?_ ?_
      rotate_left
      · intro w'
        go_simp
        with_reducible rfl
      rotate_left
      · simp only [Act.put, List.setIfInBounds_toArray, List.set_cons_zero, List.set_cons_succ, i64_w, i32_w]
        rfl
      refine pure_ (i := 4) (N := some 23) (v := ?_) (a' := ?_) #[true, true, true, true, true, false, false, false, false, false, false, false, false, false, false, false] rfl rfl (by kernel_rfl) (fun _ _ _ h => h) (Or.inl ⟨by rfl, ?_⟩) ?_ ?_
      rotate_left
      · intro w'
        go_simp
        with_reducible rfl
      rotate_left
      · simp only [Act.put, List.setIfInBounds_toArray, List.set_cons_zero, List.set_cons_succ, i64_w, i32_w]
        rfl
      refine pure_ (i := 5) (N := some 24) (v := ?_) (a' := ?_) #[true, true, true, true, true, true, false, false, false, false, false, false, false, false, false, false] rfl rfl (by kernel_rfl) (fun _ _ _ h => h) (Or.inl ⟨by rfl, ?_⟩) ?_ ?_
      rotate_left
      · intro w'
        go_simp
        with_reducible rfl
      rotate_left
      · simp only [Act.put, List.setIfInBounds_toArray, List.set_cons_zero, List.set_cons_succ, i64_w, i32_w]
        rfl
      refine pure_ (i := 6) (N := some 25) (v := ?_) (a' := ?_) #[true, true, true, true, true, true, true, false, false, false, false, false, false, false, false, false] rfl rfl (by kernel_rfl) (fun _ _ _ h => h) (Or.inl ⟨by rfl, ?_⟩) ?_ ?_
      rotate_left
      · intro w'
        go_simp
        with_reducible rfl
      rotate_left
      · simp only [Act.put, List.setIfInBounds_toArray, List.set_cons_zero, List.set_cons_succ, i64_w, i32_w]
        rfl
      refine pure_ (i := 7) (N := some 26) (v := ?_) (a' := ?_) #[true, true, true, true, true, true, true, true, false, false, false, false, false, false, false, false] rfl rfl (by kernel_rfl) (fun _ _ _ h => h) (Or.inl ⟨by rfl, ?_⟩) ?_ ?_
      rotate_left
      · intro w'
        go_simp
        with_reducible rfl
      rotate_left
      · simp only [Act.put, List.setIfInBounds_toArray, List.set_cons_zero, List.set_cons_succ, i64_w, i32_w]
        rfl
      refine pure_ (i := 8) (N := some 27) (v := ?_) (a' := ?_) #[true, true, true, true, true, true, true, true, true, false, false, false, false, false, false, false] rfl rfl (by kernel_rfl) (fun _ _ _ h => h) (Or.inl ⟨by rfl, ?_⟩) ?_ ?_
      rotate_left
      · intro w'
        go_simp
        with_reducible rfl
      rotate_left
      · simp only [Act.put, List.setIfInBounds_toArray, List.set_cons_zero, List.set_cons_succ, i64_w, i32_w]
        rfl
      refine pure_ (i := 9) (N := some 28) (v := ?_) (a' := ?_) #[true, true, true, true, true, true, true, true, true, true, false, false, false, false, false, false] rfl rfl (by kernel_rfl) (fun _ _ _ h => h) (Or.inl ⟨by rfl, ?_⟩) ?_ ?_
      rotate_left
      · intro w'
        go_simp
        with_reducible rfl
      rotate_left
      · simp only [Act.put, List.setIfInBounds_toArray, List.set_cons_zero, List.set_cons_succ, i64_w, i32_w]
        rfl
      refine pure_ (i := 10) (N := some 29) (v := ?_) (a' := ?_) #[true, true, true, true, true, true, true, true, true, true, true, false, false, false, false, false] rfl rfl (by kernel_rfl) (fun _ _ _ h => h) (Or.inl ⟨by rfl, ?_⟩) ?_ ?_
      rotate_left
      · intro w'
        go_simp
        with_reducible rfl
      rotate_left
      · simp only [Act.put, List.setIfInBounds_toArray, List.set_cons_zero, List.set_cons_succ, i64_w, i32_w]
        rfl
      refine pure_ (i := 11) (N := some 30) (v := ?_) (a' := ?_) #[true, true, true, true, true, true, true, true, true, true, true, true, false, false, false, false] rfl rfl (by kernel_rfl) (fun _ _ _ h => h) (Or.inl ⟨by rfl, ?_⟩) ?_ ?_
      rotate_left
      · intro w'
        go_simp
        with_reducible rfl
      rotate_left
      · simp only [Act.put, List.setIfInBounds_toArray, List.set_cons_zero, List.set_cons_succ, i64_w, i32_w]
        rfl
      refine pure_ (i := 12) (N := some 31) (v := ?_) (a' := ?_) #[true, true, true, true, true, true, true, true, true, true, true, true, true, false, false, false] rfl rfl (by kernel_rfl) (fun _ _ _ h => h) (Or.inl ⟨by rfl, ?_⟩) ?_ ?_
      rotate_left
      · intro w'
        go_simp
        with_reducible rfl
      rotate_left
      · simp only [Act.put, List.setIfInBounds_toArray, List.set_cons_zero, List.set_cons_succ, i64_w, i32_w]
        rfl
      refine pure_ (i := 13) (N := some 32) (v := ?_) (a' := ?_) #[true, true, true, true, true, true, true, true, true, true, true, true, true, true, false, false] rfl rfl (by kernel_rfl) (fun _ _ _ h => h) (Or.inl ⟨by rfl, ?_⟩) ?_ ?_
      rotate_left
      · intro w'
        go_simp
        with_reducible rfl
      rotate_left
      · simp only [Act.put, List.setIfInBounds_toArray, List.set_cons_zero, List.set_cons_succ, i64_w, i32_w]
        rfl
      refine one_ (i := 14) (N := some 5) #[true, true, true, true, true, true, true, true, true, true, true, true, true, true, true, false] rfl rfl (by kernel_rfl) (by decide) (fun K hK => ?_)
      refine box_step ?hg (N := 5) ?hd (cs := #[.int .i64 0, .int .i64 0, .int .i64 0]) (t := 64) ?hr ?_; (case hd => rfl); (case hg => rfl); (case hr => first | (go_simp; done) | (go_simp; rfl))
      intro g5 hg W2 hbox hb
      have hge : wr.heap.size ≤ g5 := by rw [hg]; exact hHeld.size
      replace hHeld := below_step hHeld hb
      clear hb hg
      refine hK.out _ _ hHeld (fun _ => ?_)
      clear hK K
      refine norm_ (a' := ?_) ?_ ?_
      rotate_left
      · show Act.put _ (some 5) _ = _
        simp only [Act.put, List.setIfInBounds_toArray, List.set_cons_zero, List.set_cons_succ, i64_w, i32_w]
        rfl
      refine last_ (i := 15) (N := none) #[true, true, true, true, true, true, true, true, true, true, true, true, true, true, true, true] rfl rfl (by kernel_rfl) (by decide) (fun K hK => ?_)
      have e0 : W2.cell? ⟨g5, 0, none⟩ = some (.int .i64 0) := (blk_cell hbox 0).trans rfl
      have e1 : W2.cell? ⟨g5, 1, none⟩ = some (.int .i64 0) := (blk_cell hbox 1).trans rfl
      have e2 : W2.cell? ⟨g5, 2, none⟩ = some (.int .i64 0) := (blk_cell hbox 2).trans rfl
      have e3 := blk_frozen hbox 0
      have e4 := blk_frozen hbox 1
      have e5 := blk_frozen hbox 2
      have HGE := Aside0.mk hge
      have HBO := Aside0.mk hbox
      have HBW := Aside0.mk hHeld
      clear hge hHeld hbox
      refine skip_ (w1 := ?_) (by rfl) rfl ?_ ?_
      rotate_left
      · go_simp
        rfl
      refine hK.out _ _ ?_
      clear hK K e0 e1 e2 e3 e4 e5
      refine done_ (by kernel_rfl) ?_
      obtain ⟨P0, hP0⟩ : ∃ P : Nat, P = i / 25 := ⟨_, rfl⟩
      obtain ⟨P1, hP1⟩ : ∃ P : Nat, P = i / 5 % 5 := ⟨_, rfl⟩
      obtain ⟨P2, hP2⟩ : ∃ P : Nat, P = i % 5 := ⟨_, rfl⟩
      have hb0 : P0 < 10000 := by have := HI.out; omega
      have hb1 : P1 < 10000 := by omega
      have hb2 : P2 < 10000 := by omega
      have HPE : Aside0 (pce 5 i = ⟨pcq 5 P0, pcq 5 P1, pcq 5 P2⟩) := ⟨by rw [hP0, hP1, hP2]; rfl⟩
      rw [show ((i : Int) / 5).tmod 5 = (P1 : Int) by rw [Int.tmod_eq_emod_of_nonneg (by omega)]; omega, show ((i : Int)).tmod 5 = (P2 : Int) by rw [Int.tmod_eq_emod_of_nonneg (by omega)]; omega, show (i : Int) / 25 = (P0 : Int) by omega]
      have BP : Aside0 ((((W2.setCell ⟨g5, 0, none⟩ (.int .i64 (P0 : Int))).setCell ⟨g5, 1, none⟩ (.int .i64 (P1 : Int))).setCell ⟨g5, 2, none⟩ (.int .i64 (P2 : Int))).heap[g5]? = some (.cells #[.int .i64 (P0 : Int), .int .i64 (P1 : Int), .int .i64 (P2 : Int)] 64 (0, 0))) := ⟨blk_put (cs := #[.int .i64 (P0 : Int), .int .i64 (P1 : Int), .int .i64 0]) (blk_put (cs := #[.int .i64 (P0 : Int), .int .i64 0, .int .i64 0]) (blk_put (cs := #[.int .i64 0, .int .i64 0, .int .i64 0]) HBO.out 0 _ rfl) 1 _ rfl) 2 _ rfl⟩
      replace HBW := Aside0.mk (below_set (g := g5) (j := 2) (v := .int .i64 (P2 : Int)) (below_set (g := g5) (j := 1) (v := .int .i64 (P1 : Int)) (below_set (g := g5) (j := 0) (v := .int .i64 (P0 : Int)) HBW.out HGE.out) HGE.out) HGE.out)
      generalize World.setCell _ _ _ = V3 at BP HBW ⊢
      clear HBO hP0 hP1 hP2 hq1 hq2 hw2
      have N0 : Aside0 (impl_near.f ((P0 : Int) * 65535) 4 = some (pcq 5 P0)) := ⟨near_pc 5 P0 (by omega) (by omega) hb0⟩
      have N1 : Aside0 (impl_near.f ((P1 : Int) * 65535) 4 = some (pcq 5 P1)) := ⟨near_pc 5 P1 (by omega) (by omega) hb1⟩
      have N2 : Aside0 (impl_near.f ((P2 : Int) * 65535) 4 = some (pcq 5 P2)) := ⟨near_pc 5 P2 (by omega) (by omega) hb2⟩
      obtain ⟨gkO, hgO⟩ : ∃ g : Nat, g = gk := ⟨_, rfl⟩
      have HGO := Aside0.mk hgO
      clear hgO
      go_wp2
      go_loopg [33] 3 (fun kq v33 w' => ∃ (k x y z : Int), v33 = .int .i64 k ∧ Aside0 (k + kq = 3) ∧ Aside0 (w'.heap[g5]? = some (.cells #[.int .i64 x, .int .i64 y, .int .i64 z] 64 (0, 0))) ∧ Aside0 ((k = 0 ∧ x = P0 ∧ y = P1 ∧ z = P2) ∨ (k = 1 ∧ x = pcq 5 P0 ∧ y = P1 ∧ z = P2) ∨ (k = 2 ∧ x = pcq 5 P0 ∧ y = pcq 5 P1 ∧ z = P2) ∨ (k = 3 ∧ x = pcq 5 P0 ∧ y = pcq 5 P1 ∧ z = pcq 5 P2)) ∧ Aside0 (Below wr.heap.size wr w'))
      case atStart => exact ⟨0, P0, P1, P2, rfl, ⟨by omega⟩, BP, ⟨.inl ⟨rfl, rfl, rfl, rfl⟩⟩, HBW⟩
      case round =>
        clear BP HBW
        obtain ⟨k, x, y, z, rfl, HKK, BP, HF, HBW⟩ := hrel
        rcases HF.out with ⟨rfl, rfl, rfl, rfl⟩ | ⟨rfl, rfl, rfl, rfl⟩ | ⟨rfl, rfl, rfl, rfl⟩ | ⟨rfl, rfl, rfl, rfl⟩
        · clear HF
          have c0 := (blk_cell BP.out 0).trans (show _ = some (.int .i64 (P0 : Int)) from rfl)
          have c1 := (blk_cell BP.out 1).trans (show _ = some (.int .i64 (P1 : Int)) from rfl)
          have c2 := (blk_cell BP.out 2).trans (show _ = some (.int .i64 (P2 : Int)) from rfl)
          have f0 := blk_frozen BP.out 0
          have f1 := blk_frozen BP.out 1
          have f2 := blk_frozen BP.out 2
          go_wp2_with (first | ((with_reducible refine gate_dst (N := 43) rfl ?_); refine goesL_ (some 43) rfl rfl Try.func48 (by kernel_rfl) rfl #[.int .i64 ((P0 : Int) * 65535), .int .i64 4] rfl (by (try simp only [List.map_toArray, List.map_cons, List.map_nil]); first | done | rfl) ?_; (with_reducible refine (impl_near.calls ((P0 : Int) * 65535) 4 (pcq 5 P0) _ N0.out).mono ?_); rintro e W1 ⟨rfl, hD⟩; refine ⟨_, rfl, ?_⟩; have hb := hD.below; replace BP := Aside0.mk (blk_below BP.out hb); replace HBW := Aside0.mk (below_step HBW.out hb); clear hb hD c0 c1 c2 f0 f1 f2; have c0 : W1.cell? ⟨g5, 0, none⟩ = some (.int .i64 (P0 : Int)) := (blk_cell BP.out 0).trans rfl; have c1 : W1.cell? ⟨g5, 1, none⟩ = some (.int .i64 (P1 : Int)) := (blk_cell BP.out 1).trans rfl; have c2 : W1.cell? ⟨g5, 2, none⟩ = some (.int .i64 (P2 : Int)) := (blk_cell BP.out 2).trans rfl; have f0 := blk_frozen BP.out 0; have f1 := blk_frozen BP.out 1; have f2 := blk_frozen BP.out 2))
          go_roundg (gk - 1)
          case measure => have := HKK.out; omega
          case rel => exact ⟨1, (pcq 5 P0), (P1 : Int), (P2 : Int), rfl, ⟨by have := HKK.out; omega⟩, ⟨blk_put (cs := #[.int .i64 (P0 : Int), .int .i64 (P1 : Int), .int .i64 (P2 : Int)]) BP.out 0 _ rfl⟩, ⟨.inr (.inl ⟨rfl, rfl, rfl, rfl⟩)⟩, ⟨below_set HBW.out HGE.out⟩⟩
        · clear HF
          have c0 := (blk_cell BP.out 0).trans (show _ = some (.int .i64 (pcq 5 P0)) from rfl)
          have c1 := (blk_cell BP.out 1).trans (show _ = some (.int .i64 (P1 : Int)) from rfl)
          have c2 := (blk_cell BP.out 2).trans (show _ = some (.int .i64 (P2 : Int)) from rfl)
          have f0 := blk_frozen BP.out 0
          have f1 := blk_frozen BP.out 1
          have f2 := blk_frozen BP.out 2
          go_wp2_with (first | ((with_reducible refine gate_dst (N := 43) rfl ?_); refine goesL_ (some 43) rfl rfl Try.func48 (by kernel_rfl) rfl #[.int .i64 ((P1 : Int) * 65535), .int .i64 4] rfl (by (try simp only [List.map_toArray, List.map_cons, List.map_nil]); first | done | rfl) ?_; (with_reducible refine (impl_near.calls ((P1 : Int) * 65535) 4 (pcq 5 P1) _ N1.out).mono ?_); rintro e W1 ⟨rfl, hD⟩; refine ⟨_, rfl, ?_⟩; have hb := hD.below; replace BP := Aside0.mk (blk_below BP.out hb); replace HBW := Aside0.mk (below_step HBW.out hb); clear hb hD c0 c1 c2 f0 f1 f2; have c0 : W1.cell? ⟨g5, 0, none⟩ = some (.int .i64 (pcq 5 P0)) := (blk_cell BP.out 0).trans rfl; have c1 : W1.cell? ⟨g5, 1, none⟩ = some (.int .i64 (P1 : Int)) := (blk_cell BP.out 1).trans rfl; have c2 : W1.cell? ⟨g5, 2, none⟩ = some (.int .i64 (P2 : Int)) := (blk_cell BP.out 2).trans rfl; have f0 := blk_frozen BP.out 0; have f1 := blk_frozen BP.out 1; have f2 := blk_frozen BP.out 2))
          go_roundg (gk - 1)
          case measure => have := HKK.out; omega
          case rel => exact ⟨2, (pcq 5 P0), (pcq 5 P1), (P2 : Int), rfl, ⟨by have := HKK.out; omega⟩, ⟨blk_put (cs := #[.int .i64 (pcq 5 P0), .int .i64 (P1 : Int), .int .i64 (P2 : Int)]) BP.out 1 _ rfl⟩, ⟨.inr (.inr (.inl ⟨rfl, rfl, rfl, rfl⟩))⟩, ⟨below_set HBW.out HGE.out⟩⟩
        · clear HF
          have c0 := (blk_cell BP.out 0).trans (show _ = some (.int .i64 (pcq 5 P0)) from rfl)
          have c1 := (blk_cell BP.out 1).trans (show _ = some (.int .i64 (pcq 5 P1)) from rfl)
          have c2 := (blk_cell BP.out 2).trans (show _ = some (.int .i64 (P2 : Int)) from rfl)
          have f0 := blk_frozen BP.out 0
          have f1 := blk_frozen BP.out 1
          have f2 := blk_frozen BP.out 2
          go_wp2_with (first | ((with_reducible refine gate_dst (N := 43) rfl ?_); refine goesL_ (some 43) rfl rfl Try.func48 (by kernel_rfl) rfl #[.int .i64 ((P2 : Int) * 65535), .int .i64 4] rfl (by (try simp only [List.map_toArray, List.map_cons, List.map_nil]); first | done | rfl) ?_; (with_reducible refine (impl_near.calls ((P2 : Int) * 65535) 4 (pcq 5 P2) _ N2.out).mono ?_); rintro e W1 ⟨rfl, hD⟩; refine ⟨_, rfl, ?_⟩; have hb := hD.below; replace BP := Aside0.mk (blk_below BP.out hb); replace HBW := Aside0.mk (below_step HBW.out hb); clear hb hD c0 c1 c2 f0 f1 f2; have c0 : W1.cell? ⟨g5, 0, none⟩ = some (.int .i64 (pcq 5 P0)) := (blk_cell BP.out 0).trans rfl; have c1 : W1.cell? ⟨g5, 1, none⟩ = some (.int .i64 (pcq 5 P1)) := (blk_cell BP.out 1).trans rfl; have c2 : W1.cell? ⟨g5, 2, none⟩ = some (.int .i64 (P2 : Int)) := (blk_cell BP.out 2).trans rfl; have f0 := blk_frozen BP.out 0; have f1 := blk_frozen BP.out 1; have f2 := blk_frozen BP.out 2))
          go_roundg (gk - 1)
          case measure => have := HKK.out; omega
          case rel => exact ⟨3, (pcq 5 P0), (pcq 5 P1), (pcq 5 P2), rfl, ⟨by have := HKK.out; omega⟩, ⟨blk_put (cs := #[.int .i64 (pcq 5 P0), .int .i64 (pcq 5 P1), .int .i64 (P2 : Int)]) BP.out 2 _ rfl⟩, ⟨.inr (.inr (.inr ⟨rfl, rfl, rfl, rfl⟩))⟩, ⟨below_set HBW.out HGE.out⟩⟩
        · clear HF
          have c0 := (blk_cell BP.out 0).trans (show _ = some (.int .i64 (pcq 5 P0)) from rfl)
          have c1 := (blk_cell BP.out 1).trans (show _ = some (.int .i64 (pcq 5 P1)) from rfl)
          have c2 := (blk_cell BP.out 2).trans (show _ = some (.int .i64 (pcq 5 P2)) from rfl)
          have f0 := blk_frozen BP.out 0
          have f1 := blk_frozen BP.out 1
          have f2 := blk_frozen BP.out 2
          go_wp2_with (first | ((with_reducible refine gate_dst (N := 48) rfl ?_); refine goesL_ (some 48) rfl rfl Try.func50 (by kernel_rfl) rfl #[.agg #[.int .i64 (pcq 5 P0), .int .i64 (pcq 5 P1), .int .i64 (pcq 5 P2)]] rfl (by (try simp only [List.map_toArray, List.map_cons, List.map_nil]); first | done | rfl) ?_; (with_reducible refine (rgb_calls (pcq 5 P0) (pcq 5 P1) (pcq 5 P2) _).mono ?_); rintro e W1 ⟨rfl, hb⟩; refine ⟨_, rfl, ?_⟩; replace HBW := Aside0.mk (below_step HBW.out hb); clear hb c0 c1 c2 f0 f1 f2) | ((with_reducible refine gate_dst (N := 50) rfl ?_); at_builtin; refine Kd.R_append k63 (w0 := w) w.heap.size rfl (.tmp 46) (.tmp 49) 44 63 (.agg #[(.int .i64 0), (.int .i64 0), (.int .i64 0)]) 24 (by rfl) Try.underlying44 info63 rfl (by decide) (by omega) u3 (((List.range 125).map (pce 5)).take i) (⟨pcq 5 P0, pcq 5 P1, pcq 5 P2⟩ : S63) [.int .i64 (pcq 5 P0), .int .i64 (pcq 5 P1), .int .i64 (pcq 5 P2)] (fun _ => True) (fun _ => False) (by rfl) (by rfl) (k63_mkM _ _ _ (⟨pcq 5 P0, pcq 5 P1, pcq 5 P2⟩ : S63)) (fun _ hk => hk.elim) (fun _ _ => trivial) ?aO ?aB ?aS ?aL ?_; (case aO => exact Kd.R_below HO.out HBW.out); (case aB => exact below_step HB.out HBW.out); (case aS => exact below_size (below_step HB.out HBW.out)); (case aL => (rw [List.length_take, List.length_map, List.length_range]; have := HI.out; omega)); intro v1 w2 ho hb hg_ hat; have HO2 := Aside0.mk ho; have HB2 := Aside0.mk hb; clear ho hb hg_ hat))
          go_roundg (gkO - 1)
          case measure => have := HK.out; have := HI.out; have := HGO.out; omega
          case rel => exact ⟨i + 1, by first | rfl | simp, ⟨by have := HK.out; have := HI.out; have := HGO.out; omega⟩, ⟨by rw [HT.out, HPE.out]; exact HO2.out⟩, HB2⟩
    · have hlt : decide ((i : Int) < (125 : Int)) = false := decide_eq_false (by omega)
      have HF : Aside0 (Kd.R k63 63 wr w.heap.size (fun _ => True) u3 ((List.range 125).map (pce 5))) := ⟨by
        have h := HO.out
        rwa [List.take_of_length_le (by simp; omega)] at h⟩
      clear HK HO hi
      go_wp2
      go_ret
      exact ⟨_, rfl, HF.out, HB.out⟩
set_option maxHeartbeats 8000000 in
set_option maxRecDepth 100000 in
theorem impl_PlainCube.at6 (w : World) : Calls Try.prog 25 #[.int .i64 6] w fun e w' => ∃ v, e = .returned v ∧ Kd.R k63 63 w' w.heap.size (fun _ => True) v ((List.range 216).map (pce 6)) ∧ Below w.heap.size w w' := by
  have hu2 := Try.underlying2
  have hu63 := Try.underlying63
  have hu64 := Try.underlying64
  have hu44 := Try.underlying44
  have HB := Aside0.mk (Below.refl w.heap.size w)
  have HIN : Aside0 (impl_in.f 6 2 9 = some true) := ⟨by decide⟩
  go_enter Try.func25, Try.ntmps25
  go_wp2_with (first | ((with_reducible refine gate_dst (N := 10) rfl ?_); refine Kd.R_lit k63 w.heap.size 63 ?hg (N := 10) ?hd (xs := ([] : List (S63))) (inner := []) (ok := fun _ => True) (okp := fun _ => True) ?hr ?hp (fun _ hk => hk) trivial HB.out HB.out.size (by simp) ?_; (case hd => rfl); (case hg => rfl); (case hr => first | (go_simp; done) | (go_simp; rfl)); (case hp => exact (Reps.none _ _)); intro v103 w4 ho5 hb hg_ hnew_; replace HB := Aside0.mk hb; have HO : Aside0 (Kd.R k63 63 w4 w.heap.size (fun _ => True) v103 (((List.range 216).map (pce 6)).take 0)) := ⟨ho5⟩; clear hg_ hnew_ ho5 hb) | ((with_reducible refine gate_dst (N := 8) rfl ?_); refine goesL_ (some 8) rfl rfl Try.func31 (by kernel_rfl) rfl #[.int .i64 6, .int .i64 2, .int .i64 9] rfl (by (try simp only [List.map_toArray, List.map_cons, List.map_nil]); first | done | rfl) ?_; (with_reducible refine (impl_in.calls 6 2 9 true _ HIN.out).mono ?_); rintro e W1 ⟨rfl, hD⟩; refine ⟨_, rfl, ?_⟩; have hb := hD.below; replace HB := Aside0.mk (below_step HB.out hb); clear hb hD))
  go_loopg [3, 16] 216 (fun kq v3 v16 w' => ∃ (i : Nat), v16 = .int .i64 (i : Int) ∧ Aside0 (i + kq = 216) ∧ Aside0 (Kd.R k63 63 w' w.heap.size (fun _ => True) v3 (((List.range 216).map (pce 6)).take i)) ∧ Aside0 (Below w.heap.size w w'))
  case atStart => exact ⟨0, rfl, ⟨by omega⟩, HO, HB⟩
  case round =>
    clear HB HO
    obtain ⟨i, rfl, HK, HO, HB⟩ := hrel
    by_cases hi : i < 216
    · have hlt : decide ((i : Int) < (216 : Int)) = true := decide_eq_true (by omega)
      have hi2 : (i : Int) < (216 : Int) := by omega
      have HI := Aside0.mk hi
      have HT : Aside0 (((List.range 216).map (pce 6)).take (i + 1) = ((List.range 216).map (pce 6)).take i ++ [pce 6 i]) := ⟨by rw [List.take_succ_eq_append_getElem (by simpa using hi)]; simp⟩
      have hw2 : wrap64 36 = 36 := by unfold wrap64; omega
      have hq1 : IntKind.i64.wrap ((i : Int) / 36) = (i : Int) / 36 := by rw [i64_w]; unfold wrap64; omega
      have hq2 : IntKind.i64.wrap ((i : Int) / 6) = (i : Int) / 6 := by rw [i64_w]; unfold wrap64; omega
      clear hi
      go_upto_region 7 with (fail)
      refine start_ (n := 16) (S := fun w' => Below wr.heap.size wr w') (ds := [15]) #[false, false, false, false, false, false, false, false, false, false, false, false, false, false, false, false] (by kernel_rfl) rfl rfl (below_drew1 (Below.refl _ _)) (fun hHeld => ?_)
      generalize World.drew _ = V at hHeld ⊢
      refine pure_ (i := 0) (N := some 19) (v := ?_) (a' := ?_) #[true, false, false, false, false, false, false, false, false, false, false, false, false, false, false, false] rfl rfl (by kernel_rfl) (fun _ _ _ h => h) (Or.inl ⟨by rfl, ?_⟩) ?_ ?_
      rotate_left
      · intro w'
        go_simp
        with_reducible rfl
      rotate_left
      · simp only [Act.put, List.setIfInBounds_toArray, List.set_cons_zero, List.set_cons_succ, i64_w, i32_w]
        rfl
      refine pure_ (i := 1) (N := some 20) (v := ?_) (a' := ?_) #[true, true, false, false, false, false, false, false, false, false, false, false, false, false, false, false] rfl rfl (by kernel_rfl) (fun _ _ _ h => h) (Or.inl ⟨by rfl, ?_⟩) ?_ ?_
      rotate_left
      · intro w'
        go_simp
        with_reducible rfl
      rotate_left
      · simp only [Act.put, List.setIfInBounds_toArray, List.set_cons_zero, List.set_cons_succ, i64_w, i32_w]
        rfl
      refine pure_ (i := 2) (N := some 21) (v := ?_) (a' := ?_) #[true, true, true, false, false, false, false, false, false, false, false, false, false, false, false, false] rfl rfl (by kernel_rfl) (fun _ _ _ h => h) (Or.inl ⟨by rfl, ?_⟩) ?_ ?_
      rotate_left
      · intro w'
        go_simp
        with_reducible rfl
      rotate_left
      · simp only [Act.put, List.setIfInBounds_toArray, List.set_cons_zero, List.set_cons_succ, i64_w, i32_w]
        rfl
      refine pure_ (i := 3) (N := some 22) (v := ?_) (a' := ?_) #[true, true, true, true, false, false, false, false, false, false, false, false, false, false, false, false] rfl rfl (by kernel_rfl) (fun _ _ _ h => h) (Or.inl ⟨by rfl, ?_⟩) ?_ ?_
      rotate_left
      · intro w'
        go_simp
        with_reducible rfl
      rotate_left
      · simp only [Act.put, List.setIfInBounds_toArray, List.set_cons_zero, List.set_cons_succ, i64_w, i32_w]
        rfl
      refine pure_ (i := 4) (N := some 23) (v := ?_) (a' := ?_) #[true, true, true, true, true, false, false, false, false, false, false, false, false, false, false, false] rfl rfl (by kernel_rfl) (fun _ _ _ h => h) (Or.inl ⟨by rfl, ?_⟩) ?_ ?_
      rotate_left
      · intro w'
        go_simp
        with_reducible rfl
      rotate_left
      · simp only [Act.put, List.setIfInBounds_toArray, List.set_cons_zero, List.set_cons_succ, i64_w, i32_w]
        rfl
      refine pure_ (i := 5) (N := some 24) (v := ?_) (a' := ?_) #[true, true, true, true, true, true, false, false, false, false, false, false, false, false, false, false] rfl rfl (by kernel_rfl) (fun _ _ _ h => h) (Or.inl ⟨by rfl, ?_⟩) ?_ ?_
      rotate_left
      · intro w'
        go_simp
        with_reducible rfl
      rotate_left
      · simp only [Act.put, List.setIfInBounds_toArray, List.set_cons_zero, List.set_cons_succ, i64_w, i32_w]
        rfl
      refine pure_ (i := 6) (N := some 25) (v := ?_) (a' := ?_) #[true, true, true, true, true, true, true, false, false, false, false, false, false, false, false, false] rfl rfl (by kernel_rfl) (fun _ _ _ h => h) (Or.inl ⟨by rfl, ?_⟩) ?_ ?_
      rotate_left
      · intro w'
        go_simp
        with_reducible rfl
      rotate_left
      · simp only [Act.put, List.setIfInBounds_toArray, List.set_cons_zero, List.set_cons_succ, i64_w, i32_w]
        rfl
      refine pure_ (i := 7) (N := some 26) (v := ?_) (a' := ?_) #[true, true, true, true, true, true, true, true, false, false, false, false, false, false, false, false] rfl rfl (by kernel_rfl) (fun _ _ _ h => h) (Or.inl ⟨by rfl, ?_⟩) ?_ ?_
      rotate_left
      · intro w'
        go_simp
        with_reducible rfl
      rotate_left
      · simp only [Act.put, List.setIfInBounds_toArray, List.set_cons_zero, List.set_cons_succ, i64_w, i32_w]
        rfl
      refine pure_ (i := 8) (N := some 27) (v := ?_) (a' := ?_) #[true, true, true, true, true, true, true, true, true, false, false, false, false, false, false, false] rfl rfl (by kernel_rfl) (fun _ _ _ h => h) (Or.inl ⟨by rfl, ?_⟩) ?_ ?_
      rotate_left
      · intro w'
        go_simp
        with_reducible rfl
      rotate_left
      · simp only [Act.put, List.setIfInBounds_toArray, List.set_cons_zero, List.set_cons_succ, i64_w, i32_w]
        rfl
      refine pure_ (i := 9) (N := some 28) (v := ?_) (a' := ?_) #[true, true, true, true, true, true, true, true, true, true, false, false, false, false, false, false] rfl rfl (by kernel_rfl) (fun _ _ _ h => h) (Or.inl ⟨by rfl, ?_⟩) ?_ ?_
      rotate_left
      · intro w'
        go_simp
        with_reducible rfl
      rotate_left
      · simp only [Act.put, List.setIfInBounds_toArray, List.set_cons_zero, List.set_cons_succ, i64_w, i32_w]
        rfl
      refine pure_ (i := 10) (N := some 29) (v := ?_) (a' := ?_) #[true, true, true, true, true, true, true, true, true, true, true, false, false, false, false, false] rfl rfl (by kernel_rfl) (fun _ _ _ h => h) (Or.inl ⟨by rfl, ?_⟩) ?_ ?_
      rotate_left
      · intro w'
        go_simp
        with_reducible rfl
      rotate_left
      · simp only [Act.put, List.setIfInBounds_toArray, List.set_cons_zero, List.set_cons_succ, i64_w, i32_w]
        rfl
      refine pure_ (i := 11) (N := some 30) (v := ?_) (a' := ?_) #[true, true, true, true, true, true, true, true, true, true, true, true, false, false, false, false] rfl rfl (by kernel_rfl) (fun _ _ _ h => h) (Or.inl ⟨by rfl, ?_⟩) ?_ ?_
      rotate_left
      · intro w'
        go_simp
        with_reducible rfl
      rotate_left
      · simp only [Act.put, List.setIfInBounds_toArray, List.set_cons_zero, List.set_cons_succ, i64_w, i32_w]
        rfl
      refine pure_ (i := 12) (N := some 31) (v := ?_) (a' := ?_) #[true, true, true, true, true, true, true, true, true, true, true, true, true, false, false, false] rfl rfl (by kernel_rfl) (fun _ _ _ h => h) (Or.inl ⟨by rfl, ?_⟩) ?_ ?_
      rotate_left
      · intro w'
        go_simp
        with_reducible rfl
      rotate_left
      · simp only [Act.put, List.setIfInBounds_toArray, List.set_cons_zero, List.set_cons_succ, i64_w, i32_w]
        rfl
      refine pure_ (i := 13) (N := some 32) (v := ?_) (a' := ?_) #[true, true, true, true, true, true, true, true, true, true, true, true, true, true, false, false] rfl rfl (by kernel_rfl) (fun _ _ _ h => h) (Or.inl ⟨by rfl, ?_⟩) ?_ ?_
      rotate_left
      · intro w'
        go_simp
        with_reducible rfl
      rotate_left
      · simp only [Act.put, List.setIfInBounds_toArray, List.set_cons_zero, List.set_cons_succ, i64_w, i32_w]
        rfl
      refine one_ (i := 14) (N := some 5) #[true, true, true, true, true, true, true, true, true, true, true, true, true, true, true, false] rfl rfl (by kernel_rfl) (by decide) (fun K hK => ?_)
      refine box_step ?hg (N := 5) ?hd (cs := #[.int .i64 0, .int .i64 0, .int .i64 0]) (t := 64) ?hr ?_; (case hd => rfl); (case hg => rfl); (case hr => first | (go_simp; done) | (go_simp; rfl))
      intro g5 hg W2 hbox hb
      have hge : wr.heap.size ≤ g5 := by rw [hg]; exact hHeld.size
      replace hHeld := below_step hHeld hb
      clear hb hg
      refine hK.out _ _ hHeld (fun _ => ?_)
      clear hK K
      refine norm_ (a' := ?_) ?_ ?_
      rotate_left
      · show Act.put _ (some 5) _ = _
        simp only [Act.put, List.setIfInBounds_toArray, List.set_cons_zero, List.set_cons_succ, i64_w, i32_w]
        rfl
      refine last_ (i := 15) (N := none) #[true, true, true, true, true, true, true, true, true, true, true, true, true, true, true, true] rfl rfl (by kernel_rfl) (by decide) (fun K hK => ?_)
      have e0 : W2.cell? ⟨g5, 0, none⟩ = some (.int .i64 0) := (blk_cell hbox 0).trans rfl
      have e1 : W2.cell? ⟨g5, 1, none⟩ = some (.int .i64 0) := (blk_cell hbox 1).trans rfl
      have e2 : W2.cell? ⟨g5, 2, none⟩ = some (.int .i64 0) := (blk_cell hbox 2).trans rfl
      have e3 := blk_frozen hbox 0
      have e4 := blk_frozen hbox 1
      have e5 := blk_frozen hbox 2
      have HGE := Aside0.mk hge
      have HBO := Aside0.mk hbox
      have HBW := Aside0.mk hHeld
      clear hge hHeld hbox
      refine skip_ (w1 := ?_) (by rfl) rfl ?_ ?_
      rotate_left
      · go_simp
        rfl
      refine hK.out _ _ ?_
      clear hK K e0 e1 e2 e3 e4 e5
      refine done_ (by kernel_rfl) ?_
      obtain ⟨P0, hP0⟩ : ∃ P : Nat, P = i / 36 := ⟨_, rfl⟩
      obtain ⟨P1, hP1⟩ : ∃ P : Nat, P = i / 6 % 6 := ⟨_, rfl⟩
      obtain ⟨P2, hP2⟩ : ∃ P : Nat, P = i % 6 := ⟨_, rfl⟩
      have hb0 : P0 < 10000 := by have := HI.out; omega
      have hb1 : P1 < 10000 := by omega
      have hb2 : P2 < 10000 := by omega
      have HPE : Aside0 (pce 6 i = ⟨pcq 6 P0, pcq 6 P1, pcq 6 P2⟩) := ⟨by rw [hP0, hP1, hP2]; rfl⟩
      rw [show ((i : Int) / 6).tmod 6 = (P1 : Int) by rw [Int.tmod_eq_emod_of_nonneg (by omega)]; omega, show ((i : Int)).tmod 6 = (P2 : Int) by rw [Int.tmod_eq_emod_of_nonneg (by omega)]; omega, show (i : Int) / 36 = (P0 : Int) by omega]
      have BP : Aside0 ((((W2.setCell ⟨g5, 0, none⟩ (.int .i64 (P0 : Int))).setCell ⟨g5, 1, none⟩ (.int .i64 (P1 : Int))).setCell ⟨g5, 2, none⟩ (.int .i64 (P2 : Int))).heap[g5]? = some (.cells #[.int .i64 (P0 : Int), .int .i64 (P1 : Int), .int .i64 (P2 : Int)] 64 (0, 0))) := ⟨blk_put (cs := #[.int .i64 (P0 : Int), .int .i64 (P1 : Int), .int .i64 0]) (blk_put (cs := #[.int .i64 (P0 : Int), .int .i64 0, .int .i64 0]) (blk_put (cs := #[.int .i64 0, .int .i64 0, .int .i64 0]) HBO.out 0 _ rfl) 1 _ rfl) 2 _ rfl⟩
      replace HBW := Aside0.mk (below_set (g := g5) (j := 2) (v := .int .i64 (P2 : Int)) (below_set (g := g5) (j := 1) (v := .int .i64 (P1 : Int)) (below_set (g := g5) (j := 0) (v := .int .i64 (P0 : Int)) HBW.out HGE.out) HGE.out) HGE.out)
      generalize World.setCell _ _ _ = V3 at BP HBW ⊢
      clear HBO hP0 hP1 hP2 hq1 hq2 hw2
      have N0 : Aside0 (impl_near.f ((P0 : Int) * 65535) 5 = some (pcq 6 P0)) := ⟨near_pc 6 P0 (by omega) (by omega) hb0⟩
      have N1 : Aside0 (impl_near.f ((P1 : Int) * 65535) 5 = some (pcq 6 P1)) := ⟨near_pc 6 P1 (by omega) (by omega) hb1⟩
      have N2 : Aside0 (impl_near.f ((P2 : Int) * 65535) 5 = some (pcq 6 P2)) := ⟨near_pc 6 P2 (by omega) (by omega) hb2⟩
      obtain ⟨gkO, hgO⟩ : ∃ g : Nat, g = gk := ⟨_, rfl⟩
      have HGO := Aside0.mk hgO
      clear hgO
      go_wp2
      go_loopg [33] 3 (fun kq v33 w' => ∃ (k x y z : Int), v33 = .int .i64 k ∧ Aside0 (k + kq = 3) ∧ Aside0 (w'.heap[g5]? = some (.cells #[.int .i64 x, .int .i64 y, .int .i64 z] 64 (0, 0))) ∧ Aside0 ((k = 0 ∧ x = P0 ∧ y = P1 ∧ z = P2) ∨ (k = 1 ∧ x = pcq 6 P0 ∧ y = P1 ∧ z = P2) ∨ (k = 2 ∧ x = pcq 6 P0 ∧ y = pcq 6 P1 ∧ z = P2) ∨ (k = 3 ∧ x = pcq 6 P0 ∧ y = pcq 6 P1 ∧ z = pcq 6 P2)) ∧ Aside0 (Below wr.heap.size wr w'))
      case atStart => exact ⟨0, P0, P1, P2, rfl, ⟨by omega⟩, BP, ⟨.inl ⟨rfl, rfl, rfl, rfl⟩⟩, HBW⟩
      case round =>
        clear BP HBW
        obtain ⟨k, x, y, z, rfl, HKK, BP, HF, HBW⟩ := hrel
        rcases HF.out with ⟨rfl, rfl, rfl, rfl⟩ | ⟨rfl, rfl, rfl, rfl⟩ | ⟨rfl, rfl, rfl, rfl⟩ | ⟨rfl, rfl, rfl, rfl⟩
        · clear HF
          have c0 := (blk_cell BP.out 0).trans (show _ = some (.int .i64 (P0 : Int)) from rfl)
          have c1 := (blk_cell BP.out 1).trans (show _ = some (.int .i64 (P1 : Int)) from rfl)
          have c2 := (blk_cell BP.out 2).trans (show _ = some (.int .i64 (P2 : Int)) from rfl)
          have f0 := blk_frozen BP.out 0
          have f1 := blk_frozen BP.out 1
          have f2 := blk_frozen BP.out 2
          go_wp2_with (first | ((with_reducible refine gate_dst (N := 43) rfl ?_); refine goesL_ (some 43) rfl rfl Try.func48 (by kernel_rfl) rfl #[.int .i64 ((P0 : Int) * 65535), .int .i64 5] rfl (by (try simp only [List.map_toArray, List.map_cons, List.map_nil]); first | done | rfl) ?_; (with_reducible refine (impl_near.calls ((P0 : Int) * 65535) 5 (pcq 6 P0) _ N0.out).mono ?_); rintro e W1 ⟨rfl, hD⟩; refine ⟨_, rfl, ?_⟩; have hb := hD.below; replace BP := Aside0.mk (blk_below BP.out hb); replace HBW := Aside0.mk (below_step HBW.out hb); clear hb hD c0 c1 c2 f0 f1 f2; have c0 : W1.cell? ⟨g5, 0, none⟩ = some (.int .i64 (P0 : Int)) := (blk_cell BP.out 0).trans rfl; have c1 : W1.cell? ⟨g5, 1, none⟩ = some (.int .i64 (P1 : Int)) := (blk_cell BP.out 1).trans rfl; have c2 : W1.cell? ⟨g5, 2, none⟩ = some (.int .i64 (P2 : Int)) := (blk_cell BP.out 2).trans rfl; have f0 := blk_frozen BP.out 0; have f1 := blk_frozen BP.out 1; have f2 := blk_frozen BP.out 2))
          go_roundg (gk - 1)
          case measure => have := HKK.out; omega
          case rel => exact ⟨1, (pcq 6 P0), (P1 : Int), (P2 : Int), rfl, ⟨by have := HKK.out; omega⟩, ⟨blk_put (cs := #[.int .i64 (P0 : Int), .int .i64 (P1 : Int), .int .i64 (P2 : Int)]) BP.out 0 _ rfl⟩, ⟨.inr (.inl ⟨rfl, rfl, rfl, rfl⟩)⟩, ⟨below_set HBW.out HGE.out⟩⟩
        · clear HF
          have c0 := (blk_cell BP.out 0).trans (show _ = some (.int .i64 (pcq 6 P0)) from rfl)
          have c1 := (blk_cell BP.out 1).trans (show _ = some (.int .i64 (P1 : Int)) from rfl)
          have c2 := (blk_cell BP.out 2).trans (show _ = some (.int .i64 (P2 : Int)) from rfl)
          have f0 := blk_frozen BP.out 0
          have f1 := blk_frozen BP.out 1
          have f2 := blk_frozen BP.out 2
          go_wp2_with (first | ((with_reducible refine gate_dst (N := 43) rfl ?_); refine goesL_ (some 43) rfl rfl Try.func48 (by kernel_rfl) rfl #[.int .i64 ((P1 : Int) * 65535), .int .i64 5] rfl (by (try simp only [List.map_toArray, List.map_cons, List.map_nil]); first | done | rfl) ?_; (with_reducible refine (impl_near.calls ((P1 : Int) * 65535) 5 (pcq 6 P1) _ N1.out).mono ?_); rintro e W1 ⟨rfl, hD⟩; refine ⟨_, rfl, ?_⟩; have hb := hD.below; replace BP := Aside0.mk (blk_below BP.out hb); replace HBW := Aside0.mk (below_step HBW.out hb); clear hb hD c0 c1 c2 f0 f1 f2; have c0 : W1.cell? ⟨g5, 0, none⟩ = some (.int .i64 (pcq 6 P0)) := (blk_cell BP.out 0).trans rfl; have c1 : W1.cell? ⟨g5, 1, none⟩ = some (.int .i64 (P1 : Int)) := (blk_cell BP.out 1).trans rfl; have c2 : W1.cell? ⟨g5, 2, none⟩ = some (.int .i64 (P2 : Int)) := (blk_cell BP.out 2).trans rfl; have f0 := blk_frozen BP.out 0; have f1 := blk_frozen BP.out 1; have f2 := blk_frozen BP.out 2))
          go_roundg (gk - 1)
          case measure => have := HKK.out; omega
          case rel => exact ⟨2, (pcq 6 P0), (pcq 6 P1), (P2 : Int), rfl, ⟨by have := HKK.out; omega⟩, ⟨blk_put (cs := #[.int .i64 (pcq 6 P0), .int .i64 (P1 : Int), .int .i64 (P2 : Int)]) BP.out 1 _ rfl⟩, ⟨.inr (.inr (.inl ⟨rfl, rfl, rfl, rfl⟩))⟩, ⟨below_set HBW.out HGE.out⟩⟩
        · clear HF
          have c0 := (blk_cell BP.out 0).trans (show _ = some (.int .i64 (pcq 6 P0)) from rfl)
          have c1 := (blk_cell BP.out 1).trans (show _ = some (.int .i64 (pcq 6 P1)) from rfl)
          have c2 := (blk_cell BP.out 2).trans (show _ = some (.int .i64 (P2 : Int)) from rfl)
          have f0 := blk_frozen BP.out 0
          have f1 := blk_frozen BP.out 1
          have f2 := blk_frozen BP.out 2
          go_wp2_with (first | ((with_reducible refine gate_dst (N := 43) rfl ?_); refine goesL_ (some 43) rfl rfl Try.func48 (by kernel_rfl) rfl #[.int .i64 ((P2 : Int) * 65535), .int .i64 5] rfl (by (try simp only [List.map_toArray, List.map_cons, List.map_nil]); first | done | rfl) ?_; (with_reducible refine (impl_near.calls ((P2 : Int) * 65535) 5 (pcq 6 P2) _ N2.out).mono ?_); rintro e W1 ⟨rfl, hD⟩; refine ⟨_, rfl, ?_⟩; have hb := hD.below; replace BP := Aside0.mk (blk_below BP.out hb); replace HBW := Aside0.mk (below_step HBW.out hb); clear hb hD c0 c1 c2 f0 f1 f2; have c0 : W1.cell? ⟨g5, 0, none⟩ = some (.int .i64 (pcq 6 P0)) := (blk_cell BP.out 0).trans rfl; have c1 : W1.cell? ⟨g5, 1, none⟩ = some (.int .i64 (pcq 6 P1)) := (blk_cell BP.out 1).trans rfl; have c2 : W1.cell? ⟨g5, 2, none⟩ = some (.int .i64 (P2 : Int)) := (blk_cell BP.out 2).trans rfl; have f0 := blk_frozen BP.out 0; have f1 := blk_frozen BP.out 1; have f2 := blk_frozen BP.out 2))
          go_roundg (gk - 1)
          case measure => have := HKK.out; omega
          case rel => exact ⟨3, (pcq 6 P0), (pcq 6 P1), (pcq 6 P2), rfl, ⟨by have := HKK.out; omega⟩, ⟨blk_put (cs := #[.int .i64 (pcq 6 P0), .int .i64 (pcq 6 P1), .int .i64 (P2 : Int)]) BP.out 2 _ rfl⟩, ⟨.inr (.inr (.inr ⟨rfl, rfl, rfl, rfl⟩))⟩, ⟨below_set HBW.out HGE.out⟩⟩
        · clear HF
          have c0 := (blk_cell BP.out 0).trans (show _ = some (.int .i64 (pcq 6 P0)) from rfl)
          have c1 := (blk_cell BP.out 1).trans (show _ = some (.int .i64 (pcq 6 P1)) from rfl)
          have c2 := (blk_cell BP.out 2).trans (show _ = some (.int .i64 (pcq 6 P2)) from rfl)
          have f0 := blk_frozen BP.out 0
          have f1 := blk_frozen BP.out 1
          have f2 := blk_frozen BP.out 2
          go_wp2_with (first | ((with_reducible refine gate_dst (N := 48) rfl ?_); refine goesL_ (some 48) rfl rfl Try.func50 (by kernel_rfl) rfl #[.agg #[.int .i64 (pcq 6 P0), .int .i64 (pcq 6 P1), .int .i64 (pcq 6 P2)]] rfl (by (try simp only [List.map_toArray, List.map_cons, List.map_nil]); first | done | rfl) ?_; (with_reducible refine (rgb_calls (pcq 6 P0) (pcq 6 P1) (pcq 6 P2) _).mono ?_); rintro e W1 ⟨rfl, hb⟩; refine ⟨_, rfl, ?_⟩; replace HBW := Aside0.mk (below_step HBW.out hb); clear hb c0 c1 c2 f0 f1 f2) | ((with_reducible refine gate_dst (N := 50) rfl ?_); at_builtin; refine Kd.R_append k63 (w0 := w) w.heap.size rfl (.tmp 46) (.tmp 49) 44 63 (.agg #[(.int .i64 0), (.int .i64 0), (.int .i64 0)]) 24 (by rfl) Try.underlying44 info63 rfl (by decide) (by omega) u3 (((List.range 216).map (pce 6)).take i) (⟨pcq 6 P0, pcq 6 P1, pcq 6 P2⟩ : S63) [.int .i64 (pcq 6 P0), .int .i64 (pcq 6 P1), .int .i64 (pcq 6 P2)] (fun _ => True) (fun _ => False) (by rfl) (by rfl) (k63_mkM _ _ _ (⟨pcq 6 P0, pcq 6 P1, pcq 6 P2⟩ : S63)) (fun _ hk => hk.elim) (fun _ _ => trivial) ?aO ?aB ?aS ?aL ?_; (case aO => exact Kd.R_below HO.out HBW.out); (case aB => exact below_step HB.out HBW.out); (case aS => exact below_size (below_step HB.out HBW.out)); (case aL => (rw [List.length_take, List.length_map, List.length_range]; have := HI.out; omega)); intro v1 w2 ho hb hg_ hat; have HO2 := Aside0.mk ho; have HB2 := Aside0.mk hb; clear ho hb hg_ hat))
          go_roundg (gkO - 1)
          case measure => have := HK.out; have := HI.out; have := HGO.out; omega
          case rel => exact ⟨i + 1, by first | rfl | simp, ⟨by have := HK.out; have := HI.out; have := HGO.out; omega⟩, ⟨by rw [HT.out, HPE.out]; exact HO2.out⟩, HB2⟩
    · have hlt : decide ((i : Int) < (216 : Int)) = false := decide_eq_false (by omega)
      have HF : Aside0 (Kd.R k63 63 wr w.heap.size (fun _ => True) u3 ((List.range 216).map (pce 6))) := ⟨by
        have h := HO.out
        rwa [List.take_of_length_le (by simp; omega)] at h⟩
      clear HK HO hi
      go_wp2
      go_ret
      exact ⟨_, rfl, HF.out, HB.out⟩
set_option maxHeartbeats 8000000 in
set_option maxRecDepth 100000 in
theorem impl_PlainCube.at7 (w : World) : Calls Try.prog 25 #[.int .i64 7] w fun e w' => ∃ v, e = .returned v ∧ Kd.R k63 63 w' w.heap.size (fun _ => True) v ((List.range 343).map (pce 7)) ∧ Below w.heap.size w w' := by
  have hu2 := Try.underlying2
  have hu63 := Try.underlying63
  have hu64 := Try.underlying64
  have hu44 := Try.underlying44
  have HB := Aside0.mk (Below.refl w.heap.size w)
  have HIN : Aside0 (impl_in.f 7 2 9 = some true) := ⟨by decide⟩
  go_enter Try.func25, Try.ntmps25
  go_wp2_with (first | ((with_reducible refine gate_dst (N := 10) rfl ?_); refine Kd.R_lit k63 w.heap.size 63 ?hg (N := 10) ?hd (xs := ([] : List (S63))) (inner := []) (ok := fun _ => True) (okp := fun _ => True) ?hr ?hp (fun _ hk => hk) trivial HB.out HB.out.size (by simp) ?_; (case hd => rfl); (case hg => rfl); (case hr => first | (go_simp; done) | (go_simp; rfl)); (case hp => exact (Reps.none _ _)); intro v103 w4 ho5 hb hg_ hnew_; replace HB := Aside0.mk hb; have HO : Aside0 (Kd.R k63 63 w4 w.heap.size (fun _ => True) v103 (((List.range 343).map (pce 7)).take 0)) := ⟨ho5⟩; clear hg_ hnew_ ho5 hb) | ((with_reducible refine gate_dst (N := 8) rfl ?_); refine goesL_ (some 8) rfl rfl Try.func31 (by kernel_rfl) rfl #[.int .i64 7, .int .i64 2, .int .i64 9] rfl (by (try simp only [List.map_toArray, List.map_cons, List.map_nil]); first | done | rfl) ?_; (with_reducible refine (impl_in.calls 7 2 9 true _ HIN.out).mono ?_); rintro e W1 ⟨rfl, hD⟩; refine ⟨_, rfl, ?_⟩; have hb := hD.below; replace HB := Aside0.mk (below_step HB.out hb); clear hb hD))
  go_loopg [3, 16] 343 (fun kq v3 v16 w' => ∃ (i : Nat), v16 = .int .i64 (i : Int) ∧ Aside0 (i + kq = 343) ∧ Aside0 (Kd.R k63 63 w' w.heap.size (fun _ => True) v3 (((List.range 343).map (pce 7)).take i)) ∧ Aside0 (Below w.heap.size w w'))
  case atStart => exact ⟨0, rfl, ⟨by omega⟩, HO, HB⟩
  case round =>
    clear HB HO
    obtain ⟨i, rfl, HK, HO, HB⟩ := hrel
    by_cases hi : i < 343
    · have hlt : decide ((i : Int) < (343 : Int)) = true := decide_eq_true (by omega)
      have hi2 : (i : Int) < (343 : Int) := by omega
      have HI := Aside0.mk hi
      have HT : Aside0 (((List.range 343).map (pce 7)).take (i + 1) = ((List.range 343).map (pce 7)).take i ++ [pce 7 i]) := ⟨by rw [List.take_succ_eq_append_getElem (by simpa using hi)]; simp⟩
      have hw2 : wrap64 49 = 49 := by unfold wrap64; omega
      have hq1 : IntKind.i64.wrap ((i : Int) / 49) = (i : Int) / 49 := by rw [i64_w]; unfold wrap64; omega
      have hq2 : IntKind.i64.wrap ((i : Int) / 7) = (i : Int) / 7 := by rw [i64_w]; unfold wrap64; omega
      clear hi
      go_upto_region 7 with (fail)
      refine start_ (n := 16) (S := fun w' => Below wr.heap.size wr w') (ds := [15]) #[false, false, false, false, false, false, false, false, false, false, false, false, false, false, false, false] (by kernel_rfl) rfl rfl (below_drew1 (Below.refl _ _)) (fun hHeld => ?_)
      generalize World.drew _ = V at hHeld ⊢
      refine pure_ (i := 0) (N := some 19) (v := ?_) (a' := ?_) #[true, false, false, false, false, false, false, false, false, false, false, false, false, false, false, false] rfl rfl (by kernel_rfl) (fun _ _ _ h => h) (Or.inl ⟨by rfl, ?_⟩) ?_ ?_
      rotate_left
      · intro w'
        go_simp
        with_reducible rfl
      rotate_left
      · simp only [Act.put, List.setIfInBounds_toArray, List.set_cons_zero, List.set_cons_succ, i64_w, i32_w]
        rfl
      refine pure_ (i := 1) (N := some 20) (v := ?_) (a' := ?_) #[true, true, false, false, false, false, false, false, false, false, false, false, false, false, false, false] rfl rfl (by kernel_rfl) (fun _ _ _ h => h) (Or.inl ⟨by rfl, ?_⟩) ?_ ?_
      rotate_left
      · intro w'
        go_simp
        with_reducible rfl
      rotate_left
      · simp only [Act.put, List.setIfInBounds_toArray, List.set_cons_zero, List.set_cons_succ, i64_w, i32_w]
        rfl
      refine pure_ (i := 2) (N := some 21) (v := ?_) (a' := ?_) #[true, true, true, false, false, false, false, false, false, false, false, false, false, false, false, false] rfl rfl (by kernel_rfl) (fun _ _ _ h => h) (Or.inl ⟨by rfl, ?_⟩) ?_ ?_
      rotate_left
      · intro w'
        go_simp
        with_reducible rfl
      rotate_left
      · simp only [Act.put, List.setIfInBounds_toArray, List.set_cons_zero, List.set_cons_succ, i64_w, i32_w]
        rfl
      refine pure_ (i := 3) (N := some 22) (v := ?_) (a' := ?_) #[true, true, true, true, false, false, false, false, false, false, false, false, false, false, false, false] rfl rfl (by kernel_rfl) (fun _ _ _ h => h) (Or.inl ⟨by rfl, ?_⟩) ?_ ?_
      rotate_left
      · intro w'
        go_simp
        with_reducible rfl
      rotate_left
      · simp only [Act.put, List.setIfInBounds_toArray, List.set_cons_zero, List.set_cons_succ, i64_w, i32_w]
        rfl
      refine pure_ (i := 4) (N := some 23) (v := ?_) (a' := ?_) #[true, true, true, true, true, false, false, false, false, false, false, false, false, false, false, false] rfl rfl (by kernel_rfl) (fun _ _ _ h => h) (Or.inl ⟨by rfl, ?_⟩) ?_ ?_
      rotate_left
      · intro w'
        go_simp
        with_reducible rfl
      rotate_left
      · simp only [Act.put, List.setIfInBounds_toArray, List.set_cons_zero, List.set_cons_succ, i64_w, i32_w]
        rfl
      refine pure_ (i := 5) (N := some 24) (v := ?_) (a' := ?_) #[true, true, true, true, true, true, false, false, false, false, false, false, false, false, false, false] rfl rfl (by kernel_rfl) (fun _ _ _ h => h) (Or.inl ⟨by rfl, ?_⟩) ?_ ?_
      rotate_left
      · intro w'
        go_simp
        with_reducible rfl
      rotate_left
      · simp only [Act.put, List.setIfInBounds_toArray, List.set_cons_zero, List.set_cons_succ, i64_w, i32_w]
        rfl
      refine pure_ (i := 6) (N := some 25) (v := ?_) (a' := ?_) #[true, true, true, true, true, true, true, false, false, false, false, false, false, false, false, false] rfl rfl (by kernel_rfl) (fun _ _ _ h => h) (Or.inl ⟨by rfl, ?_⟩) ?_ ?_
      rotate_left
      · intro w'
        go_simp
        with_reducible rfl
      rotate_left
      · simp only [Act.put, List.setIfInBounds_toArray, List.set_cons_zero, List.set_cons_succ, i64_w, i32_w]
        rfl
      refine pure_ (i := 7) (N := some 26) (v := ?_) (a' := ?_) #[true, true, true, true, true, true, true, true, false, false, false, false, false, false, false, false] rfl rfl (by kernel_rfl) (fun _ _ _ h => h) (Or.inl ⟨by rfl, ?_⟩) ?_ ?_
      rotate_left
      · intro w'
        go_simp
        with_reducible rfl
      rotate_left
      · simp only [Act.put, List.setIfInBounds_toArray, List.set_cons_zero, List.set_cons_succ, i64_w, i32_w]
        rfl
      refine pure_ (i := 8) (N := some 27) (v := ?_) (a' := ?_) #[true, true, true, true, true, true, true, true, true, false, false, false, false, false, false, false] rfl rfl (by kernel_rfl) (fun _ _ _ h => h) (Or.inl ⟨by rfl, ?_⟩) ?_ ?_
      rotate_left
      · intro w'
        go_simp
        with_reducible rfl
      rotate_left
      · simp only [Act.put, List.setIfInBounds_toArray, List.set_cons_zero, List.set_cons_succ, i64_w, i32_w]
        rfl
      refine pure_ (i := 9) (N := some 28) (v := ?_) (a' := ?_) #[true, true, true, true, true, true, true, true, true, true, false, false, false, false, false, false] rfl rfl (by kernel_rfl) (fun _ _ _ h => h) (Or.inl ⟨by rfl, ?_⟩) ?_ ?_
      rotate_left
      · intro w'
        go_simp
        with_reducible rfl
      rotate_left
      · simp only [Act.put, List.setIfInBounds_toArray, List.set_cons_zero, List.set_cons_succ, i64_w, i32_w]
        rfl
      refine pure_ (i := 10) (N := some 29) (v := ?_) (a' := ?_) #[true, true, true, true, true, true, true, true, true, true, true, false, false, false, false, false] rfl rfl (by kernel_rfl) (fun _ _ _ h => h) (Or.inl ⟨by rfl, ?_⟩) ?_ ?_
      rotate_left
      · intro w'
        go_simp
        with_reducible rfl
      rotate_left
      · simp only [Act.put, List.setIfInBounds_toArray, List.set_cons_zero, List.set_cons_succ, i64_w, i32_w]
        rfl
      refine pure_ (i := 11) (N := some 30) (v := ?_) (a' := ?_) #[true, true, true, true, true, true, true, true, true, true, true, true, false, false, false, false] rfl rfl (by kernel_rfl) (fun _ _ _ h => h) (Or.inl ⟨by rfl, ?_⟩) ?_ ?_
      rotate_left
      · intro w'
        go_simp
        with_reducible rfl
      rotate_left
      · simp only [Act.put, List.setIfInBounds_toArray, List.set_cons_zero, List.set_cons_succ, i64_w, i32_w]
        rfl
      refine pure_ (i := 12) (N := some 31) (v := ?_) (a' := ?_) #[true, true, true, true, true, true, true, true, true, true, true, true, true, false, false, false] rfl rfl (by kernel_rfl) (fun _ _ _ h => h) (Or.inl ⟨by rfl, ?_⟩) ?_ ?_
      rotate_left
      · intro w'
        go_simp
        with_reducible rfl
      rotate_left
      · simp only [Act.put, List.setIfInBounds_toArray, List.set_cons_zero, List.set_cons_succ, i64_w, i32_w]
        rfl
      refine pure_ (i := 13) (N := some 32) (v := ?_) (a' := ?_) #[true, true, true, true, true, true, true, true, true, true, true, true, true, true, false, false] rfl rfl (by kernel_rfl) (fun _ _ _ h => h) (Or.inl ⟨by rfl, ?_⟩) ?_ ?_
      rotate_left
      · intro w'
        go_simp
        with_reducible rfl
      rotate_left
      · simp only [Act.put, List.setIfInBounds_toArray, List.set_cons_zero, List.set_cons_succ, i64_w, i32_w]
        rfl
      refine one_ (i := 14) (N := some 5) #[true, true, true, true, true, true, true, true, true, true, true, true, true, true, true, false] rfl rfl (by kernel_rfl) (by decide) (fun K hK => ?_)
      refine box_step ?hg (N := 5) ?hd (cs := #[.int .i64 0, .int .i64 0, .int .i64 0]) (t := 64) ?hr ?_; (case hd => rfl); (case hg => rfl); (case hr => first | (go_simp; done) | (go_simp; rfl))
      intro g5 hg W2 hbox hb
      have hge : wr.heap.size ≤ g5 := by rw [hg]; exact hHeld.size
      replace hHeld := below_step hHeld hb
      clear hb hg
      refine hK.out _ _ hHeld (fun _ => ?_)
      clear hK K
      refine norm_ (a' := ?_) ?_ ?_
      rotate_left
      · show Act.put _ (some 5) _ = _
        simp only [Act.put, List.setIfInBounds_toArray, List.set_cons_zero, List.set_cons_succ, i64_w, i32_w]
        rfl
      refine last_ (i := 15) (N := none) #[true, true, true, true, true, true, true, true, true, true, true, true, true, true, true, true] rfl rfl (by kernel_rfl) (by decide) (fun K hK => ?_)
      have e0 : W2.cell? ⟨g5, 0, none⟩ = some (.int .i64 0) := (blk_cell hbox 0).trans rfl
      have e1 : W2.cell? ⟨g5, 1, none⟩ = some (.int .i64 0) := (blk_cell hbox 1).trans rfl
      have e2 : W2.cell? ⟨g5, 2, none⟩ = some (.int .i64 0) := (blk_cell hbox 2).trans rfl
      have e3 := blk_frozen hbox 0
      have e4 := blk_frozen hbox 1
      have e5 := blk_frozen hbox 2
      have HGE := Aside0.mk hge
      have HBO := Aside0.mk hbox
      have HBW := Aside0.mk hHeld
      clear hge hHeld hbox
      refine skip_ (w1 := ?_) (by rfl) rfl ?_ ?_
      rotate_left
      · go_simp
        rfl
      refine hK.out _ _ ?_
      clear hK K e0 e1 e2 e3 e4 e5
      refine done_ (by kernel_rfl) ?_
      obtain ⟨P0, hP0⟩ : ∃ P : Nat, P = i / 49 := ⟨_, rfl⟩
      obtain ⟨P1, hP1⟩ : ∃ P : Nat, P = i / 7 % 7 := ⟨_, rfl⟩
      obtain ⟨P2, hP2⟩ : ∃ P : Nat, P = i % 7 := ⟨_, rfl⟩
      have hb0 : P0 < 10000 := by have := HI.out; omega
      have hb1 : P1 < 10000 := by omega
      have hb2 : P2 < 10000 := by omega
      have HPE : Aside0 (pce 7 i = ⟨pcq 7 P0, pcq 7 P1, pcq 7 P2⟩) := ⟨by rw [hP0, hP1, hP2]; rfl⟩
      rw [show ((i : Int) / 7).tmod 7 = (P1 : Int) by rw [Int.tmod_eq_emod_of_nonneg (by omega)]; omega, show ((i : Int)).tmod 7 = (P2 : Int) by rw [Int.tmod_eq_emod_of_nonneg (by omega)]; omega, show (i : Int) / 49 = (P0 : Int) by omega]
      have BP : Aside0 ((((W2.setCell ⟨g5, 0, none⟩ (.int .i64 (P0 : Int))).setCell ⟨g5, 1, none⟩ (.int .i64 (P1 : Int))).setCell ⟨g5, 2, none⟩ (.int .i64 (P2 : Int))).heap[g5]? = some (.cells #[.int .i64 (P0 : Int), .int .i64 (P1 : Int), .int .i64 (P2 : Int)] 64 (0, 0))) := ⟨blk_put (cs := #[.int .i64 (P0 : Int), .int .i64 (P1 : Int), .int .i64 0]) (blk_put (cs := #[.int .i64 (P0 : Int), .int .i64 0, .int .i64 0]) (blk_put (cs := #[.int .i64 0, .int .i64 0, .int .i64 0]) HBO.out 0 _ rfl) 1 _ rfl) 2 _ rfl⟩
      replace HBW := Aside0.mk (below_set (g := g5) (j := 2) (v := .int .i64 (P2 : Int)) (below_set (g := g5) (j := 1) (v := .int .i64 (P1 : Int)) (below_set (g := g5) (j := 0) (v := .int .i64 (P0 : Int)) HBW.out HGE.out) HGE.out) HGE.out)
      generalize World.setCell _ _ _ = V3 at BP HBW ⊢
      clear HBO hP0 hP1 hP2 hq1 hq2 hw2
      have N0 : Aside0 (impl_near.f ((P0 : Int) * 65535) 6 = some (pcq 7 P0)) := ⟨near_pc 7 P0 (by omega) (by omega) hb0⟩
      have N1 : Aside0 (impl_near.f ((P1 : Int) * 65535) 6 = some (pcq 7 P1)) := ⟨near_pc 7 P1 (by omega) (by omega) hb1⟩
      have N2 : Aside0 (impl_near.f ((P2 : Int) * 65535) 6 = some (pcq 7 P2)) := ⟨near_pc 7 P2 (by omega) (by omega) hb2⟩
      obtain ⟨gkO, hgO⟩ : ∃ g : Nat, g = gk := ⟨_, rfl⟩
      have HGO := Aside0.mk hgO
      clear hgO
      go_wp2
      go_loopg [33] 3 (fun kq v33 w' => ∃ (k x y z : Int), v33 = .int .i64 k ∧ Aside0 (k + kq = 3) ∧ Aside0 (w'.heap[g5]? = some (.cells #[.int .i64 x, .int .i64 y, .int .i64 z] 64 (0, 0))) ∧ Aside0 ((k = 0 ∧ x = P0 ∧ y = P1 ∧ z = P2) ∨ (k = 1 ∧ x = pcq 7 P0 ∧ y = P1 ∧ z = P2) ∨ (k = 2 ∧ x = pcq 7 P0 ∧ y = pcq 7 P1 ∧ z = P2) ∨ (k = 3 ∧ x = pcq 7 P0 ∧ y = pcq 7 P1 ∧ z = pcq 7 P2)) ∧ Aside0 (Below wr.heap.size wr w'))
      case atStart => exact ⟨0, P0, P1, P2, rfl, ⟨by omega⟩, BP, ⟨.inl ⟨rfl, rfl, rfl, rfl⟩⟩, HBW⟩
      case round =>
        clear BP HBW
        obtain ⟨k, x, y, z, rfl, HKK, BP, HF, HBW⟩ := hrel
        rcases HF.out with ⟨rfl, rfl, rfl, rfl⟩ | ⟨rfl, rfl, rfl, rfl⟩ | ⟨rfl, rfl, rfl, rfl⟩ | ⟨rfl, rfl, rfl, rfl⟩
        · clear HF
          have c0 := (blk_cell BP.out 0).trans (show _ = some (.int .i64 (P0 : Int)) from rfl)
          have c1 := (blk_cell BP.out 1).trans (show _ = some (.int .i64 (P1 : Int)) from rfl)
          have c2 := (blk_cell BP.out 2).trans (show _ = some (.int .i64 (P2 : Int)) from rfl)
          have f0 := blk_frozen BP.out 0
          have f1 := blk_frozen BP.out 1
          have f2 := blk_frozen BP.out 2
          go_wp2_with (first | ((with_reducible refine gate_dst (N := 43) rfl ?_); refine goesL_ (some 43) rfl rfl Try.func48 (by kernel_rfl) rfl #[.int .i64 ((P0 : Int) * 65535), .int .i64 6] rfl (by (try simp only [List.map_toArray, List.map_cons, List.map_nil]); first | done | rfl) ?_; (with_reducible refine (impl_near.calls ((P0 : Int) * 65535) 6 (pcq 7 P0) _ N0.out).mono ?_); rintro e W1 ⟨rfl, hD⟩; refine ⟨_, rfl, ?_⟩; have hb := hD.below; replace BP := Aside0.mk (blk_below BP.out hb); replace HBW := Aside0.mk (below_step HBW.out hb); clear hb hD c0 c1 c2 f0 f1 f2; have c0 : W1.cell? ⟨g5, 0, none⟩ = some (.int .i64 (P0 : Int)) := (blk_cell BP.out 0).trans rfl; have c1 : W1.cell? ⟨g5, 1, none⟩ = some (.int .i64 (P1 : Int)) := (blk_cell BP.out 1).trans rfl; have c2 : W1.cell? ⟨g5, 2, none⟩ = some (.int .i64 (P2 : Int)) := (blk_cell BP.out 2).trans rfl; have f0 := blk_frozen BP.out 0; have f1 := blk_frozen BP.out 1; have f2 := blk_frozen BP.out 2))
          go_roundg (gk - 1)
          case measure => have := HKK.out; omega
          case rel => exact ⟨1, (pcq 7 P0), (P1 : Int), (P2 : Int), rfl, ⟨by have := HKK.out; omega⟩, ⟨blk_put (cs := #[.int .i64 (P0 : Int), .int .i64 (P1 : Int), .int .i64 (P2 : Int)]) BP.out 0 _ rfl⟩, ⟨.inr (.inl ⟨rfl, rfl, rfl, rfl⟩)⟩, ⟨below_set HBW.out HGE.out⟩⟩
        · clear HF
          have c0 := (blk_cell BP.out 0).trans (show _ = some (.int .i64 (pcq 7 P0)) from rfl)
          have c1 := (blk_cell BP.out 1).trans (show _ = some (.int .i64 (P1 : Int)) from rfl)
          have c2 := (blk_cell BP.out 2).trans (show _ = some (.int .i64 (P2 : Int)) from rfl)
          have f0 := blk_frozen BP.out 0
          have f1 := blk_frozen BP.out 1
          have f2 := blk_frozen BP.out 2
          go_wp2_with (first | ((with_reducible refine gate_dst (N := 43) rfl ?_); refine goesL_ (some 43) rfl rfl Try.func48 (by kernel_rfl) rfl #[.int .i64 ((P1 : Int) * 65535), .int .i64 6] rfl (by (try simp only [List.map_toArray, List.map_cons, List.map_nil]); first | done | rfl) ?_; (with_reducible refine (impl_near.calls ((P1 : Int) * 65535) 6 (pcq 7 P1) _ N1.out).mono ?_); rintro e W1 ⟨rfl, hD⟩; refine ⟨_, rfl, ?_⟩; have hb := hD.below; replace BP := Aside0.mk (blk_below BP.out hb); replace HBW := Aside0.mk (below_step HBW.out hb); clear hb hD c0 c1 c2 f0 f1 f2; have c0 : W1.cell? ⟨g5, 0, none⟩ = some (.int .i64 (pcq 7 P0)) := (blk_cell BP.out 0).trans rfl; have c1 : W1.cell? ⟨g5, 1, none⟩ = some (.int .i64 (P1 : Int)) := (blk_cell BP.out 1).trans rfl; have c2 : W1.cell? ⟨g5, 2, none⟩ = some (.int .i64 (P2 : Int)) := (blk_cell BP.out 2).trans rfl; have f0 := blk_frozen BP.out 0; have f1 := blk_frozen BP.out 1; have f2 := blk_frozen BP.out 2))
          go_roundg (gk - 1)
          case measure => have := HKK.out; omega
          case rel => exact ⟨2, (pcq 7 P0), (pcq 7 P1), (P2 : Int), rfl, ⟨by have := HKK.out; omega⟩, ⟨blk_put (cs := #[.int .i64 (pcq 7 P0), .int .i64 (P1 : Int), .int .i64 (P2 : Int)]) BP.out 1 _ rfl⟩, ⟨.inr (.inr (.inl ⟨rfl, rfl, rfl, rfl⟩))⟩, ⟨below_set HBW.out HGE.out⟩⟩
        · clear HF
          have c0 := (blk_cell BP.out 0).trans (show _ = some (.int .i64 (pcq 7 P0)) from rfl)
          have c1 := (blk_cell BP.out 1).trans (show _ = some (.int .i64 (pcq 7 P1)) from rfl)
          have c2 := (blk_cell BP.out 2).trans (show _ = some (.int .i64 (P2 : Int)) from rfl)
          have f0 := blk_frozen BP.out 0
          have f1 := blk_frozen BP.out 1
          have f2 := blk_frozen BP.out 2
          go_wp2_with (first | ((with_reducible refine gate_dst (N := 43) rfl ?_); refine goesL_ (some 43) rfl rfl Try.func48 (by kernel_rfl) rfl #[.int .i64 ((P2 : Int) * 65535), .int .i64 6] rfl (by (try simp only [List.map_toArray, List.map_cons, List.map_nil]); first | done | rfl) ?_; (with_reducible refine (impl_near.calls ((P2 : Int) * 65535) 6 (pcq 7 P2) _ N2.out).mono ?_); rintro e W1 ⟨rfl, hD⟩; refine ⟨_, rfl, ?_⟩; have hb := hD.below; replace BP := Aside0.mk (blk_below BP.out hb); replace HBW := Aside0.mk (below_step HBW.out hb); clear hb hD c0 c1 c2 f0 f1 f2; have c0 : W1.cell? ⟨g5, 0, none⟩ = some (.int .i64 (pcq 7 P0)) := (blk_cell BP.out 0).trans rfl; have c1 : W1.cell? ⟨g5, 1, none⟩ = some (.int .i64 (pcq 7 P1)) := (blk_cell BP.out 1).trans rfl; have c2 : W1.cell? ⟨g5, 2, none⟩ = some (.int .i64 (P2 : Int)) := (blk_cell BP.out 2).trans rfl; have f0 := blk_frozen BP.out 0; have f1 := blk_frozen BP.out 1; have f2 := blk_frozen BP.out 2))
          go_roundg (gk - 1)
          case measure => have := HKK.out; omega
          case rel => exact ⟨3, (pcq 7 P0), (pcq 7 P1), (pcq 7 P2), rfl, ⟨by have := HKK.out; omega⟩, ⟨blk_put (cs := #[.int .i64 (pcq 7 P0), .int .i64 (pcq 7 P1), .int .i64 (P2 : Int)]) BP.out 2 _ rfl⟩, ⟨.inr (.inr (.inr ⟨rfl, rfl, rfl, rfl⟩))⟩, ⟨below_set HBW.out HGE.out⟩⟩
        · clear HF
          have c0 := (blk_cell BP.out 0).trans (show _ = some (.int .i64 (pcq 7 P0)) from rfl)
          have c1 := (blk_cell BP.out 1).trans (show _ = some (.int .i64 (pcq 7 P1)) from rfl)
          have c2 := (blk_cell BP.out 2).trans (show _ = some (.int .i64 (pcq 7 P2)) from rfl)
          have f0 := blk_frozen BP.out 0
          have f1 := blk_frozen BP.out 1
          have f2 := blk_frozen BP.out 2
          go_wp2_with (first | ((with_reducible refine gate_dst (N := 48) rfl ?_); refine goesL_ (some 48) rfl rfl Try.func50 (by kernel_rfl) rfl #[.agg #[.int .i64 (pcq 7 P0), .int .i64 (pcq 7 P1), .int .i64 (pcq 7 P2)]] rfl (by (try simp only [List.map_toArray, List.map_cons, List.map_nil]); first | done | rfl) ?_; (with_reducible refine (rgb_calls (pcq 7 P0) (pcq 7 P1) (pcq 7 P2) _).mono ?_); rintro e W1 ⟨rfl, hb⟩; refine ⟨_, rfl, ?_⟩; replace HBW := Aside0.mk (below_step HBW.out hb); clear hb c0 c1 c2 f0 f1 f2) | ((with_reducible refine gate_dst (N := 50) rfl ?_); at_builtin; refine Kd.R_append k63 (w0 := w) w.heap.size rfl (.tmp 46) (.tmp 49) 44 63 (.agg #[(.int .i64 0), (.int .i64 0), (.int .i64 0)]) 24 (by rfl) Try.underlying44 info63 rfl (by decide) (by omega) u3 (((List.range 343).map (pce 7)).take i) (⟨pcq 7 P0, pcq 7 P1, pcq 7 P2⟩ : S63) [.int .i64 (pcq 7 P0), .int .i64 (pcq 7 P1), .int .i64 (pcq 7 P2)] (fun _ => True) (fun _ => False) (by rfl) (by rfl) (k63_mkM _ _ _ (⟨pcq 7 P0, pcq 7 P1, pcq 7 P2⟩ : S63)) (fun _ hk => hk.elim) (fun _ _ => trivial) ?aO ?aB ?aS ?aL ?_; (case aO => exact Kd.R_below HO.out HBW.out); (case aB => exact below_step HB.out HBW.out); (case aS => exact below_size (below_step HB.out HBW.out)); (case aL => (rw [List.length_take, List.length_map, List.length_range]; have := HI.out; omega)); intro v1 w2 ho hb hg_ hat; have HO2 := Aside0.mk ho; have HB2 := Aside0.mk hb; clear ho hb hg_ hat))
          go_roundg (gkO - 1)
          case measure => have := HK.out; have := HI.out; have := HGO.out; omega
          case rel => exact ⟨i + 1, by first | rfl | simp, ⟨by have := HK.out; have := HI.out; have := HGO.out; omega⟩, ⟨by rw [HT.out, HPE.out]; exact HO2.out⟩, HB2⟩
    · have hlt : decide ((i : Int) < (343 : Int)) = false := decide_eq_false (by omega)
      have HF : Aside0 (Kd.R k63 63 wr w.heap.size (fun _ => True) u3 ((List.range 343).map (pce 7))) := ⟨by
        have h := HO.out
        rwa [List.take_of_length_le (by simp; omega)] at h⟩
      clear HK HO hi
      go_wp2
      go_ret
      exact ⟨_, rfl, HF.out, HB.out⟩
set_option maxHeartbeats 8000000 in
set_option maxRecDepth 100000 in
theorem impl_PlainCube.at8 (w : World) : Calls Try.prog 25 #[.int .i64 8] w fun e w' => ∃ v, e = .returned v ∧ Kd.R k63 63 w' w.heap.size (fun _ => True) v ((List.range 512).map (pce 8)) ∧ Below w.heap.size w w' := by
  have hu2 := Try.underlying2
  have hu63 := Try.underlying63
  have hu64 := Try.underlying64
  have hu44 := Try.underlying44
  have HB := Aside0.mk (Below.refl w.heap.size w)
  have HIN : Aside0 (impl_in.f 8 2 9 = some true) := ⟨by decide⟩
  go_enter Try.func25, Try.ntmps25
  go_wp2_with (first | ((with_reducible refine gate_dst (N := 10) rfl ?_); refine Kd.R_lit k63 w.heap.size 63 ?hg (N := 10) ?hd (xs := ([] : List (S63))) (inner := []) (ok := fun _ => True) (okp := fun _ => True) ?hr ?hp (fun _ hk => hk) trivial HB.out HB.out.size (by simp) ?_; (case hd => rfl); (case hg => rfl); (case hr => first | (go_simp; done) | (go_simp; rfl)); (case hp => exact (Reps.none _ _)); intro v103 w4 ho5 hb hg_ hnew_; replace HB := Aside0.mk hb; have HO : Aside0 (Kd.R k63 63 w4 w.heap.size (fun _ => True) v103 (((List.range 512).map (pce 8)).take 0)) := ⟨ho5⟩; clear hg_ hnew_ ho5 hb) | ((with_reducible refine gate_dst (N := 8) rfl ?_); refine goesL_ (some 8) rfl rfl Try.func31 (by kernel_rfl) rfl #[.int .i64 8, .int .i64 2, .int .i64 9] rfl (by (try simp only [List.map_toArray, List.map_cons, List.map_nil]); first | done | rfl) ?_; (with_reducible refine (impl_in.calls 8 2 9 true _ HIN.out).mono ?_); rintro e W1 ⟨rfl, hD⟩; refine ⟨_, rfl, ?_⟩; have hb := hD.below; replace HB := Aside0.mk (below_step HB.out hb); clear hb hD))
  go_loopg [3, 16] 512 (fun kq v3 v16 w' => ∃ (i : Nat), v16 = .int .i64 (i : Int) ∧ Aside0 (i + kq = 512) ∧ Aside0 (Kd.R k63 63 w' w.heap.size (fun _ => True) v3 (((List.range 512).map (pce 8)).take i)) ∧ Aside0 (Below w.heap.size w w'))
  case atStart => exact ⟨0, rfl, ⟨by omega⟩, HO, HB⟩
  case round =>
    clear HB HO
    obtain ⟨i, rfl, HK, HO, HB⟩ := hrel
    by_cases hi : i < 512
    · have hlt : decide ((i : Int) < (512 : Int)) = true := decide_eq_true (by omega)
      have hi2 : (i : Int) < (512 : Int) := by omega
      have HI := Aside0.mk hi
      have HT : Aside0 (((List.range 512).map (pce 8)).take (i + 1) = ((List.range 512).map (pce 8)).take i ++ [pce 8 i]) := ⟨by rw [List.take_succ_eq_append_getElem (by simpa using hi)]; simp⟩
      have hw2 : wrap64 64 = 64 := by unfold wrap64; omega
      have hq1 : IntKind.i64.wrap ((i : Int) / 64) = (i : Int) / 64 := by rw [i64_w]; unfold wrap64; omega
      have hq2 : IntKind.i64.wrap ((i : Int) / 8) = (i : Int) / 8 := by rw [i64_w]; unfold wrap64; omega
      clear hi
      go_upto_region 7 with (fail)
      refine start_ (n := 16) (S := fun w' => Below wr.heap.size wr w') (ds := [15]) #[false, false, false, false, false, false, false, false, false, false, false, false, false, false, false, false] (by kernel_rfl) rfl rfl (below_drew1 (Below.refl _ _)) (fun hHeld => ?_)
      generalize World.drew _ = V at hHeld ⊢
      refine pure_ (i := 0) (N := some 19) (v := ?_) (a' := ?_) #[true, false, false, false, false, false, false, false, false, false, false, false, false, false, false, false] rfl rfl (by kernel_rfl) (fun _ _ _ h => h) (Or.inl ⟨by rfl, ?_⟩) ?_ ?_
      rotate_left
      · intro w'
        go_simp
        with_reducible rfl
      rotate_left
      · simp only [Act.put, List.setIfInBounds_toArray, List.set_cons_zero, List.set_cons_succ, i64_w, i32_w]
        rfl
      refine pure_ (i := 1) (N := some 20) (v := ?_) (a' := ?_) #[true, true, false, false, false, false, false, false, false, false, false, false, false, false, false, false] rfl rfl (by kernel_rfl) (fun _ _ _ h => h) (Or.inl ⟨by rfl, ?_⟩) ?_ ?_
      rotate_left
      · intro w'
        go_simp
        with_reducible rfl
      rotate_left
      · simp only [Act.put, List.setIfInBounds_toArray, List.set_cons_zero, List.set_cons_succ, i64_w, i32_w]
        rfl
      refine pure_ (i := 2) (N := some 21) (v := ?_) (a' := ?_) #[true, true, true, false, false, false, false, false, false, false, false, false, false, false, false, false] rfl rfl (by kernel_rfl) (fun _ _ _ h => h) (Or.inl ⟨by rfl, ?_⟩) ?_ ?_
      rotate_left
      · intro w'
        go_simp
        with_reducible rfl
      rotate_left
      · simp only [Act.put, List.setIfInBounds_toArray, List.set_cons_zero, List.set_cons_succ, i64_w, i32_w]
        rfl
      refine pure_ (i := 3) (N := some 22) (v := ?_) (a' := ?_) #[true, true, true, true, false, false, false, false, false, false, false, false, false, false, false, false] rfl rfl (by kernel_rfl) (fun _ _ _ h => h) (Or.inl ⟨by rfl, ?_⟩) ?_ ?_
      rotate_left
      · intro w'
        go_simp
        with_reducible rfl
      rotate_left
      · simp only [Act.put, List.setIfInBounds_toArray, List.set_cons_zero, List.set_cons_succ, i64_w, i32_w]
        rfl
      refine pure_ (i := 4) (N := some 23) (v := ?_) (a' := ?_) #[true, true, true, true, true, false, false, false, false, false, false, false, false, false, false, false] rfl rfl (by kernel_rfl) (fun _ _ _ h => h) (Or.inl ⟨by rfl, ?_⟩) ?_ ?_
      rotate_left
      · intro w'
        go_simp
        with_reducible rfl
      rotate_left
      · simp only [Act.put, List.setIfInBounds_toArray, List.set_cons_zero, List.set_cons_succ, i64_w, i32_w]
        rfl
      refine pure_ (i := 5) (N := some 24) (v := ?_) (a' := ?_) #[true, true, true, true, true, true, false, false, false, false, false, false, false, false, false, false] rfl rfl (by kernel_rfl) (fun _ _ _ h => h) (Or.inl ⟨by rfl, ?_⟩) ?_ ?_
      rotate_left
      · intro w'
        go_simp
        with_reducible rfl
      rotate_left
      · simp only [Act.put, List.setIfInBounds_toArray, List.set_cons_zero, List.set_cons_succ, i64_w, i32_w]
        rfl
      refine pure_ (i := 6) (N := some 25) (v := ?_) (a' := ?_) #[true, true, true, true, true, true, true, false, false, false, false, false, false, false, false, false] rfl rfl (by kernel_rfl) (fun _ _ _ h => h) (Or.inl ⟨by rfl, ?_⟩) ?_ ?_
      rotate_left
      · intro w'
        go_simp
        with_reducible rfl
      rotate_left
      · simp only [Act.put, List.setIfInBounds_toArray, List.set_cons_zero, List.set_cons_succ, i64_w, i32_w]
        rfl
      refine pure_ (i := 7) (N := some 26) (v := ?_) (a' := ?_) #[true, true, true, true, true, true, true, true, false, false, false, false, false, false, false, false] rfl rfl (by kernel_rfl) (fun _ _ _ h => h) (Or.inl ⟨by rfl, ?_⟩) ?_ ?_
      rotate_left
      · intro w'
        go_simp
        with_reducible rfl
      rotate_left
      · simp only [Act.put, List.setIfInBounds_toArray, List.set_cons_zero, List.set_cons_succ, i64_w, i32_w]
        rfl
      refine pure_ (i := 8) (N := some 27) (v := ?_) (a' := ?_) #[true, true, true, true, true, true, true, true, true, false, false, false, false, false, false, false] rfl rfl (by kernel_rfl) (fun _ _ _ h => h) (Or.inl ⟨by rfl, ?_⟩) ?_ ?_
      rotate_left
      · intro w'
        go_simp
        with_reducible rfl
      rotate_left
      · simp only [Act.put, List.setIfInBounds_toArray, List.set_cons_zero, List.set_cons_succ, i64_w, i32_w]
        rfl
      refine pure_ (i := 9) (N := some 28) (v := ?_) (a' := ?_) #[true, true, true, true, true, true, true, true, true, true, false, false, false, false, false, false] rfl rfl (by kernel_rfl) (fun _ _ _ h => h) (Or.inl ⟨by rfl, ?_⟩) ?_ ?_
      rotate_left
      · intro w'
        go_simp
        with_reducible rfl
      rotate_left
      · simp only [Act.put, List.setIfInBounds_toArray, List.set_cons_zero, List.set_cons_succ, i64_w, i32_w]
        rfl
      refine pure_ (i := 10) (N := some 29) (v := ?_) (a' := ?_) #[true, true, true, true, true, true, true, true, true, true, true, false, false, false, false, false] rfl rfl (by kernel_rfl) (fun _ _ _ h => h) (Or.inl ⟨by rfl, ?_⟩) ?_ ?_
      rotate_left
      · intro w'
        go_simp
        with_reducible rfl
      rotate_left
      · simp only [Act.put, List.setIfInBounds_toArray, List.set_cons_zero, List.set_cons_succ, i64_w, i32_w]
        rfl
      refine pure_ (i := 11) (N := some 30) (v := ?_) (a' := ?_) #[true, true, true, true, true, true, true, true, true, true, true, true, false, false, false, false] rfl rfl (by kernel_rfl) (fun _ _ _ h => h) (Or.inl ⟨by rfl, ?_⟩) ?_ ?_
      rotate_left
      · intro w'
        go_simp
        with_reducible rfl
      rotate_left
      · simp only [Act.put, List.setIfInBounds_toArray, List.set_cons_zero, List.set_cons_succ, i64_w, i32_w]
        rfl
      refine pure_ (i := 12) (N := some 31) (v := ?_) (a' := ?_) #[true, true, true, true, true, true, true, true, true, true, true, true, true, false, false, false] rfl rfl (by kernel_rfl) (fun _ _ _ h => h) (Or.inl ⟨by rfl, ?_⟩) ?_ ?_
      rotate_left
      · intro w'
        go_simp
        with_reducible rfl
      rotate_left
      · simp only [Act.put, List.setIfInBounds_toArray, List.set_cons_zero, List.set_cons_succ, i64_w, i32_w]
        rfl
      refine pure_ (i := 13) (N := some 32) (v := ?_) (a' := ?_) #[true, true, true, true, true, true, true, true, true, true, true, true, true, true, false, false] rfl rfl (by kernel_rfl) (fun _ _ _ h => h) (Or.inl ⟨by rfl, ?_⟩) ?_ ?_
      rotate_left
      · intro w'
        go_simp
        with_reducible rfl
      rotate_left
      · simp only [Act.put, List.setIfInBounds_toArray, List.set_cons_zero, List.set_cons_succ, i64_w, i32_w]
        rfl
      refine one_ (i := 14) (N := some 5) #[true, true, true, true, true, true, true, true, true, true, true, true, true, true, true, false] rfl rfl (by kernel_rfl) (by decide) (fun K hK => ?_)
      refine box_step ?hg (N := 5) ?hd (cs := #[.int .i64 0, .int .i64 0, .int .i64 0]) (t := 64) ?hr ?_; (case hd => rfl); (case hg => rfl); (case hr => first | (go_simp; done) | (go_simp; rfl))
      intro g5 hg W2 hbox hb
      have hge : wr.heap.size ≤ g5 := by rw [hg]; exact hHeld.size
      replace hHeld := below_step hHeld hb
      clear hb hg
      refine hK.out _ _ hHeld (fun _ => ?_)
      clear hK K
      refine norm_ (a' := ?_) ?_ ?_
      rotate_left
      · show Act.put _ (some 5) _ = _
        simp only [Act.put, List.setIfInBounds_toArray, List.set_cons_zero, List.set_cons_succ, i64_w, i32_w]
        rfl
      refine last_ (i := 15) (N := none) #[true, true, true, true, true, true, true, true, true, true, true, true, true, true, true, true] rfl rfl (by kernel_rfl) (by decide) (fun K hK => ?_)
      have e0 : W2.cell? ⟨g5, 0, none⟩ = some (.int .i64 0) := (blk_cell hbox 0).trans rfl
      have e1 : W2.cell? ⟨g5, 1, none⟩ = some (.int .i64 0) := (blk_cell hbox 1).trans rfl
      have e2 : W2.cell? ⟨g5, 2, none⟩ = some (.int .i64 0) := (blk_cell hbox 2).trans rfl
      have e3 := blk_frozen hbox 0
      have e4 := blk_frozen hbox 1
      have e5 := blk_frozen hbox 2
      have HGE := Aside0.mk hge
      have HBO := Aside0.mk hbox
      have HBW := Aside0.mk hHeld
      clear hge hHeld hbox
      refine skip_ (w1 := ?_) (by rfl) rfl ?_ ?_
      rotate_left
      · go_simp
        rfl
      refine hK.out _ _ ?_
      clear hK K e0 e1 e2 e3 e4 e5
      refine done_ (by kernel_rfl) ?_
      obtain ⟨P0, hP0⟩ : ∃ P : Nat, P = i / 64 := ⟨_, rfl⟩
      obtain ⟨P1, hP1⟩ : ∃ P : Nat, P = i / 8 % 8 := ⟨_, rfl⟩
      obtain ⟨P2, hP2⟩ : ∃ P : Nat, P = i % 8 := ⟨_, rfl⟩
      have hb0 : P0 < 10000 := by have := HI.out; omega
      have hb1 : P1 < 10000 := by omega
      have hb2 : P2 < 10000 := by omega
      have HPE : Aside0 (pce 8 i = ⟨pcq 8 P0, pcq 8 P1, pcq 8 P2⟩) := ⟨by rw [hP0, hP1, hP2]; rfl⟩
      rw [show ((i : Int) / 8).tmod 8 = (P1 : Int) by rw [Int.tmod_eq_emod_of_nonneg (by omega)]; omega, show ((i : Int)).tmod 8 = (P2 : Int) by rw [Int.tmod_eq_emod_of_nonneg (by omega)]; omega, show (i : Int) / 64 = (P0 : Int) by omega]
      have BP : Aside0 ((((W2.setCell ⟨g5, 0, none⟩ (.int .i64 (P0 : Int))).setCell ⟨g5, 1, none⟩ (.int .i64 (P1 : Int))).setCell ⟨g5, 2, none⟩ (.int .i64 (P2 : Int))).heap[g5]? = some (.cells #[.int .i64 (P0 : Int), .int .i64 (P1 : Int), .int .i64 (P2 : Int)] 64 (0, 0))) := ⟨blk_put (cs := #[.int .i64 (P0 : Int), .int .i64 (P1 : Int), .int .i64 0]) (blk_put (cs := #[.int .i64 (P0 : Int), .int .i64 0, .int .i64 0]) (blk_put (cs := #[.int .i64 0, .int .i64 0, .int .i64 0]) HBO.out 0 _ rfl) 1 _ rfl) 2 _ rfl⟩
      replace HBW := Aside0.mk (below_set (g := g5) (j := 2) (v := .int .i64 (P2 : Int)) (below_set (g := g5) (j := 1) (v := .int .i64 (P1 : Int)) (below_set (g := g5) (j := 0) (v := .int .i64 (P0 : Int)) HBW.out HGE.out) HGE.out) HGE.out)
      generalize World.setCell _ _ _ = V3 at BP HBW ⊢
      clear HBO hP0 hP1 hP2 hq1 hq2 hw2
      have N0 : Aside0 (impl_near.f ((P0 : Int) * 65535) 7 = some (pcq 8 P0)) := ⟨near_pc 8 P0 (by omega) (by omega) hb0⟩
      have N1 : Aside0 (impl_near.f ((P1 : Int) * 65535) 7 = some (pcq 8 P1)) := ⟨near_pc 8 P1 (by omega) (by omega) hb1⟩
      have N2 : Aside0 (impl_near.f ((P2 : Int) * 65535) 7 = some (pcq 8 P2)) := ⟨near_pc 8 P2 (by omega) (by omega) hb2⟩
      obtain ⟨gkO, hgO⟩ : ∃ g : Nat, g = gk := ⟨_, rfl⟩
      have HGO := Aside0.mk hgO
      clear hgO
      go_wp2
      go_loopg [33] 3 (fun kq v33 w' => ∃ (k x y z : Int), v33 = .int .i64 k ∧ Aside0 (k + kq = 3) ∧ Aside0 (w'.heap[g5]? = some (.cells #[.int .i64 x, .int .i64 y, .int .i64 z] 64 (0, 0))) ∧ Aside0 ((k = 0 ∧ x = P0 ∧ y = P1 ∧ z = P2) ∨ (k = 1 ∧ x = pcq 8 P0 ∧ y = P1 ∧ z = P2) ∨ (k = 2 ∧ x = pcq 8 P0 ∧ y = pcq 8 P1 ∧ z = P2) ∨ (k = 3 ∧ x = pcq 8 P0 ∧ y = pcq 8 P1 ∧ z = pcq 8 P2)) ∧ Aside0 (Below wr.heap.size wr w'))
      case atStart => exact ⟨0, P0, P1, P2, rfl, ⟨by omega⟩, BP, ⟨.inl ⟨rfl, rfl, rfl, rfl⟩⟩, HBW⟩
      case round =>
        clear BP HBW
        obtain ⟨k, x, y, z, rfl, HKK, BP, HF, HBW⟩ := hrel
        rcases HF.out with ⟨rfl, rfl, rfl, rfl⟩ | ⟨rfl, rfl, rfl, rfl⟩ | ⟨rfl, rfl, rfl, rfl⟩ | ⟨rfl, rfl, rfl, rfl⟩
        · clear HF
          have c0 := (blk_cell BP.out 0).trans (show _ = some (.int .i64 (P0 : Int)) from rfl)
          have c1 := (blk_cell BP.out 1).trans (show _ = some (.int .i64 (P1 : Int)) from rfl)
          have c2 := (blk_cell BP.out 2).trans (show _ = some (.int .i64 (P2 : Int)) from rfl)
          have f0 := blk_frozen BP.out 0
          have f1 := blk_frozen BP.out 1
          have f2 := blk_frozen BP.out 2
          go_wp2_with (first | ((with_reducible refine gate_dst (N := 43) rfl ?_); refine goesL_ (some 43) rfl rfl Try.func48 (by kernel_rfl) rfl #[.int .i64 ((P0 : Int) * 65535), .int .i64 7] rfl (by (try simp only [List.map_toArray, List.map_cons, List.map_nil]); first | done | rfl) ?_; (with_reducible refine (impl_near.calls ((P0 : Int) * 65535) 7 (pcq 8 P0) _ N0.out).mono ?_); rintro e W1 ⟨rfl, hD⟩; refine ⟨_, rfl, ?_⟩; have hb := hD.below; replace BP := Aside0.mk (blk_below BP.out hb); replace HBW := Aside0.mk (below_step HBW.out hb); clear hb hD c0 c1 c2 f0 f1 f2; have c0 : W1.cell? ⟨g5, 0, none⟩ = some (.int .i64 (P0 : Int)) := (blk_cell BP.out 0).trans rfl; have c1 : W1.cell? ⟨g5, 1, none⟩ = some (.int .i64 (P1 : Int)) := (blk_cell BP.out 1).trans rfl; have c2 : W1.cell? ⟨g5, 2, none⟩ = some (.int .i64 (P2 : Int)) := (blk_cell BP.out 2).trans rfl; have f0 := blk_frozen BP.out 0; have f1 := blk_frozen BP.out 1; have f2 := blk_frozen BP.out 2))
          go_roundg (gk - 1)
          case measure => have := HKK.out; omega
          case rel => exact ⟨1, (pcq 8 P0), (P1 : Int), (P2 : Int), rfl, ⟨by have := HKK.out; omega⟩, ⟨blk_put (cs := #[.int .i64 (P0 : Int), .int .i64 (P1 : Int), .int .i64 (P2 : Int)]) BP.out 0 _ rfl⟩, ⟨.inr (.inl ⟨rfl, rfl, rfl, rfl⟩)⟩, ⟨below_set HBW.out HGE.out⟩⟩
        · clear HF
          have c0 := (blk_cell BP.out 0).trans (show _ = some (.int .i64 (pcq 8 P0)) from rfl)
          have c1 := (blk_cell BP.out 1).trans (show _ = some (.int .i64 (P1 : Int)) from rfl)
          have c2 := (blk_cell BP.out 2).trans (show _ = some (.int .i64 (P2 : Int)) from rfl)
          have f0 := blk_frozen BP.out 0
          have f1 := blk_frozen BP.out 1
          have f2 := blk_frozen BP.out 2
          go_wp2_with (first | ((with_reducible refine gate_dst (N := 43) rfl ?_); refine goesL_ (some 43) rfl rfl Try.func48 (by kernel_rfl) rfl #[.int .i64 ((P1 : Int) * 65535), .int .i64 7] rfl (by (try simp only [List.map_toArray, List.map_cons, List.map_nil]); first | done | rfl) ?_; (with_reducible refine (impl_near.calls ((P1 : Int) * 65535) 7 (pcq 8 P1) _ N1.out).mono ?_); rintro e W1 ⟨rfl, hD⟩; refine ⟨_, rfl, ?_⟩; have hb := hD.below; replace BP := Aside0.mk (blk_below BP.out hb); replace HBW := Aside0.mk (below_step HBW.out hb); clear hb hD c0 c1 c2 f0 f1 f2; have c0 : W1.cell? ⟨g5, 0, none⟩ = some (.int .i64 (pcq 8 P0)) := (blk_cell BP.out 0).trans rfl; have c1 : W1.cell? ⟨g5, 1, none⟩ = some (.int .i64 (P1 : Int)) := (blk_cell BP.out 1).trans rfl; have c2 : W1.cell? ⟨g5, 2, none⟩ = some (.int .i64 (P2 : Int)) := (blk_cell BP.out 2).trans rfl; have f0 := blk_frozen BP.out 0; have f1 := blk_frozen BP.out 1; have f2 := blk_frozen BP.out 2))
          go_roundg (gk - 1)
          case measure => have := HKK.out; omega
          case rel => exact ⟨2, (pcq 8 P0), (pcq 8 P1), (P2 : Int), rfl, ⟨by have := HKK.out; omega⟩, ⟨blk_put (cs := #[.int .i64 (pcq 8 P0), .int .i64 (P1 : Int), .int .i64 (P2 : Int)]) BP.out 1 _ rfl⟩, ⟨.inr (.inr (.inl ⟨rfl, rfl, rfl, rfl⟩))⟩, ⟨below_set HBW.out HGE.out⟩⟩
        · clear HF
          have c0 := (blk_cell BP.out 0).trans (show _ = some (.int .i64 (pcq 8 P0)) from rfl)
          have c1 := (blk_cell BP.out 1).trans (show _ = some (.int .i64 (pcq 8 P1)) from rfl)
          have c2 := (blk_cell BP.out 2).trans (show _ = some (.int .i64 (P2 : Int)) from rfl)
          have f0 := blk_frozen BP.out 0
          have f1 := blk_frozen BP.out 1
          have f2 := blk_frozen BP.out 2
          go_wp2_with (first | ((with_reducible refine gate_dst (N := 43) rfl ?_); refine goesL_ (some 43) rfl rfl Try.func48 (by kernel_rfl) rfl #[.int .i64 ((P2 : Int) * 65535), .int .i64 7] rfl (by (try simp only [List.map_toArray, List.map_cons, List.map_nil]); first | done | rfl) ?_; (with_reducible refine (impl_near.calls ((P2 : Int) * 65535) 7 (pcq 8 P2) _ N2.out).mono ?_); rintro e W1 ⟨rfl, hD⟩; refine ⟨_, rfl, ?_⟩; have hb := hD.below; replace BP := Aside0.mk (blk_below BP.out hb); replace HBW := Aside0.mk (below_step HBW.out hb); clear hb hD c0 c1 c2 f0 f1 f2; have c0 : W1.cell? ⟨g5, 0, none⟩ = some (.int .i64 (pcq 8 P0)) := (blk_cell BP.out 0).trans rfl; have c1 : W1.cell? ⟨g5, 1, none⟩ = some (.int .i64 (pcq 8 P1)) := (blk_cell BP.out 1).trans rfl; have c2 : W1.cell? ⟨g5, 2, none⟩ = some (.int .i64 (P2 : Int)) := (blk_cell BP.out 2).trans rfl; have f0 := blk_frozen BP.out 0; have f1 := blk_frozen BP.out 1; have f2 := blk_frozen BP.out 2))
          go_roundg (gk - 1)
          case measure => have := HKK.out; omega
          case rel => exact ⟨3, (pcq 8 P0), (pcq 8 P1), (pcq 8 P2), rfl, ⟨by have := HKK.out; omega⟩, ⟨blk_put (cs := #[.int .i64 (pcq 8 P0), .int .i64 (pcq 8 P1), .int .i64 (P2 : Int)]) BP.out 2 _ rfl⟩, ⟨.inr (.inr (.inr ⟨rfl, rfl, rfl, rfl⟩))⟩, ⟨below_set HBW.out HGE.out⟩⟩
        · clear HF
          have c0 := (blk_cell BP.out 0).trans (show _ = some (.int .i64 (pcq 8 P0)) from rfl)
          have c1 := (blk_cell BP.out 1).trans (show _ = some (.int .i64 (pcq 8 P1)) from rfl)
          have c2 := (blk_cell BP.out 2).trans (show _ = some (.int .i64 (pcq 8 P2)) from rfl)
          have f0 := blk_frozen BP.out 0
          have f1 := blk_frozen BP.out 1
          have f2 := blk_frozen BP.out 2
          go_wp2_with (first | ((with_reducible refine gate_dst (N := 48) rfl ?_); refine goesL_ (some 48) rfl rfl Try.func50 (by kernel_rfl) rfl #[.agg #[.int .i64 (pcq 8 P0), .int .i64 (pcq 8 P1), .int .i64 (pcq 8 P2)]] rfl (by (try simp only [List.map_toArray, List.map_cons, List.map_nil]); first | done | rfl) ?_; (with_reducible refine (rgb_calls (pcq 8 P0) (pcq 8 P1) (pcq 8 P2) _).mono ?_); rintro e W1 ⟨rfl, hb⟩; refine ⟨_, rfl, ?_⟩; replace HBW := Aside0.mk (below_step HBW.out hb); clear hb c0 c1 c2 f0 f1 f2) | ((with_reducible refine gate_dst (N := 50) rfl ?_); at_builtin; refine Kd.R_append k63 (w0 := w) w.heap.size rfl (.tmp 46) (.tmp 49) 44 63 (.agg #[(.int .i64 0), (.int .i64 0), (.int .i64 0)]) 24 (by rfl) Try.underlying44 info63 rfl (by decide) (by omega) u3 (((List.range 512).map (pce 8)).take i) (⟨pcq 8 P0, pcq 8 P1, pcq 8 P2⟩ : S63) [.int .i64 (pcq 8 P0), .int .i64 (pcq 8 P1), .int .i64 (pcq 8 P2)] (fun _ => True) (fun _ => False) (by rfl) (by rfl) (k63_mkM _ _ _ (⟨pcq 8 P0, pcq 8 P1, pcq 8 P2⟩ : S63)) (fun _ hk => hk.elim) (fun _ _ => trivial) ?aO ?aB ?aS ?aL ?_; (case aO => exact Kd.R_below HO.out HBW.out); (case aB => exact below_step HB.out HBW.out); (case aS => exact below_size (below_step HB.out HBW.out)); (case aL => (rw [List.length_take, List.length_map, List.length_range]; have := HI.out; omega)); intro v1 w2 ho hb hg_ hat; have HO2 := Aside0.mk ho; have HB2 := Aside0.mk hb; clear ho hb hg_ hat))
          go_roundg (gkO - 1)
          case measure => have := HK.out; have := HI.out; have := HGO.out; omega
          case rel => exact ⟨i + 1, by first | rfl | simp, ⟨by have := HK.out; have := HI.out; have := HGO.out; omega⟩, ⟨by rw [HT.out, HPE.out]; exact HO2.out⟩, HB2⟩
    · have hlt : decide ((i : Int) < (512 : Int)) = false := decide_eq_false (by omega)
      have HF : Aside0 (Kd.R k63 63 wr w.heap.size (fun _ => True) u3 ((List.range 512).map (pce 8))) := ⟨by
        have h := HO.out
        rwa [List.take_of_length_le (by simp; omega)] at h⟩
      clear HK HO hi
      go_wp2
      go_ret
      exact ⟨_, rfl, HF.out, HB.out⟩
set_option maxHeartbeats 8000000 in
set_option maxRecDepth 100000 in
theorem impl_PlainCube.at9 (w : World) : Calls Try.prog 25 #[.int .i64 9] w fun e w' => ∃ v, e = .returned v ∧ Kd.R k63 63 w' w.heap.size (fun _ => True) v ((List.range 729).map (pce 9)) ∧ Below w.heap.size w w' := by
  have hu2 := Try.underlying2
  have hu63 := Try.underlying63
  have hu64 := Try.underlying64
  have hu44 := Try.underlying44
  have HB := Aside0.mk (Below.refl w.heap.size w)
  have HIN : Aside0 (impl_in.f 9 2 9 = some true) := ⟨by decide⟩
  go_enter Try.func25, Try.ntmps25
  go_wp2_with (first | ((with_reducible refine gate_dst (N := 10) rfl ?_); refine Kd.R_lit k63 w.heap.size 63 ?hg (N := 10) ?hd (xs := ([] : List (S63))) (inner := []) (ok := fun _ => True) (okp := fun _ => True) ?hr ?hp (fun _ hk => hk) trivial HB.out HB.out.size (by simp) ?_; (case hd => rfl); (case hg => rfl); (case hr => first | (go_simp; done) | (go_simp; rfl)); (case hp => exact (Reps.none _ _)); intro v103 w4 ho5 hb hg_ hnew_; replace HB := Aside0.mk hb; have HO : Aside0 (Kd.R k63 63 w4 w.heap.size (fun _ => True) v103 (((List.range 729).map (pce 9)).take 0)) := ⟨ho5⟩; clear hg_ hnew_ ho5 hb) | ((with_reducible refine gate_dst (N := 8) rfl ?_); refine goesL_ (some 8) rfl rfl Try.func31 (by kernel_rfl) rfl #[.int .i64 9, .int .i64 2, .int .i64 9] rfl (by (try simp only [List.map_toArray, List.map_cons, List.map_nil]); first | done | rfl) ?_; (with_reducible refine (impl_in.calls 9 2 9 true _ HIN.out).mono ?_); rintro e W1 ⟨rfl, hD⟩; refine ⟨_, rfl, ?_⟩; have hb := hD.below; replace HB := Aside0.mk (below_step HB.out hb); clear hb hD))
  go_loopg [3, 16] 729 (fun kq v3 v16 w' => ∃ (i : Nat), v16 = .int .i64 (i : Int) ∧ Aside0 (i + kq = 729) ∧ Aside0 (Kd.R k63 63 w' w.heap.size (fun _ => True) v3 (((List.range 729).map (pce 9)).take i)) ∧ Aside0 (Below w.heap.size w w'))
  case atStart => exact ⟨0, rfl, ⟨by omega⟩, HO, HB⟩
  case round =>
    clear HB HO
    obtain ⟨i, rfl, HK, HO, HB⟩ := hrel
    by_cases hi : i < 729
    · have hlt : decide ((i : Int) < (729 : Int)) = true := decide_eq_true (by omega)
      have hi2 : (i : Int) < (729 : Int) := by omega
      have HI := Aside0.mk hi
      have HT : Aside0 (((List.range 729).map (pce 9)).take (i + 1) = ((List.range 729).map (pce 9)).take i ++ [pce 9 i]) := ⟨by rw [List.take_succ_eq_append_getElem (by simpa using hi)]; simp⟩
      have hw2 : wrap64 81 = 81 := by unfold wrap64; omega
      have hq1 : IntKind.i64.wrap ((i : Int) / 81) = (i : Int) / 81 := by rw [i64_w]; unfold wrap64; omega
      have hq2 : IntKind.i64.wrap ((i : Int) / 9) = (i : Int) / 9 := by rw [i64_w]; unfold wrap64; omega
      clear hi
      go_upto_region 7 with (fail)
      refine start_ (n := 16) (S := fun w' => Below wr.heap.size wr w') (ds := [15]) #[false, false, false, false, false, false, false, false, false, false, false, false, false, false, false, false] (by kernel_rfl) rfl rfl (below_drew1 (Below.refl _ _)) (fun hHeld => ?_)
      generalize World.drew _ = V at hHeld ⊢
      refine pure_ (i := 0) (N := some 19) (v := ?_) (a' := ?_) #[true, false, false, false, false, false, false, false, false, false, false, false, false, false, false, false] rfl rfl (by kernel_rfl) (fun _ _ _ h => h) (Or.inl ⟨by rfl, ?_⟩) ?_ ?_
      rotate_left
      · intro w'
        go_simp
        with_reducible rfl
      rotate_left
      · simp only [Act.put, List.setIfInBounds_toArray, List.set_cons_zero, List.set_cons_succ, i64_w, i32_w]
        rfl
      refine pure_ (i := 1) (N := some 20) (v := ?_) (a' := ?_) #[true, true, false, false, false, false, false, false, false, false, false, false, false, false, false, false] rfl rfl (by kernel_rfl) (fun _ _ _ h => h) (Or.inl ⟨by rfl, ?_⟩) ?_ ?_
      rotate_left
      · intro w'
        go_simp
        with_reducible rfl
      rotate_left
      · simp only [Act.put, List.setIfInBounds_toArray, List.set_cons_zero, List.set_cons_succ, i64_w, i32_w]
        rfl
      refine pure_ (i := 2) (N := some 21) (v := ?_) (a' := ?_) #[true, true, true, false, false, false, false, false, false, false, false, false, false, false, false, false] rfl rfl (by kernel_rfl) (fun _ _ _ h => h) (Or.inl ⟨by rfl, ?_⟩) ?_ ?_
      rotate_left
      · intro w'
        go_simp
        with_reducible rfl
      rotate_left
      · simp only [Act.put, List.setIfInBounds_toArray, List.set_cons_zero, List.set_cons_succ, i64_w, i32_w]
        rfl
      refine pure_ (i := 3) (N := some 22) (v := ?_) (a' := ?_) #[true, true, true, true, false, false, false, false, false, false, false, false, false, false, false, false] rfl rfl (by kernel_rfl) (fun _ _ _ h => h) (Or.inl ⟨by rfl, ?_⟩) ?_ ?_
      rotate_left
      · intro w'
        go_simp
        with_reducible rfl
      rotate_left
      · simp only [Act.put, List.setIfInBounds_toArray, List.set_cons_zero, List.set_cons_succ, i64_w, i32_w]
        rfl
      refine pure_ (i := 4) (N := some 23) (v := ?_) (a' := ?_) #[true, true, true, true, true, false, false, false, false, false, false, false, false, false, false, false] rfl rfl (by kernel_rfl) (fun _ _ _ h => h) (Or.inl ⟨by rfl, ?_⟩) ?_ ?_
      rotate_left
      · intro w'
        go_simp
        with_reducible rfl
      rotate_left
      · simp only [Act.put, List.setIfInBounds_toArray, List.set_cons_zero, List.set_cons_succ, i64_w, i32_w]
        rfl
      refine pure_ (i := 5) (N := some 24) (v := ?_) (a' := ?_) #[true, true, true, true, true, true, false, false, false, false, false, false, false, false, false, false] rfl rfl (by kernel_rfl) (fun _ _ _ h => h) (Or.inl ⟨by rfl, ?_⟩) ?_ ?_
      rotate_left
      · intro w'
        go_simp
        with_reducible rfl
      rotate_left
      · simp only [Act.put, List.setIfInBounds_toArray, List.set_cons_zero, List.set_cons_succ, i64_w, i32_w]
        rfl
      refine pure_ (i := 6) (N := some 25) (v := ?_) (a' := ?_) #[true, true, true, true, true, true, true, false, false, false, false, false, false, false, false, false] rfl rfl (by kernel_rfl) (fun _ _ _ h => h) (Or.inl ⟨by rfl, ?_⟩) ?_ ?_
      rotate_left
      · intro w'
        go_simp
        with_reducible rfl
      rotate_left
      · simp only [Act.put, List.setIfInBounds_toArray, List.set_cons_zero, List.set_cons_succ, i64_w, i32_w]
        rfl
      refine pure_ (i := 7) (N := some 26) (v := ?_) (a' := ?_) #[true, true, true, true, true, true, true, true, false, false, false, false, false, false, false, false] rfl rfl (by kernel_rfl) (fun _ _ _ h => h) (Or.inl ⟨by rfl, ?_⟩) ?_ ?_
      rotate_left
      · intro w'
        go_simp
        with_reducible rfl
      rotate_left
      · simp only [Act.put, List.setIfInBounds_toArray, List.set_cons_zero, List.set_cons_succ, i64_w, i32_w]
        rfl
      refine pure_ (i := 8) (N := some 27) (v := ?_) (a' := ?_) #[true, true, true, true, true, true, true, true, true, false, false, false, false, false, false, false] rfl rfl (by kernel_rfl) (fun _ _ _ h => h) (Or.inl ⟨by rfl, ?_⟩) ?_ ?_
      rotate_left
      · intro w'
        go_simp
        with_reducible rfl
      rotate_left
      · simp only [Act.put, List.setIfInBounds_toArray, List.set_cons_zero, List.set_cons_succ, i64_w, i32_w]
        rfl
      refine pure_ (i := 9) (N := some 28) (v := ?_) (a' := ?_) #[true, true, true, true, true, true, true, true, true, true, false, false, false, false, false, false] rfl rfl (by kernel_rfl) (fun _ _ _ h => h) (Or.inl ⟨by rfl, ?_⟩) ?_ ?_
      rotate_left
      · intro w'
        go_simp
        with_reducible rfl
      rotate_left
      · simp only [Act.put, List.setIfInBounds_toArray, List.set_cons_zero, List.set_cons_succ, i64_w, i32_w]
        rfl
      refine pure_ (i := 10) (N := some 29) (v := ?_) (a' := ?_) #[true, true, true, true, true, true, true, true, true, true, true, false, false, false, false, false] rfl rfl (by kernel_rfl) (fun _ _ _ h => h) (Or.inl ⟨by rfl, ?_⟩) ?_ ?_
      rotate_left
      · intro w'
        go_simp
        with_reducible rfl
      rotate_left
      · simp only [Act.put, List.setIfInBounds_toArray, List.set_cons_zero, List.set_cons_succ, i64_w, i32_w]
        rfl
      refine pure_ (i := 11) (N := some 30) (v := ?_) (a' := ?_) #[true, true, true, true, true, true, true, true, true, true, true, true, false, false, false, false] rfl rfl (by kernel_rfl) (fun _ _ _ h => h) (Or.inl ⟨by rfl, ?_⟩) ?_ ?_
      rotate_left
      · intro w'
        go_simp
        with_reducible rfl
      rotate_left
      · simp only [Act.put, List.setIfInBounds_toArray, List.set_cons_zero, List.set_cons_succ, i64_w, i32_w]
        rfl
      refine pure_ (i := 12) (N := some 31) (v := ?_) (a' := ?_) #[true, true, true, true, true, true, true, true, true, true, true, true, true, false, false, false] rfl rfl (by kernel_rfl) (fun _ _ _ h => h) (Or.inl ⟨by rfl, ?_⟩) ?_ ?_
      rotate_left
      · intro w'
        go_simp
        with_reducible rfl
      rotate_left
      · simp only [Act.put, List.setIfInBounds_toArray, List.set_cons_zero, List.set_cons_succ, i64_w, i32_w]
        rfl
      refine pure_ (i := 13) (N := some 32) (v := ?_) (a' := ?_) #[true, true, true, true, true, true, true, true, true, true, true, true, true, true, false, false] rfl rfl (by kernel_rfl) (fun _ _ _ h => h) (Or.inl ⟨by rfl, ?_⟩) ?_ ?_
      rotate_left
      · intro w'
        go_simp
        with_reducible rfl
      rotate_left
      · simp only [Act.put, List.setIfInBounds_toArray, List.set_cons_zero, List.set_cons_succ, i64_w, i32_w]
        rfl
      refine one_ (i := 14) (N := some 5) #[true, true, true, true, true, true, true, true, true, true, true, true, true, true, true, false] rfl rfl (by kernel_rfl) (by decide) (fun K hK => ?_)
      refine box_step ?hg (N := 5) ?hd (cs := #[.int .i64 0, .int .i64 0, .int .i64 0]) (t := 64) ?hr ?_; (case hd => rfl); (case hg => rfl); (case hr => first | (go_simp; done) | (go_simp; rfl))
      intro g5 hg W2 hbox hb
      have hge : wr.heap.size ≤ g5 := by rw [hg]; exact hHeld.size
      replace hHeld := below_step hHeld hb
      clear hb hg
      refine hK.out _ _ hHeld (fun _ => ?_)
      clear hK K
      refine norm_ (a' := ?_) ?_ ?_
      rotate_left
      · show Act.put _ (some 5) _ = _
        simp only [Act.put, List.setIfInBounds_toArray, List.set_cons_zero, List.set_cons_succ, i64_w, i32_w]
        rfl
      refine last_ (i := 15) (N := none) #[true, true, true, true, true, true, true, true, true, true, true, true, true, true, true, true] rfl rfl (by kernel_rfl) (by decide) (fun K hK => ?_)
      have e0 : W2.cell? ⟨g5, 0, none⟩ = some (.int .i64 0) := (blk_cell hbox 0).trans rfl
      have e1 : W2.cell? ⟨g5, 1, none⟩ = some (.int .i64 0) := (blk_cell hbox 1).trans rfl
      have e2 : W2.cell? ⟨g5, 2, none⟩ = some (.int .i64 0) := (blk_cell hbox 2).trans rfl
      have e3 := blk_frozen hbox 0
      have e4 := blk_frozen hbox 1
      have e5 := blk_frozen hbox 2
      have HGE := Aside0.mk hge
      have HBO := Aside0.mk hbox
      have HBW := Aside0.mk hHeld
      clear hge hHeld hbox
      refine skip_ (w1 := ?_) (by rfl) rfl ?_ ?_
      rotate_left
      · go_simp
        rfl
      refine hK.out _ _ ?_
      clear hK K e0 e1 e2 e3 e4 e5
      refine done_ (by kernel_rfl) ?_
      obtain ⟨P0, hP0⟩ : ∃ P : Nat, P = i / 81 := ⟨_, rfl⟩
      obtain ⟨P1, hP1⟩ : ∃ P : Nat, P = i / 9 % 9 := ⟨_, rfl⟩
      obtain ⟨P2, hP2⟩ : ∃ P : Nat, P = i % 9 := ⟨_, rfl⟩
      have hb0 : P0 < 10000 := by have := HI.out; omega
      have hb1 : P1 < 10000 := by omega
      have hb2 : P2 < 10000 := by omega
      have HPE : Aside0 (pce 9 i = ⟨pcq 9 P0, pcq 9 P1, pcq 9 P2⟩) := ⟨by rw [hP0, hP1, hP2]; rfl⟩
      rw [show ((i : Int) / 9).tmod 9 = (P1 : Int) by rw [Int.tmod_eq_emod_of_nonneg (by omega)]; omega, show ((i : Int)).tmod 9 = (P2 : Int) by rw [Int.tmod_eq_emod_of_nonneg (by omega)]; omega, show (i : Int) / 81 = (P0 : Int) by omega]
      have BP : Aside0 ((((W2.setCell ⟨g5, 0, none⟩ (.int .i64 (P0 : Int))).setCell ⟨g5, 1, none⟩ (.int .i64 (P1 : Int))).setCell ⟨g5, 2, none⟩ (.int .i64 (P2 : Int))).heap[g5]? = some (.cells #[.int .i64 (P0 : Int), .int .i64 (P1 : Int), .int .i64 (P2 : Int)] 64 (0, 0))) := ⟨blk_put (cs := #[.int .i64 (P0 : Int), .int .i64 (P1 : Int), .int .i64 0]) (blk_put (cs := #[.int .i64 (P0 : Int), .int .i64 0, .int .i64 0]) (blk_put (cs := #[.int .i64 0, .int .i64 0, .int .i64 0]) HBO.out 0 _ rfl) 1 _ rfl) 2 _ rfl⟩
      replace HBW := Aside0.mk (below_set (g := g5) (j := 2) (v := .int .i64 (P2 : Int)) (below_set (g := g5) (j := 1) (v := .int .i64 (P1 : Int)) (below_set (g := g5) (j := 0) (v := .int .i64 (P0 : Int)) HBW.out HGE.out) HGE.out) HGE.out)
      generalize World.setCell _ _ _ = V3 at BP HBW ⊢
      clear HBO hP0 hP1 hP2 hq1 hq2 hw2
      have N0 : Aside0 (impl_near.f ((P0 : Int) * 65535) 8 = some (pcq 9 P0)) := ⟨near_pc 9 P0 (by omega) (by omega) hb0⟩
      have N1 : Aside0 (impl_near.f ((P1 : Int) * 65535) 8 = some (pcq 9 P1)) := ⟨near_pc 9 P1 (by omega) (by omega) hb1⟩
      have N2 : Aside0 (impl_near.f ((P2 : Int) * 65535) 8 = some (pcq 9 P2)) := ⟨near_pc 9 P2 (by omega) (by omega) hb2⟩
      obtain ⟨gkO, hgO⟩ : ∃ g : Nat, g = gk := ⟨_, rfl⟩
      have HGO := Aside0.mk hgO
      clear hgO
      go_wp2
      go_loopg [33] 3 (fun kq v33 w' => ∃ (k x y z : Int), v33 = .int .i64 k ∧ Aside0 (k + kq = 3) ∧ Aside0 (w'.heap[g5]? = some (.cells #[.int .i64 x, .int .i64 y, .int .i64 z] 64 (0, 0))) ∧ Aside0 ((k = 0 ∧ x = P0 ∧ y = P1 ∧ z = P2) ∨ (k = 1 ∧ x = pcq 9 P0 ∧ y = P1 ∧ z = P2) ∨ (k = 2 ∧ x = pcq 9 P0 ∧ y = pcq 9 P1 ∧ z = P2) ∨ (k = 3 ∧ x = pcq 9 P0 ∧ y = pcq 9 P1 ∧ z = pcq 9 P2)) ∧ Aside0 (Below wr.heap.size wr w'))
      case atStart => exact ⟨0, P0, P1, P2, rfl, ⟨by omega⟩, BP, ⟨.inl ⟨rfl, rfl, rfl, rfl⟩⟩, HBW⟩
      case round =>
        clear BP HBW
        obtain ⟨k, x, y, z, rfl, HKK, BP, HF, HBW⟩ := hrel
        rcases HF.out with ⟨rfl, rfl, rfl, rfl⟩ | ⟨rfl, rfl, rfl, rfl⟩ | ⟨rfl, rfl, rfl, rfl⟩ | ⟨rfl, rfl, rfl, rfl⟩
        · clear HF
          have c0 := (blk_cell BP.out 0).trans (show _ = some (.int .i64 (P0 : Int)) from rfl)
          have c1 := (blk_cell BP.out 1).trans (show _ = some (.int .i64 (P1 : Int)) from rfl)
          have c2 := (blk_cell BP.out 2).trans (show _ = some (.int .i64 (P2 : Int)) from rfl)
          have f0 := blk_frozen BP.out 0
          have f1 := blk_frozen BP.out 1
          have f2 := blk_frozen BP.out 2
          go_wp2_with (first | ((with_reducible refine gate_dst (N := 43) rfl ?_); refine goesL_ (some 43) rfl rfl Try.func48 (by kernel_rfl) rfl #[.int .i64 ((P0 : Int) * 65535), .int .i64 8] rfl (by (try simp only [List.map_toArray, List.map_cons, List.map_nil]); first | done | rfl) ?_; (with_reducible refine (impl_near.calls ((P0 : Int) * 65535) 8 (pcq 9 P0) _ N0.out).mono ?_); rintro e W1 ⟨rfl, hD⟩; refine ⟨_, rfl, ?_⟩; have hb := hD.below; replace BP := Aside0.mk (blk_below BP.out hb); replace HBW := Aside0.mk (below_step HBW.out hb); clear hb hD c0 c1 c2 f0 f1 f2; have c0 : W1.cell? ⟨g5, 0, none⟩ = some (.int .i64 (P0 : Int)) := (blk_cell BP.out 0).trans rfl; have c1 : W1.cell? ⟨g5, 1, none⟩ = some (.int .i64 (P1 : Int)) := (blk_cell BP.out 1).trans rfl; have c2 : W1.cell? ⟨g5, 2, none⟩ = some (.int .i64 (P2 : Int)) := (blk_cell BP.out 2).trans rfl; have f0 := blk_frozen BP.out 0; have f1 := blk_frozen BP.out 1; have f2 := blk_frozen BP.out 2))
          go_roundg (gk - 1)
          case measure => have := HKK.out; omega
          case rel => exact ⟨1, (pcq 9 P0), (P1 : Int), (P2 : Int), rfl, ⟨by have := HKK.out; omega⟩, ⟨blk_put (cs := #[.int .i64 (P0 : Int), .int .i64 (P1 : Int), .int .i64 (P2 : Int)]) BP.out 0 _ rfl⟩, ⟨.inr (.inl ⟨rfl, rfl, rfl, rfl⟩)⟩, ⟨below_set HBW.out HGE.out⟩⟩
        · clear HF
          have c0 := (blk_cell BP.out 0).trans (show _ = some (.int .i64 (pcq 9 P0)) from rfl)
          have c1 := (blk_cell BP.out 1).trans (show _ = some (.int .i64 (P1 : Int)) from rfl)
          have c2 := (blk_cell BP.out 2).trans (show _ = some (.int .i64 (P2 : Int)) from rfl)
          have f0 := blk_frozen BP.out 0
          have f1 := blk_frozen BP.out 1
          have f2 := blk_frozen BP.out 2
          go_wp2_with (first | ((with_reducible refine gate_dst (N := 43) rfl ?_); refine goesL_ (some 43) rfl rfl Try.func48 (by kernel_rfl) rfl #[.int .i64 ((P1 : Int) * 65535), .int .i64 8] rfl (by (try simp only [List.map_toArray, List.map_cons, List.map_nil]); first | done | rfl) ?_; (with_reducible refine (impl_near.calls ((P1 : Int) * 65535) 8 (pcq 9 P1) _ N1.out).mono ?_); rintro e W1 ⟨rfl, hD⟩; refine ⟨_, rfl, ?_⟩; have hb := hD.below; replace BP := Aside0.mk (blk_below BP.out hb); replace HBW := Aside0.mk (below_step HBW.out hb); clear hb hD c0 c1 c2 f0 f1 f2; have c0 : W1.cell? ⟨g5, 0, none⟩ = some (.int .i64 (pcq 9 P0)) := (blk_cell BP.out 0).trans rfl; have c1 : W1.cell? ⟨g5, 1, none⟩ = some (.int .i64 (P1 : Int)) := (blk_cell BP.out 1).trans rfl; have c2 : W1.cell? ⟨g5, 2, none⟩ = some (.int .i64 (P2 : Int)) := (blk_cell BP.out 2).trans rfl; have f0 := blk_frozen BP.out 0; have f1 := blk_frozen BP.out 1; have f2 := blk_frozen BP.out 2))
          go_roundg (gk - 1)
          case measure => have := HKK.out; omega
          case rel => exact ⟨2, (pcq 9 P0), (pcq 9 P1), (P2 : Int), rfl, ⟨by have := HKK.out; omega⟩, ⟨blk_put (cs := #[.int .i64 (pcq 9 P0), .int .i64 (P1 : Int), .int .i64 (P2 : Int)]) BP.out 1 _ rfl⟩, ⟨.inr (.inr (.inl ⟨rfl, rfl, rfl, rfl⟩))⟩, ⟨below_set HBW.out HGE.out⟩⟩
        · clear HF
          have c0 := (blk_cell BP.out 0).trans (show _ = some (.int .i64 (pcq 9 P0)) from rfl)
          have c1 := (blk_cell BP.out 1).trans (show _ = some (.int .i64 (pcq 9 P1)) from rfl)
          have c2 := (blk_cell BP.out 2).trans (show _ = some (.int .i64 (P2 : Int)) from rfl)
          have f0 := blk_frozen BP.out 0
          have f1 := blk_frozen BP.out 1
          have f2 := blk_frozen BP.out 2
          go_wp2_with (first | ((with_reducible refine gate_dst (N := 43) rfl ?_); refine goesL_ (some 43) rfl rfl Try.func48 (by kernel_rfl) rfl #[.int .i64 ((P2 : Int) * 65535), .int .i64 8] rfl (by (try simp only [List.map_toArray, List.map_cons, List.map_nil]); first | done | rfl) ?_; (with_reducible refine (impl_near.calls ((P2 : Int) * 65535) 8 (pcq 9 P2) _ N2.out).mono ?_); rintro e W1 ⟨rfl, hD⟩; refine ⟨_, rfl, ?_⟩; have hb := hD.below; replace BP := Aside0.mk (blk_below BP.out hb); replace HBW := Aside0.mk (below_step HBW.out hb); clear hb hD c0 c1 c2 f0 f1 f2; have c0 : W1.cell? ⟨g5, 0, none⟩ = some (.int .i64 (pcq 9 P0)) := (blk_cell BP.out 0).trans rfl; have c1 : W1.cell? ⟨g5, 1, none⟩ = some (.int .i64 (pcq 9 P1)) := (blk_cell BP.out 1).trans rfl; have c2 : W1.cell? ⟨g5, 2, none⟩ = some (.int .i64 (P2 : Int)) := (blk_cell BP.out 2).trans rfl; have f0 := blk_frozen BP.out 0; have f1 := blk_frozen BP.out 1; have f2 := blk_frozen BP.out 2))
          go_roundg (gk - 1)
          case measure => have := HKK.out; omega
          case rel => exact ⟨3, (pcq 9 P0), (pcq 9 P1), (pcq 9 P2), rfl, ⟨by have := HKK.out; omega⟩, ⟨blk_put (cs := #[.int .i64 (pcq 9 P0), .int .i64 (pcq 9 P1), .int .i64 (P2 : Int)]) BP.out 2 _ rfl⟩, ⟨.inr (.inr (.inr ⟨rfl, rfl, rfl, rfl⟩))⟩, ⟨below_set HBW.out HGE.out⟩⟩
        · clear HF
          have c0 := (blk_cell BP.out 0).trans (show _ = some (.int .i64 (pcq 9 P0)) from rfl)
          have c1 := (blk_cell BP.out 1).trans (show _ = some (.int .i64 (pcq 9 P1)) from rfl)
          have c2 := (blk_cell BP.out 2).trans (show _ = some (.int .i64 (pcq 9 P2)) from rfl)
          have f0 := blk_frozen BP.out 0
          have f1 := blk_frozen BP.out 1
          have f2 := blk_frozen BP.out 2
          go_wp2_with (first | ((with_reducible refine gate_dst (N := 48) rfl ?_); refine goesL_ (some 48) rfl rfl Try.func50 (by kernel_rfl) rfl #[.agg #[.int .i64 (pcq 9 P0), .int .i64 (pcq 9 P1), .int .i64 (pcq 9 P2)]] rfl (by (try simp only [List.map_toArray, List.map_cons, List.map_nil]); first | done | rfl) ?_; (with_reducible refine (rgb_calls (pcq 9 P0) (pcq 9 P1) (pcq 9 P2) _).mono ?_); rintro e W1 ⟨rfl, hb⟩; refine ⟨_, rfl, ?_⟩; replace HBW := Aside0.mk (below_step HBW.out hb); clear hb c0 c1 c2 f0 f1 f2) | ((with_reducible refine gate_dst (N := 50) rfl ?_); at_builtin; refine Kd.R_append k63 (w0 := w) w.heap.size rfl (.tmp 46) (.tmp 49) 44 63 (.agg #[(.int .i64 0), (.int .i64 0), (.int .i64 0)]) 24 (by rfl) Try.underlying44 info63 rfl (by decide) (by omega) u3 (((List.range 729).map (pce 9)).take i) (⟨pcq 9 P0, pcq 9 P1, pcq 9 P2⟩ : S63) [.int .i64 (pcq 9 P0), .int .i64 (pcq 9 P1), .int .i64 (pcq 9 P2)] (fun _ => True) (fun _ => False) (by rfl) (by rfl) (k63_mkM _ _ _ (⟨pcq 9 P0, pcq 9 P1, pcq 9 P2⟩ : S63)) (fun _ hk => hk.elim) (fun _ _ => trivial) ?aO ?aB ?aS ?aL ?_; (case aO => exact Kd.R_below HO.out HBW.out); (case aB => exact below_step HB.out HBW.out); (case aS => exact below_size (below_step HB.out HBW.out)); (case aL => (rw [List.length_take, List.length_map, List.length_range]; have := HI.out; omega)); intro v1 w2 ho hb hg_ hat; have HO2 := Aside0.mk ho; have HB2 := Aside0.mk hb; clear ho hb hg_ hat))
          go_roundg (gkO - 1)
          case measure => have := HK.out; have := HI.out; have := HGO.out; omega
          case rel => exact ⟨i + 1, by first | rfl | simp, ⟨by have := HK.out; have := HI.out; have := HGO.out; omega⟩, ⟨by rw [HT.out, HPE.out]; exact HO2.out⟩, HB2⟩
    · have hlt : decide ((i : Int) < (729 : Int)) = false := decide_eq_false (by omega)
      have HF : Aside0 (Kd.R k63 63 wr w.heap.size (fun _ => True) u3 ((List.range 729).map (pce 9))) := ⟨by
        have h := HO.out
        rwa [List.take_of_length_le (by simp; omega)] at h⟩
      clear HK HO hi
      go_wp2
      go_ret
      exact ⟨_, rfl, HF.out, HB.out⟩
set_option maxHeartbeats 8000000 in
set_option maxRecDepth 100000 in
theorem impl_PlainCube.calls (a0 : Int) (r : List (S63)) (w : World) (h : impl_PlainCube.f a0 = some r) :
    Calls Try.prog 25 #[.int .i64 a0] w fun e w' => ∃ v0_ : Value, e = .returned (v0_) ∧ Kd.R k63 63 w' w.heap.size (fun _ => True) v0_ r ∧ Below w.heap.size w w' := by
  obtain rfl := Option.some.inj h
  clear h
  by_cases hb : 2 ≤ a0 ∧ a0 ≤ 9
  · rw [if_pos hb]
    have h8 : a0 = 2 ∨ a0 = 3 ∨ a0 = 4 ∨ a0 = 5 ∨ a0 = 6 ∨ a0 = 7 ∨ a0 = 8 ∨ a0 = 9 := by omega
    rcases h8 with rfl | rfl | rfl | rfl | rfl | rfl | rfl | rfl
    · exact impl_PlainCube.at2 w
    · exact impl_PlainCube.at3 w
    · exact impl_PlainCube.at4 w
    · exact impl_PlainCube.at5 w
    · exact impl_PlainCube.at6 w
    · exact impl_PlainCube.at7 w
    · exact impl_PlainCube.at8 w
    · exact impl_PlainCube.at9 w
  · rw [if_neg hb]
    have HIN : Aside0 (impl_in.f a0 2 9 = some false) := ⟨by
      unfold impl_in.f
      by_cases h2 : 2 ≤ a0
      · rw [if_pos h2]
        congr 1
        exact decide_eq_false (by omega)
      · rw [if_neg h2]⟩
    clear hb
    have hu2 := Try.underlying2
    have HB := Aside0.mk (Below.refl w.heap.size w)
    go_enter Try.func25, Try.ntmps25
    go_wp2_with (first | ((with_reducible refine gate_dst (N := 8) rfl ?_); refine goesL_ (some 8) rfl rfl Try.func31 (by kernel_rfl) rfl #[.int .i64 a0, .int .i64 2, .int .i64 9] rfl (by (try simp only [List.map_toArray, List.map_cons, List.map_nil]); first | done | rfl) ?_; (with_reducible refine (impl_in.calls a0 2 9 false _ HIN.out).mono ?_); rintro e W1 ⟨rfl, hD⟩; refine ⟨_, rfl, ?_⟩; have hb := hD.below; replace HB := Aside0.mk (below_step HB.out hb); clear hb hD))
    go_ret
    exact ⟨_, rfl, Kd.R_nil _ _ _ _ _, HB.out⟩


end Go.Proofs.Ytdfhhnepodnioaa.PFnExactPlainCube
