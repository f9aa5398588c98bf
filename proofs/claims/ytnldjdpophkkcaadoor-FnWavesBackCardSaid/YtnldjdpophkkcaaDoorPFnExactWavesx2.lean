/- FnExactWaves, FnExactBack, FnWavesBack: walks, floats told up to NaN. Written by wip/barred/gen_base.py. -/
import Derived.Test.YtnldjdpophkkcaaDoorPFnExactWavesx1
import Derived.Outline
import Derived.LoopN
import Derived.RegionTactic
import Derived.BigRegion
namespace Go.Proofs.YtnldjdpophkkcaaDoor.PFnExactWaves
open Go.RowKit Go.Proofs.YtnldjdpophkkcaaDoorW.PrintWords Go.Proofs.YtnldjdpophkkcaaDoorW.PrintLast Go.Proofs.YtnldjdpophkkcaaDoorW.PrintMore Go.Proofs.YtnldjdpophkkcaaDoor.Fl
attribute [local go_sem] run_store_float
set_option linter.unusedVariables false
set_option linter.unusedSimpArgs false
attribute [local go_sem] max2_int min2_int max_two min_two max_three min_three max_four min_four
/-- A slice of floats that reads as xs. -/
def RF (w : World) (A : Option Addr) (xs : List Nat) : Prop := ∀ i, i < xs.length → ∃ ad, A = some ad ∧ w.cell? (ad.add i) = some (.float .f64 (xs.getD i 0))
theorem RF.below {w w' : World} {A : Option Addr} {xs : List Nat} (h : RF w A xs) (hb : Below w.heap.size w w') : RF w' A xs := fun i hi => by
  obtain ⟨ad, e, hc⟩ := h i hi
  exact ⟨ad, e, (hb.cell (World.block_lt_of_cell? w _ hc)).trans hc⟩
def FA (xs : List Nat) : Array Value := (xs.map fun x => Value.float .f64 x).toArray
theorem FA_at (xs : List Nat) (i : Nat) (hi : i < xs.length) : (FA xs)[i]? = some (.float .f64 (xs.getD i 0)) := by simp [FA, hi]
theorem FA_set (xs : List Nat) (i x : Nat) : (FA xs).setIfInBounds i (.float .f64 x) = FA (xs.set i x) := by
  unfold FA
  rw [List.setIfInBounds_toArray, List.map_set]
theorem RF.of_blk {w : World} {g : Nat} {xs : List Nat} (h : w.heap[g]? = some (.cells (FA xs) 22 (0, 0))) : RF w (some ⟨g, 0, none⟩) xs := fun i hi => ⟨_, rfl, by rw [add_plain]; exact (blk_cell h i).trans (FA_at xs i hi)⟩
/-- i elements written. -/
def FB (xs : List Nat) (i : Nat) : List Nat := xs.take i ++ List.replicate (xs.length - i) 0
theorem FB_length (xs : List Nat) (i : Nat) (hi : i ≤ xs.length) : (FB xs i).length = xs.length := by simp [FB]; omega
theorem FB_zero (xs : List Nat) : FB xs 0 = List.replicate xs.length 0 := by simp [FB]
theorem FB_full (xs : List Nat) : FB xs xs.length = xs := by simp [FB]
theorem FB_step (xs : List Nat) (i : Nat) (hi : i < xs.length) : (FB xs i).set i (xs.getD i 0) = FB xs (i + 1) := by
  unfold FB
  obtain ⟨m, hm⟩ : ∃ m, xs.length - i = m + 1 := ⟨xs.length - i - 1, by omega⟩
  have hm' : xs.length - (i + 1) = m := by omega
  rw [hm, hm', List.replicate_succ, List.set_append_right _ _ (by simp; omega)]
  rw [show i - (xs.take i).length = 0 by simp; omega, List.set_cons_zero]
  rw [List.take_add_one, List.append_assoc]
  congr 1
  simp [hi]
theorem made_FA (n : Nat) : madeCells #[.float .f64 0] n = FA (List.replicate n 0) := by
  apply Array.ext
  · simp [madeCells, FA]
  · intro i h1 h2
    simp [madeCells, FA]
    rw [Nat.mod_one]
    rfl
section
variable {P : Program}
theorem one_op {ops : Array Oper} {o : Oper} {a : Act} {Q : Exit → Act → World → Prop} {Kc : Act → World → Prop} {w : World} (hw : Region.wanted o (yielded ops a.tmps) = true) (op : BinOp) (t : TypeId) (p q : Operand) (t' : TypeId)
    (ho : o.op = .binOp op t p q t') (ha : arith op = true) {x y X Y : Nat} (hx : Same x X) (hy : Same y Y) (hp : a.eval p = .float .f64 x) (hq : a.eval q = .float .f64 y)
    (h : ∀ r n, Same r (fo op X Y) → Kc (a.put o.dst (.float .f64 r)) (w.drewN n)) : if Region.wanted o (yielded ops a.tmps) = true then Oper.wp P o a w Kc Q else Kc (a.put o.dst undef) w := by
  obtain ⟨r, n, hrun, hs⟩ := run_op (P := P) op ha t hx hy w
  have hg : eqGuard op t p q (.float .f64 x) (.float .f64 y) = pure () := by cases op <;> simp [arith] at ha <;> rfl
  rw [if_pos hw]
  unfold Oper.wp
  simp [execOp, ho, hp, hq, hg, hrun, Result.andThen]
  exact h r n hs
end
/-- The marks k, k + 1, .. -/
def marks (k : Int) (n : Nat) : List Nat := (List.range n).map fun (i : Nat) => floatOfInt .f64 (k + (i : Int))
theorem marks_length (k : Int) (n : Nat) : (marks k n).length = n := by simp [marks]
theorem marks_at (k : Int) (n i : Nat) (hi : i < n) : (marks k n).getD i 0 = floatOfInt .f64 (k + (i : Int)) := by simp [marks, hi]
/-- i elements marked. -/
def FM (xs : List Nat) (k : Int) (i : Nat) : List Nat := marks k i ++ xs.drop i
theorem FM_length (xs : List Nat) (k : Int) (i : Nat) (hi : i ≤ xs.length) : (FM xs k i).length = xs.length := by simp [FM, marks_length]; omega
theorem FM_full (xs : List Nat) (k : Int) : FM xs k xs.length = marks k xs.length := by simp [FM]
theorem FM_step (xs : List Nat) (k : Int) (i : Nat) (hi : i < xs.length) : (FM xs k i).set i (floatOfInt .f64 (k + (i : Int))) = FM xs k (i + 1) := by
  unfold FM
  rw [List.set_append_right _ _ (by rw [marks_length]; exact Nat.le_refl _), marks_length, Nat.sub_self, List.drop_eq_getElem_cons hi, List.set_cons_zero]
  simp [marks, List.range_succ]
theorem floatOfInt_num (n : Int) : ¬ NaN (floatOfInt .f64 n) := by
  unfold NaN floatOfInt FloatKind.nearest FloatKind.encode FloatKind.format Ieee.Format.write
  simp only
  have hb : Ieee.double.binade = 2 ^ 52 := by decide +kernel
  have hi : Ieee.double.infRung = 0x7ff0000000000000 := by decide +kernel
  have hs : Ieee.double.signWeight = 2 ^ 63 := by decide +kernel
  have key : ∀ (b : Bool) (r : Nat), r ≤ Ieee.double.infRung → ¬ (Ieee.double.read (Ieee.double.word b r)).isNaN = true := by
    intro b r hr h
    unfold Ieee.Format.read Ieee.Format.word at h
    rw [hs, hb, hi] at h
    rw [hi] at hr
    have e : (if b = true then 2 ^ 63 + r else r) % 2 ^ 63 = r := by cases b <;> simp <;> omega
    simp only [e] at h
    split at h
    · simp [Ieee.Datum.isNaN] at h
    · split at h
      · simp [Ieee.Datum.isNaN] at h
      · split at h
        · simp [Ieee.Datum.isNaN] at h
        · omega
  unfold Ieee.Format.nearest
  split
  · exact key _ _ (Nat.zero_le _)
  · exact key _ _ (Nat.min_le_right _ _)
/-- A slice of pairs of floats that reads as xs. -/
def RC (w : World) (A : Option Addr) (xs : List (Nat × Nat)) : Prop := ∀ i, i < xs.length → ∃ ad, A = some ad ∧ w.cell? (ad.add (i * 2)) = some (.float .f64 (xs.getD i (0, 0)).1) ∧ w.cell? ⟨(ad.add (i * 2)).block, (ad.add (i * 2)).off + 1, none⟩ = some (.float .f64 (xs.getD i (0, 0)).2)
theorem RC.below {w w' : World} {A : Option Addr} {xs : List (Nat × Nat)} (h : RC w A xs) (hb : Below w.heap.size w w') : RC w' A xs := fun i hi => by
  obtain ⟨ad, e, hc, hd⟩ := h i hi
  exact ⟨ad, e, (hb.cell (World.block_lt_of_cell? w _ hc)).trans hc, (hb.cell (World.block_lt_of_cell? w _ hd)).trans hd⟩
set_option maxHeartbeats 8000000 in
set_option maxRecDepth 100000 in
theorem laws_szCxS.calls (A : Option Addr) (cap n : Nat) (left : Int) (w : World) (h0 : 0 ≤ left) (h1 : left ≤ 1048576) (hn : n ≤ 9223372036854775807) :
    Calls Tryd.prog 10 #[.slice A n cap, .int .i64 left] w fun e w' => e = .returned (.int .i64 (if left < n then -1 else left - n)) ∧ w' = w := by
  have hu30 := Tryd.underlying30
  have hw : wrap64 (left - (n : Int)) = left - n := by unfold wrap64; omega
  by_cases h : left < (n : Int)
  · have hd : decide (left - (n : Int) < 0) = true := decide_eq_true (by omega)
    have h2 : left - (n : Int) < 0 := by omega
    have HH := Aside0.mk h
    clear h h0 h1 hn
    go_enter Tryd.func10, Tryd.ntmps10
    go_wp2
    all_goals (go_ret; exact ⟨rfl, rfl⟩)
  · have hd : decide (left - (n : Int) < 0) = false := decide_eq_false (by omega)
    have h2 : ¬ (left - (n : Int) < 0) := by omega
    have HH := Aside0.mk h
    clear h h0 h1 hn
    go_enter Tryd.func10, Tryd.ntmps10
    go_wp2
    all_goals (go_ret; exact ⟨rfl, rfl⟩)
set_option maxHeartbeats 8000000 in
set_option maxRecDepth 100000 in
theorem laws_eqCxS.calls2 (A B : Option Addr) (ca cb : Nat) (xs ys : List (Nat × Nat)) (w : World) (hx : Aside0 (RC w A xs)) (hy : Aside0 (RC w B ys)) (hl : xs.length ≤ 1048576) (hyl : ys.length = xs.length) (hsame : Aside0 (∀ i, Same (xs.getD i (0, 0)).1 (ys.getD i (0, 0)).1 ∧ Same (xs.getD i (0, 0)).2 (ys.getD i (0, 0)).2)) :
    Calls Tryd.prog 13 #[.slice A xs.length ca, .slice B ys.length cb] w fun e w' => e = .returned (.bool true) ∧ Below w.heap.size w w' := by
  have hu25 := Tryd.underlying25
  have hu28 := Tryd.underlying28
  have hu26 := Tryd.underlying26
  have HB := Aside0.mk (Below.refl w.heap.size w)
  have HL := Aside0.mk hl
  have HYL := Aside0.mk hyl
  rw [hyl]
  clear hl hyl
  go_enter Tryd.func13, Tryd.ntmps13
  go_wp2
  go_loopg [5] xs.length (fun kq v5 w' => ∃ i : Nat, v5 = .int .i64 (i : Int) ∧ Aside0 (i + kq = xs.length) ∧ Aside0 (Below w.heap.size w w'))
  case atStart => exact ⟨0, rfl, ⟨by omega⟩, HB⟩
  case round =>
    clear HB
    obtain ⟨i, rfl, HK, HB⟩ := hrel
    by_cases hi : i < xs.length
    · obtain ⟨ad, ea, hc, hc1⟩ := hx.out.below HB.out i hi
      obtain ⟨bd, eb, hd, hd1⟩ := hy.out.below HB.out i (by rw [HYL.out]; exact hi)
      have HS1 := Aside0.mk (hsame.out i).1
      have HS2 := Aside0.mk (hsame.out i).2
      generalize xs.getD i (0, 0) = X at hc hc1 HS1 HS2
      generalize ys.getD i (0, 0) = Z at hd hd1 HS1 HS2
      obtain ⟨X, Y⟩ := X
      obtain ⟨Z, U⟩ := Z
      have HI := Aside0.mk hi
      have p0 : (0 ≤ (i : Int)) = True := eq_true (by omega)
      have p1 : ((i : Int) < (xs.length : Int)) = True := eq_true (by omega)
      have Hw : Aside0 (wrap64 ((i : Int) + 1) = ((i + 1 : Nat) : Int)) := ⟨by have := HL.out; unfold wrap64; omega⟩
      clear hi
      cases ea
      cases eb
      try go_wp2
      refine start_ (n := 10) (S := fun w' => w'.cell? (ad.add (i * 2)) = some (.float .f64 X) ∧ w'.cell? ⟨(ad.add (i * 2)).block, (ad.add (i * 2)).off + 1, none⟩ = some (.float .f64 Y) ∧ w'.cell? (bd.add (i * 2)) = some (.float .f64 Z) ∧ w'.cell? ⟨(bd.add (i * 2)).block, (bd.add (i * 2)).off + 1, none⟩ = some (.float .f64 U)) (ds := []) #[false, false, false, false, false, false, false, false, false, false] (by kernel_rfl) rfl rfl ⟨hc, hc1, hd, hd1⟩ (fun hHeld => ?_)
      replace HB := Aside0.mk (below_drew1 HB.out)
      clear hc hd hc1 hd1
      generalize World.drew _ = V at HB hHeld ⊢
      refine pure_ (i := 0) (N := some 17) (v := ?_) (a' := ?_) #[true, false, false, false, false, false, false, false, false, false] rfl rfl (by kernel_rfl) (fun _ _ _ h => h) (Or.inl ⟨by rfl, ?_⟩) ?_ ?_
      rotate_left
      · intro w'
        go_simp
        with_reducible rfl
      rotate_left
      · simp only [Act.put, List.setIfInBounds_toArray, List.set_cons_zero, List.set_cons_succ, i64_w, i32_w]
        rfl
      refine pure_ (i := 1) (N := some 18) (v := ?_) (a' := ?_) #[true, true, false, false, false, false, false, false, false, false] rfl rfl (by kernel_rfl) (fun _ _ _ h => h) (Or.inl ⟨by rfl, ?_⟩) ?_ ?_
      rotate_left
      · intro w'
        go_simp
        with_reducible rfl
      rotate_left
      · simp only [Act.put, List.setIfInBounds_toArray, List.set_cons_zero, List.set_cons_succ, i64_w, i32_w]
        rfl
      refine pure_ (i := 2) (N := some 19) (v := ?_) (a' := ?_) #[true, true, true, false, false, false, false, false, false, false] rfl rfl (by kernel_rfl) (fun _ _ _ h => h) (Or.inl ⟨by rfl, ?_⟩) ?_ ?_
      rotate_left
      · intro w'
        go_simp
        with_reducible rfl
      rotate_left
      · simp only [Act.put, List.setIfInBounds_toArray, List.set_cons_zero, List.set_cons_succ, i64_w, i32_w]
        rfl
      refine take_ (i := 3) (N := some 20) (v := ?_) (a' := ?_) #[true, true, true, true, false, false, false, false, false, false] rfl rfl (by kernel_rfl) (fun _ _ _ h => h) (Or.inl ⟨by rfl, ?_⟩) hHeld ?_ ?_
      rotate_left
      · rintro w' ⟨s0, s1, s2, s3⟩
        go_simp
        with_reducible rfl
      rotate_left
      · simp only [Act.put, List.setIfInBounds_toArray, List.set_cons_zero, List.set_cons_succ, i64_w, i32_w]
        rfl
      refine pure_ (i := 4) (N := some 21) (v := ?_) (a' := ?_) #[true, true, true, true, true, false, false, false, false, false] rfl rfl (by kernel_rfl) (fun _ _ _ h => h) (Or.inl ⟨by rfl, ?_⟩) ?_ ?_
      rotate_left
      · intro w'
        go_simp
        with_reducible rfl
      rotate_left
      · simp only [Act.put, List.setIfInBounds_toArray, List.set_cons_zero, List.set_cons_succ, i64_w, i32_w]
        rfl
      refine pure_ (i := 5) (N := some 22) (v := ?_) (a' := ?_) #[true, true, true, true, true, true, false, false, false, false] rfl rfl (by kernel_rfl) (fun _ _ _ h => h) (Or.inl ⟨by rfl, ?_⟩) ?_ ?_
      rotate_left
      · intro w'
        go_simp
        with_reducible rfl
      rotate_left
      · simp only [Act.put, List.setIfInBounds_toArray, List.set_cons_zero, List.set_cons_succ, i64_w, i32_w]
        rfl
      refine pure_ (i := 6) (N := some 23) (v := ?_) (a' := ?_) #[true, true, true, true, true, true, true, false, false, false] rfl rfl (by kernel_rfl) (fun _ _ _ h => h) (Or.inl ⟨by rfl, ?_⟩) ?_ ?_
      rotate_left
      · intro w'
        go_simp
        with_reducible rfl
      rotate_left
      · simp only [Act.put, List.setIfInBounds_toArray, List.set_cons_zero, List.set_cons_succ, i64_w, i32_w]
        rfl
      refine take_ (i := 7) (N := some 24) (v := ?_) (a' := ?_) #[true, true, true, true, true, true, true, true, false, false] rfl rfl (by kernel_rfl) (fun _ _ _ h => h) (Or.inl ⟨by rfl, ?_⟩) hHeld ?_ ?_
      rotate_left
      · rintro w' ⟨s0, s1, s2, s3⟩
        go_simp
        with_reducible rfl
      rotate_left
      · simp only [Act.put, List.setIfInBounds_toArray, List.set_cons_zero, List.set_cons_succ, i64_w, i32_w]
        rfl
      refine one_ (i := 8) (N := some 25) #[true, true, true, true, true, true, true, true, true, false] rfl rfl (by kernel_rfl) (by decide) (fun K hK => ?_)
      refine goes_ Tryd.func20 (by kernel_rfl) rfl #[.agg #[.float .f64 X, .float .f64 Y], .agg #[.float .f64 Z, .float .f64 U]] (by rfl) rfl rfl (by (try simp only [List.map_toArray, List.map_cons, List.map_nil]); first | done | rfl | simp) ?_
      with_reducible refine (laws_eqCx.calls X Y Z U HS1 HS2 _).mono ?_
      rintro e W1 ⟨rfl, hb⟩
      refine ⟨_, rfl, ?_⟩
      replace HB := Aside0.mk (below_step HB.out hb)
      replace hHeld := And.intro ((hb.cell (World.block_lt_of_cell? _ _ hHeld.1)).trans hHeld.1) (And.intro ((hb.cell (World.block_lt_of_cell? _ _ hHeld.2.1)).trans hHeld.2.1) (And.intro ((hb.cell (World.block_lt_of_cell? _ _ hHeld.2.2.1)).trans hHeld.2.2.1) ((hb.cell (World.block_lt_of_cell? _ _ hHeld.2.2.2)).trans hHeld.2.2.2)))
      clear hb
      refine hK.out _ _ hHeld (fun _ => ?_)
      clear hK K
      refine norm_ (a' := ?_) ?_ ?_
      rotate_left
      · show Act.put _ (some 25) _ = _
        simp only [Act.put, List.setIfInBounds_toArray, List.set_cons_zero, List.set_cons_succ, i64_w, i32_w]
        rfl
      refine pure_ (i := 9) (N := some 26) (v := ?_) (a' := ?_) #[true, true, true, true, true, true, true, true, true, true] rfl rfl (by kernel_rfl) (fun _ _ _ h => h) (Or.inl ⟨by rfl, ?_⟩) ?_ ?_
      rotate_left
      · intro w'
        go_simp
        with_reducible rfl
      rotate_left
      · simp only [Act.put, List.setIfInBounds_toArray, List.set_cons_zero, List.set_cons_succ, i64_w, i32_w]
        rfl
      refine done_ (by kernel_rfl) ?_
      clear hHeld
      try go_wp2
      go_roundg (gk - 1)
      case measure => have := HK.out; have := HI.out; omega
      case rel => exact ⟨i + 1, by first | rfl | rw [Hw.out], ⟨by have := HK.out; have := HI.out; omega⟩, HB⟩
    · clear HK
      go_wp2
      go_ret
      exact ⟨rfl, HB.out⟩
/-- The pairs' numbers in a row. -/
def flat : List (Nat × Nat) → List Nat
  | [] => []
  | p :: l => p.1 :: p.2 :: flat l
theorem flat_length (xs : List (Nat × Nat)) : (flat xs).length = xs.length * 2 := by induction xs with
  | nil => rfl
  | cons p l ih => simp only [flat, List.length_cons, ih]; omega
theorem flat_fst (xs : List (Nat × Nat)) (i : Nat) : (flat xs).getD (i * 2) 0 = (xs.getD i (0, 0)).1 := by induction xs generalizing i with
  | nil => simp [flat]
  | cons p l ih =>
    cases i with
    | zero => simp [flat]
    | succ i => rw [show (i + 1) * 2 = i * 2 + 1 + 1 by omega, flat, List.getD_cons_succ, List.getD_cons_succ, List.getD_cons_succ, ih]
theorem flat_snd (xs : List (Nat × Nat)) (i : Nat) : (flat xs).getD (i * 2 + 1) 0 = (xs.getD i (0, 0)).2 := by induction xs generalizing i with
  | nil => simp [flat]
  | cons p l ih =>
    cases i with
    | zero => simp [flat]
    | succ i => rw [show (i + 1) * 2 + 1 = (i * 2 + 1) + 1 + 1 by omega, flat, List.getD_cons_succ, List.getD_cons_succ, List.getD_cons_succ, ih]
theorem RC.of_blk {w : World} {g : Nat} {xs : List (Nat × Nat)} (h : w.heap[g]? = some (.cells (FA (flat xs)) 28 (0, 0))) : RC w (some ⟨g, 0, none⟩) xs := fun i hi => by
  refine ⟨_, rfl, ?_, ?_⟩
  · rw [add_plain, ← flat_fst]; exact (blk_cell h _).trans (FA_at _ _ (by rw [flat_length]; omega))
  · rw [add_plain, ← flat_snd]; show w.cell? ⟨g, i * 2 + 1, none⟩ = _; exact (blk_cell h (i * 2 + 1)).trans (FA_at _ _ (by rw [flat_length]; omega))
theorem made_FA2 (n : Nat) : madeCells #[.float .f64 0, .float .f64 0] (n * 2) = FA (List.replicate (n * 2) 0) := by
  apply Array.ext
  · simp [madeCells, FA]
  · intro i h1 h2
    simp [madeCells, FA]
    have : i % 2 = 0 ∨ i % 2 = 1 := by omega
    rcases this with e | e <;> rw [e] <;> rfl
set_option maxHeartbeats 8000000 in
set_option maxRecDepth 100000 in
theorem laws_toCxS.calls (A : Option Addr) (cap : Nat) (xs : List (Nat × Nat)) (w : World) (hr : Aside0 (RC w A xs)) (hl : xs.length ≤ 1048576) :
    Calls Tryd.prog 12 #[.slice A xs.length cap] w fun e w' => ∃ g, e = .returned (.slice (some ⟨g, 0, none⟩) xs.length xs.length) ∧ w'.heap[g]? = some (.cells (FA (flat xs)) 28 (0, 0)) ∧ w.heap.size ≤ g ∧ Below w.heap.size w w' := by
  have hu30 := Tryd.underlying30
  have hu25 := Tryd.underlying25
  have hu38 := Tryd.underlying38
  have hu28 := Tryd.underlying28
  have hu26 := Tryd.underlying26
  have HB := Aside0.mk (Below.refl w.heap.size w)
  have HL := Aside0.mk hl
  have hmk : ∀ W : World, (Instr.makeSlice 25 (.int .i64 (xs.length : Int)) (.int .i64 (xs.length : Int))).run Tryd.prog W = .ok (.slice (some ⟨W.heap.size, 0, none⟩) xs.length xs.length) (W.alloc (.cells (FA (List.replicate (xs.length * 2) 0)) 28)) := by
    intro W
    have hinfo : (Tryd.prog.info? 28).map (fun i => (i.zero, i.size, i.bytes)) = some (some (Value.agg #[.float .f64 0, .float .f64 0]), 2, 16) := by kernel_rfl
    obtain ⟨i, hi, hz⟩ := Option.map_eq_some_iff.1 hinfo
    simp only [Prod.mk.injEq] at hz
    obtain ⟨hz0, hz1, hz2⟩ := hz
    have h := run_make W 25 28 i (Value.agg #[.float .f64 0, .float .f64 0]) Tryd.underlying25 hi hz0 .i64 .i64 (xs.length : Int) (xs.length : Int) (by omega) (by omega) (by rw [hz2]; omega) (by omega)
    rw [hz1] at h
    simp only [Int.toNat_natCast] at h
    rw [h, ← made_FA2]
    rfl
  clear hl
  go_enter Tryd.func12, Tryd.ntmps12
  go_wp2
  clear hmk
  have BK : Aside0 ((w.alloc (.cells (FA (List.replicate (xs.length * 2) 0)) 28)).heap[w.heap.size]? = some (.cells (FA (FB (flat xs) (0 * 2))) 28 (0, 0))) := ⟨by rw [FB_zero, flat_length]; exact blk_new w _⟩
  replace HB : Aside0 (Below w.heap.size w (w.alloc (.cells (FA (List.replicate (xs.length * 2) 0)) 28))) := ⟨below_alloc HB.out _⟩
  generalize w.alloc (.cells (FA (List.replicate (xs.length * 2) 0)) 28) = w1 at BK HB ⊢
  go_loopg [4] xs.length (fun kq v4 w' => ∃ i : Nat, v4 = .int .i64 (i : Int) ∧ Aside0 (i + kq = xs.length) ∧ Aside0 (w'.heap[w.heap.size]? = some (.cells (FA (FB (flat xs) (i * 2))) 28 (0, 0))) ∧ Aside0 (Below w.heap.size w w'))
  case atStart => exact ⟨0, rfl, ⟨by omega⟩, BK, HB⟩
  case round =>
    clear BK HB
    obtain ⟨i, rfl, HK, BK, HB⟩ := hrel
    by_cases hi : i < xs.length
    · obtain ⟨ad, ea, hc, hd⟩ := hr.out.below HB.out i hi
      have HX0 := Aside0.mk (flat_fst xs i)
      have HX1 := Aside0.mk (flat_snd xs i)
      generalize xs.getD i (0, 0) = X at hc hd HX0 HX1
      obtain ⟨X, Y⟩ := X
      have HI := Aside0.mk hi
      have p0 : (0 ≤ (i : Int)) = True := eq_true (by omega)
      have p1 : ((i : Int) < (xs.length : Int)) = True := eq_true (by omega)
      have Hw : Aside0 (wrap64 ((i : Int) + 1) = ((i + 1 : Nat) : Int)) := ⟨by have := HL.out; unfold wrap64; omega⟩
      clear hi
      cases ea
      go_wp2_with (first | ((with_reducible refine gate_dst (N := 20) rfl ?_); refine goesL_ (some 20) rfl rfl Tryd.func19 (by kernel_rfl) rfl #[.agg #[.float .f64 X, .float .f64 Y]] rfl (by (try simp only [List.map_toArray, List.map_cons, List.map_nil]); first | done | rfl) ?_; (with_reducible refine (laws_toCx.calls X Y _).mono ?_); rintro e W1 ⟨rfl, hb⟩; refine ⟨_, rfl, ?_⟩; replace BK := Aside0.mk (blk_below BK.out hb); replace HB := Aside0.mk (below_step HB.out hb); clear hb hc hd; have c20 : W1.cell? ⟨w.heap.size, i * 2, none⟩ = some (.float .f64 ((FB (flat xs) (i * 2)).getD (i * 2) 0)) := (blk_cell BK.out (i * 2)).trans (FA_at _ _ (by rw [FB_length _ _ (by rw [flat_length]; have := HI.out; omega), flat_length]; have := HI.out; omega)); have c21 : W1.cell? ⟨w.heap.size, i * 2 + 1, none⟩ = some (.float .f64 ((FB (flat xs) (i * 2)).getD (i * 2 + 1) 0)) := (blk_cell BK.out (i * 2 + 1)).trans (FA_at _ _ (by rw [FB_length _ _ (by rw [flat_length]; have := HI.out; omega), flat_length]; have := HI.out; omega)); have f20 := blk_frozen BK.out (i * 2); have f21 := blk_frozen BK.out (i * 2 + 1)))
      go_roundg (gk - 1)
      case measure => have := HK.out; have := HI.out; omega
      case rel => exact ⟨i + 1, by first | rfl | rw [Hw.out], ⟨by have := HK.out; have := HI.out; omega⟩, ⟨by
        have h := blk_set (blk_set BK.out (i * 2) (.float .f64 X)) (i * 2 + 1) (.float .f64 Y)
        have h0 : X = (flat xs).getD (i * 2) 0 := HX0.out.symm
        have h1 : Y = (flat xs).getD (i * 2 + 1) 0 := HX1.out.symm
        rw [FA_set, FA_set] at h
        rw [show (i + 1) * 2 = i * 2 + 1 + 1 by omega, ← FB_step (flat xs) (i * 2 + 1) (by rw [flat_length]; have := HI.out; omega), ← FB_step (flat xs) (i * 2) (by rw [flat_length]; have := HI.out; omega), ← h0, ← h1]
        exact h⟩, ⟨below_set (below_set HB.out (Nat.le_refl _)) (Nat.le_refl _)⟩⟩
    · have e : i = xs.length := by have := HK.out; omega
      have BK2 : Aside0 (wr.heap[w.heap.size]? = some (.cells (FA (flat xs)) 28 (0, 0))) := ⟨by have := BK.out; rw [e, ← flat_length, FB_full] at this; exact this⟩
      clear e BK HK
      go_wp2
      go_ret
      exact ⟨_, rfl, BK2.out, Nat.le_refl _, HB.out⟩
theorem laws_eqCxS.calls (A B : Option Addr) (ca cb : Nat) (xs : List (Nat × Nat)) (w : World) (hx : Aside0 (RC w A xs)) (hy : Aside0 (RC w B xs)) (hl : xs.length ≤ 1048576) :
    Calls Tryd.prog 13 #[.slice A xs.length ca, .slice B xs.length cb] w fun e w' => e = .returned (.bool true) ∧ Below w.heap.size w w' := laws_eqCxS.calls2 A B ca cb xs xs w hx hy hl rfl ⟨fun _ => ⟨Same.rfl, Same.rfl⟩⟩
end Go.Proofs.YtnldjdpophkkcaaDoor.PFnExactWaves
