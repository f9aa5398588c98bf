/- FnExactWaves, FnExactBack, FnWavesBack: walks, floats told up to NaN. Written by wip/barred/gen_base.py. -/
import Derived.Test.YtnldjdpophkkcaaDoorPFnExactWavesx2
import Derived.Outline
import Derived.LoopN
import Derived.RegionTactic
import Derived.BigRegion
namespace Go.Proofs.YtnldjdpophkkcaaDoor.PFnExactWaves
open Go.RowKit Go.Proofs.YtnldjdpophkkcaaDoorW.PrintWords Go.Proofs.YtnldjdpophkkcaaDoorW.PrintLast Go.Proofs.YtnldjdpophkkcaaDoorW.PrintMore Go.Proofs.YtnldjdpophkkcaaDoor.Fl
attribute [local go_sem] run_store_float
set_option linter.unusedVariables false
set_option linter.unusedSimpArgs false
attribute [local go_sem] max2_int min2_int max_two min_two max_three min_three max_four min_four
/-- A block whose first cells are the floats zs. -/
def OB (w : World) (g : Nat) (t : TypeId) (zs : List Nat) : Prop := ∃ cur, w.heap[g]? = some (.cells cur t (0, 0)) ∧ ∀ j, j < zs.length → cur[j]? = some (.float .f64 (zs.getD j 0))
theorem OB.cell {w : World} {g t : Nat} {zs : List Nat} (h : OB w g t zs) (j : Nat) (hj : j < zs.length) : w.cell? ⟨g, j, none⟩ = some (.float .f64 (zs.getD j 0)) := by
  obtain ⟨cur, hb, hc⟩ := h
  exact (blk_cell hb j).trans (hc j hj)
theorem OB.frozen {w : World} {g t : Nat} {zs : List Nat} (h : OB w g t zs) (j : Nat) : w.frozen? ⟨g, j, none⟩ = false := by
  obtain ⟨cur, hb, hc⟩ := h
  exact blk_frozen hb j
theorem OB.below {w w' : World} {g t : Nat} {zs : List Nat} (h : OB w g t zs) (hb : Below w.heap.size w w') : OB w' g t zs := by
  obtain ⟨cur, h1, h2⟩ := h
  exact ⟨cur, blk_below h1 hb, h2⟩
theorem OB.far {w : World} {g t : Nat} {zs : List Nat} (h : OB w g t zs) {p : Addr} (hp : g ≠ p.block) (u : Value) : OB (w.setCell p u) g t zs := by
  obtain ⟨cur, h1, h2⟩ := h
  exact ⟨cur, blk_far h1 hp u, h2⟩
theorem OB.set {w : World} {g t : Nat} {zs : List Nat} (h : OB w g t zs) (i x : Nat) : OB (w.setCell ⟨g, i, none⟩ (.float .f64 x)) g t (zs.set i x) := by
  obtain ⟨cur, h1, h2⟩ := h
  refine ⟨_, blk_set h1 i _, fun j hj => ?_⟩
  rw [List.length_set] at hj
  have h3 := h2 j hj
  rw [Array.getElem?_setIfInBounds]
  have hlt : j < cur.size := (Array.getElem?_eq_some_iff.1 h3).1
  by_cases e : i = j
  · subst e
    simp [hlt, hj]
  · rw [if_neg e, h3]
    simp [List.getElem?_set_ne e]
theorem OB.of_FA {w : World} {g t : Nat} {zs : List Nat} (h : w.heap[g]? = some (.cells (FA zs) t (0, 0))) : OB w g t zs := ⟨_, h, fun j hj => FA_at zs j hj⟩
def VF (rs : List Nat) : List Value := rs.map fun x => Value.float .f64 x
theorem VF_length (rs : List Nat) : (VF rs).length = rs.length := by simp [VF]
/-- A row of n elements, own since base. -/
def Row (w : World) (base : Nat) (A : Option Addr) (n : Nat) (t : TypeId) (zs : List Nat) : Prop := n = 0 ∨ ∃ g, A = some ⟨g, 0, none⟩ ∧ base ≤ g ∧ OB w g t zs
theorem Row.of_own {w : World} {base t sz n : Nat} {v : Value} {zs : List Nat} (h : w.ownsRow base t sz v n (VF zs)) : ∃ A cap, v = .slice A n cap ∧ Row w base A n t zs := by
  obtain ⟨hl, h⟩ := h
  rw [VF_length] at hl
  rcases h with ⟨rfl, rfl⟩ | ⟨g, cap, cur, rfl, hb, hh, _, _, _, ht⟩
  · exact ⟨none, 0, rfl, .inl rfl⟩
  · refine ⟨_, cap, rfl, .inr ⟨g, rfl, hb, cur, hh, fun j hj => ?_⟩⟩
    have h2 : (cur.toList.take (n * sz))[j]? = (VF zs)[j]? := by rw [ht]
    rw [List.getElem?_take, if_pos (by omega)] at h2
    rw [← Array.getElem?_toList, h2]
    simp [VF, hj]
theorem Row.rf {w : World} {base n t : Nat} {A : Option Addr} {zs : List Nat} (h : Row w base A n t zs) (hn : zs.length = n) : RF w A zs := fun i hi => by
  rcases h with h | ⟨g, rfl, _, hb⟩
  · omega
  · exact ⟨_, rfl, by rw [add_plain]; exact hb.cell i hi⟩
theorem Row.far {w w' : World} {base n t B : Nat} {A : Option Addr} {zs : List Nat} (h : Row w base A n t zs) (hB : B < base) (hf : ∀ q t zs, q ≠ B → OB w q t zs → OB w' q t zs) : Row w' base A n t zs := by
  rcases h with h | ⟨g, rfl, h1, hb⟩
  · exact .inl h
  · exact .inr ⟨g, rfl, h1, hf g t zs (by omega) hb⟩
theorem Row.below {w w' : World} {base n t : Nat} {A : Option Addr} {zs : List Nat} (h : Row w base A n t zs) (hb : Below w.heap.size w w') : Row w' base A n t zs := by
  rcases h with h | ⟨g, rfl, h1, h2⟩
  · exact .inl h
  · exact .inr ⟨g, rfl, h1, h2.below hb⟩
theorem Row.lower {w : World} {base b n t : Nat} {A : Option Addr} {zs : List Nat} (h : Row w base A n t zs) (hb : b ≤ base) : Row w b A n t zs := by
  rcases h with h | ⟨g, e, h1, h2⟩
  · exact .inl h
  · exact .inr ⟨g, e, Nat.le_trans hb h1, h2⟩
theorem OB.lt {w : World} {g t : Nat} {zs : List Nat} (h : OB w g t zs) : g < w.heap.size := by
  obtain ⟨cur, hb, _⟩ := h
  exact blk_lt hb
/-- Alike up to NaN. -/
def SL (xs ys : List Nat) : Prop := xs.length = ys.length ∧ ∀ i, Same (xs.getD i 0) (ys.getD i 0)
theorem SL.len {xs ys : List Nat} (h : SL xs ys) : xs.length = ys.length := h.1
theorem SL.val {xs ys : List Nat} (h : SL xs ys) (i : Nat) : Same (xs.getD i 0) (ys.getD i 0) := h.2 i
theorem SL.symm {xs ys : List Nat} (h : SL xs ys) : SL ys xs := ⟨h.1.symm, fun i => (h.2 i).symm⟩
theorem SL.trans {xs ys zs : List Nat} (h : SL xs ys) (k : SL ys zs) : SL xs zs := ⟨h.1.trans k.1, fun i => (h.2 i).trans (k.2 i)⟩
theorem SL.snoc {xs ys : List Nat} {x y : Nat} (h : SL xs ys) (hs : Same x y) : SL (xs ++ [x]) (ys ++ [y]) := by
  refine ⟨by simp [h.1], fun i => ?_⟩
  have h1 := h.1
  rcases Nat.lt_trichotomy i xs.length with hi | hi | hi
  · have h2 := h.2 i
    simp only [List.getD_eq_getElem?_getD] at h2 ⊢
    rw [List.getElem?_append_left hi, List.getElem?_append_left (by omega)]
    exact h2
  · simp only [List.getD_eq_getElem?_getD]
    rw [List.getElem?_append_right (by omega), List.getElem?_append_right (by omega), show i - xs.length = 0 by omega, show i - ys.length = 0 by omega]
    exact hs
  · simp only [List.getD_eq_getElem?_getD]
    rw [List.getElem?_append_right (by omega), List.getElem?_append_right (by omega), List.getElem?_eq_none (by simp; omega), List.getElem?_eq_none (by simp; omega)]
    exact Same.rfl
set_option maxHeartbeats 8000000 in
set_option maxRecDepth 100000 in
theorem laws_markCxS.callsB (g cap n : Nat) (zs : List Nat) (k : Int) (w : World) (hb : Aside0 (OB w g 28 zs)) (hz : zs.length = n * 2) (hl : n ≤ 1048576) (h0 : 0 ≤ k) (h1 : k ≤ 1048577) :
    Calls Tryd.prog 14 #[.slice (some ⟨g, 0, none⟩) n cap, .int .i64 k] w fun e w' => e = .returned (.int .i64 (k + 2 * n)) ∧ OB w' g 28 (marks k (n * 2)) ∧ Below g w w' ∧ (∀ q t zs, q ≠ g → OB w q t zs → OB w' q t zs) := by
  have hu25 := Tryd.underlying25
  have hu28 := Tryd.underlying28
  have hu26 := Tryd.underlying26
  have hu3 := Tryd.underlying3
  have Q := Aside0.mk (And.intro hl (And.intro h0 (And.intro h1 hz)))
  have hB : Aside0 (Below g w w) := ⟨Below.refl g w⟩
  clear hl h0 h1 hz
  go_enter Tryd.func14, Tryd.ntmps14
  go_wp2
  go_loopg [1, 5] n (fun kq v1 v5 w' => ∃ (i : Nat) (c : Int), v1 = .int .i64 c ∧ v5 = .int .i64 (i : Int) ∧ Aside0 (c = k + 2 * i) ∧ Aside0 (i + kq = n) ∧ Aside0 (OB w' g 28 (FM zs k (i * 2))) ∧ Aside0 (Below g w w') ∧ Aside0 (∀ q t zs, q ≠ g → OB w q t zs → OB w' q t zs))
  case atStart => exact ⟨0, k, rfl, rfl, ⟨by simp⟩, ⟨by omega⟩, ⟨by have := hb.out; simpa [FM, marks] using this⟩, hB, ⟨fun _ _ _ _ h => h⟩⟩
  case round =>
    clear hb hB
    obtain ⟨i, c, rfl, rfl, HC, HK, BK, HB, HO⟩ := hrel
    by_cases hi : i < n
    · have c20 : wr.cell? ⟨g, i * 2, none⟩ = some (.float .f64 ((FM zs k (i * 2)).getD (i * 2) 0)) := BK.out.cell (i * 2) (by have := Q.out.2.2.2; rw [FM_length _ _ _ (by omega)]; omega)
      have c21 : wr.cell? ⟨g, i * 2 + 1, none⟩ = some (.float .f64 ((FM zs k (i * 2)).getD (i * 2 + 1) 0)) := BK.out.cell (i * 2 + 1) (by have := Q.out.2.2.2; rw [FM_length _ _ _ (by omega)]; omega)
      have f20 := BK.out.frozen (i * 2)
      have f21 := BK.out.frozen (i * 2 + 1)
      have HI := Aside0.mk hi
      have p0 : (0 ≤ (i : Int)) = True := eq_true (by omega)
      have p1 : ((i : Int) < (n : Int)) = True := eq_true (by omega)
      have Hw : Aside0 (wrap64 ((i : Int) + 1) = ((i + 1 : Nat) : Int)) := ⟨by have := Q.out; unfold wrap64; omega⟩
      have hwc : wrap64 (c + 1) = c + 1 := by have := Q.out; have := HC.out; unfold wrap64; omega
      have Hwc := Aside0.mk hwc
      have Hwd : Aside0 (wrap64 (c + 1 + 1) = c + 2) := ⟨by have := Q.out; have := HC.out; unfold wrap64; omega⟩
      clear hi hwc
      go_wp2
      go_roundg (gk - 1)
      case measure => have := HK.out; have := HI.out; omega
      case rel => exact ⟨i + 1, c + 2, by rw [Hwc.out, Hwd.out], by first | rfl | rw [Hw.out], ⟨by have := HC.out; omega⟩, ⟨by have := HK.out; have := HI.out; omega⟩, ⟨by
        have hq := Q.out.2.2.2
        have hi2 := HI.out
        have h := (BK.out.set (i * 2) (floatOfInt .f64 (k + ((i * 2 : Nat) : Int)))).set (i * 2 + 1) (floatOfInt .f64 (k + ((i * 2 + 1 : Nat) : Int)))
        rw [FM_step zs k (i * 2) (by omega), FM_step zs k (i * 2 + 1) (by omega)] at h
        rw [Hwc.out, show (i + 1) * 2 = i * 2 + 1 + 1 by omega, show c = k + ((i * 2 : Nat) : Int) by have := HC.out; omega, show k + ((i * 2 : Nat) : Int) + 1 = k + ((i * 2 + 1 : Nat) : Int) by omega]
        exact h⟩, ⟨(HB.out.setCell (Nat.le_refl _) _).setCell (Nat.le_refl _) _⟩, ⟨fun q t zs hq h => ((HO.out q t zs hq h).far hq _).far hq _⟩⟩
    · have e : i = n := by have := HK.out; omega
      have HC2 : Aside0 (c = k + 2 * n) := ⟨by rw [HC.out, e]⟩
      have BK2 : Aside0 (OB wr g 28 (marks k (n * 2))) := ⟨by have h := BK.out; rw [e, ← Q.out.2.2.2, FM_full, Q.out.2.2.2] at h; exact h⟩
      clear e BK HK HC
      go_wp2
      go_ret
      exact ⟨by rw [← HC2.out] <;> rfl, BK2.out, HB.out, HO.out⟩
theorem RC.of_row {w : World} {base n t : Nat} {A : Option Addr} {xs : List (Nat × Nat)} (h : Row w base A n t (flat xs)) (hn : xs.length = n) : RC w A xs := fun i hi => by
  rcases h with h | ⟨g, rfl, _, hb⟩
  · omega
  · refine ⟨_, rfl, ?_, ?_⟩
    · rw [add_plain, ← flat_fst]; exact hb.cell _ (by rw [flat_length]; omega)
    · rw [add_plain, ← flat_snd]; exact hb.cell (i * 2 + 1) (by rw [flat_length]; omega)
/-- A row of marked pairs: k, k + 1 in the first, and so on. -/
def RM (w : World) (A : Option Addr) (k : Int) (n : Nat) : Prop := ∀ i, i < n → ∃ ad, A = some ad ∧ w.cell? (ad.add (i * 2)) = some (.float .f64 (floatOfInt .f64 (k + ((i * 2 : Nat) : Int)))) ∧ w.cell? ⟨(ad.add (i * 2)).block, (ad.add (i * 2)).off + 1, none⟩ = some (.float .f64 (floatOfInt .f64 (k + ((i * 2 + 1 : Nat) : Int))))
theorem RM.below {w w' : World} {A : Option Addr} {k : Int} {n : Nat} (h : RM w A k n) (hb : Below w.heap.size w w') : RM w' A k n := fun i hi => by
  obtain ⟨ad, e, hc, hd⟩ := h i hi
  exact ⟨ad, e, (hb.cell (World.block_lt_of_cell? w _ hc)).trans hc, (hb.cell (World.block_lt_of_cell? w _ hd)).trans hd⟩
theorem RM.of_row {w : World} {base n t : Nat} {A : Option Addr} {k : Int} (h : Row w base A n t (marks k (n * 2))) : RM w A k n := fun i hi => by
  rcases h with h | ⟨g, rfl, _, hb⟩
  · omega
  · refine ⟨_, rfl, ?_, ?_⟩
    · rw [add_plain, ← marks_at k (n * 2) (i * 2) (by omega)]; exact hb.cell _ (by rw [marks_length]; omega)
    · rw [add_plain, ← marks_at k (n * 2) (i * 2 + 1) (by omega)]; exact hb.cell (i * 2 + 1) (by rw [marks_length]; omega)
set_option maxHeartbeats 8000000 in
set_option maxRecDepth 100000 in
theorem laws_markCxS.calls0 (A : Option Addr) (cap : Nat) (k : Int) (w : World) : Calls Tryd.prog 14 #[.slice A 0 cap, .int .i64 k] w fun e w' => e = .returned (.int .i64 k) ∧ w' = w := by
  have hu25 := Tryd.underlying25
  have hu28 := Tryd.underlying28
  have hu26 := Tryd.underlying26
  have hu3 := Tryd.underlying3
  go_enter Tryd.func14, Tryd.ntmps14
  go_wp2
  go_loopg [1, 5] 0 (fun kq v1 v5 w' => v1 = .int .i64 k ∧ v5 = .int .i64 0 ∧ w = w')
  case atStart => exact ⟨rfl, rfl, rfl⟩
  case round =>
    obtain ⟨rfl, rfl, rfl⟩ := hrel
    go_wp2
    go_ret
    exact ⟨rfl, rfl⟩
theorem laws_markCxS.callsR (base : Nat) (A : Option Addr) (cap n : Nat) (zs : List Nat) (k : Int) (w : World) (hb : Aside0 (Row w base A n 28 zs)) (hz : zs.length = n * 2) (hl : n ≤ 1048576) (h0 : 0 ≤ k) (h1 : k ≤ 1048577) :
    Calls Tryd.prog 14 #[.slice A n cap, .int .i64 k] w fun e w' => e = .returned (.int .i64 (k + 2 * n)) ∧ RM w' A k n ∧ Below base w w' := by
  by_cases e : n = 0
  · subst e
    exact (laws_markCxS.calls0 A cap k w).mono (by rintro e w' ⟨rfl, rfl⟩; exact ⟨by simp, fun i hi => absurd hi (by omega), Below.refl _ _⟩)
  · obtain ⟨g, rfl, hg, hO⟩ := hb.out.resolve_left e
    exact (laws_markCxS.callsB g cap n zs k w ⟨hO⟩ hz hl h0 h1).mono (by rintro e w' ⟨rfl, h1, h2, _⟩; exact ⟨rfl, RM.of_row (base := base) (t := 28) (.inr ⟨g, rfl, hg, h1⟩), h2.mono hg⟩)
set_option maxHeartbeats 8000000 in
set_option maxRecDepth 100000 in
theorem laws_heldCxS.calls (A : Option Addr) (cap n : Nat) (k : Int) (w : World) (hx : Aside0 (RM w A k n)) (hl : n ≤ 1048576) (h0 : 0 ≤ k) (h1 : k ≤ 1048577) :
    Calls Tryd.prog 15 #[.slice A n cap, .int .i64 k] w fun e w' => e = .returned (.int .i64 (k + 2 * n)) ∧ w' = w := by
  have hu25 := Tryd.underlying25
  have hu28 := Tryd.underlying28
  have hu26 := Tryd.underlying26
  have hu3 := Tryd.underlying3
  have Q := Aside0.mk (And.intro hl (And.intro h0 h1))
  clear hl h0 h1
  go_enter Tryd.func15, Tryd.ntmps15
  go_wp2
  go_loopg [1, 5] n (fun kq v1 v5 w' => ∃ (i : Nat) (c : Int), v1 = .int .i64 c ∧ v5 = .int .i64 (i : Int) ∧ Aside0 (c = k + 2 * i) ∧ Aside0 (i + kq = n) ∧ w = w')
  case atStart => exact ⟨0, k, rfl, rfl, ⟨by simp⟩, ⟨by omega⟩, rfl⟩
  case round =>
    obtain ⟨i, c, rfl, rfl, HC, HK, rfl⟩ := hrel
    by_cases hi : i < n
    · obtain ⟨ad, ea, hc, hd⟩ := hx.out i hi
      rw [show k + ((i * 2 : Nat) : Int) = c by have := HC.out; omega] at hc
      rw [show k + ((i * 2 + 1 : Nat) : Int) = c + 1 by have := HC.out; omega] at hd
      have ho : FloatKind.f64.format.order (floatOfInt .f64 c) (floatOfInt .f64 c) = some .eq := order_self (floatOfInt_num c)
      have ho2 : FloatKind.f64.format.order (floatOfInt .f64 (c + 1)) (floatOfInt .f64 (c + 1)) = some .eq := order_self (floatOfInt_num (c + 1))
      have HI := Aside0.mk hi
      have p0 : (0 ≤ (i : Int)) = True := eq_true (by omega)
      have p1 : ((i : Int) < (n : Int)) = True := eq_true (by omega)
      have Hw : Aside0 (wrap64 ((i : Int) + 1) = ((i + 1 : Nat) : Int)) := ⟨by have := Q.out; unfold wrap64; omega⟩
      have hwc : wrap64 (c + 1) = c + 1 := by have := Q.out; have := HC.out; unfold wrap64; omega
      have Hwd : Aside0 (wrap64 (c + 1 + 1) = c + 2) := ⟨by have := Q.out; have := HC.out; unfold wrap64; omega⟩
      clear hi
      cases ea
      go_wp2
      go_roundg (gk - 1)
      case measure => have := HK.out; have := HI.out; omega
      case rel => exact ⟨i + 1, c + 2, by rw [← Hwd.out] <;> simp [hwc], by first | rfl | rw [Hw.out], ⟨by have := HC.out; omega⟩, ⟨by have := HK.out; have := HI.out; omega⟩, rfl⟩
    · have e : i = n := by have := HK.out; omega
      have HC2 : Aside0 (c = k + 2 * n) := ⟨by rw [HC.out, e]⟩
      clear e HK HC
      go_wp2
      go_ret
      exact ⟨by rw [← HC2.out] <;> rfl, rfl⟩
end Go.Proofs.YtnldjdpophkkcaaDoor.PFnExactWaves
