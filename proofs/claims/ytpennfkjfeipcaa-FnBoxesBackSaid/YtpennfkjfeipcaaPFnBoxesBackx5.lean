/- The functions that the law reaches, as Lean functions, each with the proof that the Go code comes to just these answers. Written by a program of this session (wip/tools/handprint.py over the kit's print); by hand where the print takes no such text. -/
-- squeezed
import Derived.Test.YtpennfkjfeipcaaPFnBoxesBackx0
import Derived.Test.YtpennfkjfeipcaaPFnBoxesBackx3
import Derived.Test.YtpennfkjfeipcaaPFnBoxesBackx4
namespace Go.Proofs.Ytpennfkjfeipcaa.PFnBoxesBack
open Go.RowKit Go.Proofs.YtpennfkjfeipcaaW.PrintWords Go.Proofs.YtpennfkjfeipcaaW.PrintLast Go.Proofs.YtpennfkjfeipcaaW.PrintMore
attribute [local go_sem] max2_int min2_int max_two min_two max_three min_three max_four min_four   -- for this text's walks alone
set_option linter.unusedVariables false
set_option linter.unusedSimpArgs false

-- NOT PRINTED: function 40 (impl_readBoxes)

-- short names
theorem u5a : type_of% @List.setIfInBounds_toArray := @List.setIfInBounds_toArray
theorem u5b : type_of% @List.set_cons_zero := @List.set_cons_zero
theorem u5c : type_of% @List.set_cons_succ := @List.set_cons_succ
/-! ### impl_SaveBoxes: function 16 -/
-- rounds 1 making 1
def impl_SaveBoxes.f (k : Nat) (l0 : List Int) : Option (List S46) := if (l0.length : Int) > 40000 then some [] else (rdTop k l0).bind fun s => some s.1
theorem impl_SaveBoxes.mono : ∀ l0 k, LeO (impl_SaveBoxes.f k l0) (impl_SaveBoxes.f (k + 1) l0) := by
 intro l0 k
 unfold impl_SaveBoxes.f
 exact LeO.ite (LeO.refl _) (LeO.bind (rdTop.mono l0 k) (fun _ => LeO.refl _))
set_option maxHeartbeats 8000000 in
set_option maxRecDepth 100000 in
theorem impl_SaveBoxes.calls (k : Nat) (A0 : Option Addr) (c0 : Nat) (l0 : List Int) (r : List S46) (w : World) (hr0 : Kd.C (Kd.int .u8) w A0 l0.length l0) (hc0 : l0.length ≤ c0) (h : impl_SaveBoxes.f k l0 = some r) :
  Calls Try.prog 16 #[.slice A0 l0.length c0] w fun e w' => ∃ v0_ : Value, e = .returned (v0_) ∧ Kd.S k46 46 w' w.heap.size (fun _ => True) v0_ r ∧ Below w.heap.size w w' := by
 have HB := Aside0.mk (Below.refl w.heap.size w)
 have HR0 := Aside0.mk hr0
 have HC0 := Aside0.mk hc0
 clear hr0 hc0
 unfold impl_SaveBoxes.f at h
 by_cases c : (l0.length : Int) > 40000
 ·rw [if_pos c] at h
  obtain rfl := Option.some.inj h
  have cb0 : decide ((40000 : Int) < (l0.length : Int)) = true := decide_eq_true (by omega)
  have cb1 : decide (40000 < l0.length) = true := decide_eq_true (by omega)
  clear h c
  go_enter Try.func16, Try.ntmps16
  go_wp2
  go_ret
  exact ⟨_, rfl, Kd.S_nil _ _ _ _ _, HB.out⟩
 ·rw [if_neg c] at h
  obtain ⟨s, hs, h⟩ := Option.bind_eq_some_iff.1 h
  obtain rfl := Option.some.inj h
  have H := Aside0.mk hs
  have cb0 : decide ((40000 : Int) < (l0.length : Int)) = false := decide_eq_false (by omega)
  have cb1 : decide (40000 < l0.length) = false := decide_eq_false (by omega)
  clear hs h c
  go_enter Try.func16, Try.ntmps16
  go_wp2_with (first | ((with_reducible refine gate_dst (N := 7) rfl ?_); refine goesL_ (some 7) rfl rfl Try.func40 (by kernel_rfl) rfl #[.slice A0 l0.length c0] rfl (by (try simp only [List.map_toArray, List.map_cons, List.map_nil]); first | done | rfl) ?_; (refine (impl_readBoxes.calls k A0 c0 l0 s w HR0.out HC0.out H.out).mono ?_); rintro e_ W4_ ⟨gq, rfl, h0_, vo4, h1_, h2_, h3_⟩; refine ⟨_, rfl, ?_⟩; have HGQ := Aside0.mk h0_; have HG4 := Aside0.mk h1_; have HO4 := Aside0.mk h2_; have HB4 := Aside0.mk h3_; have hq0_ : W4_.cell? ⟨gq, 0, none⟩ = some (Value.slice A0 l0.length c0) := (blk_cell HG4.out 0).trans rfl; have hq1_ : W4_.cell? ⟨gq, 1, none⟩ = some (vo4) := (blk_cell HG4.out 1).trans rfl; have hq2_ : W4_.cell? ⟨gq, 2, none⟩ = some (Value.int .i64 s.2.1) := (blk_cell HG4.out 2).trans rfl; have hq3_ : W4_.cell? ⟨gq, 3, none⟩ = some (Value.int .i64 s.2.2.1) := (blk_cell HG4.out 3).trans rfl; have hq4_ : W4_.cell? ⟨gq, 4, none⟩ = some (Value.int .i64 s.2.2.2) := (blk_cell HG4.out 4).trans rfl; clear h0_ h1_ h2_ h3_))
  go_ret
  exact ⟨_, rfl, Kd.S_mono HO4.out (fun _ _ => trivial), HB4.out⟩


/-! ### impl_ReadBoxes: function 22 -/
-- rounds 1 making 1
def impl_ReadBoxes.f (k : Nat) (l0 : List Int) : Option (List S46 × Int × Int) := if (l0.length : Int) > 40000 then some ([], 1, 0) else (rdTop k l0).bind fun s => if s.2.2.1 = 0 then some (s.1, 0, 0) else some ([], s.2.2.1, s.2.2.2)
theorem impl_ReadBoxes.mono : ∀ l0 k, LeO (impl_ReadBoxes.f k l0) (impl_ReadBoxes.f (k + 1) l0) := by
 intro l0 k
 unfold impl_ReadBoxes.f
 exact LeO.ite (LeO.refl _) (LeO.bind (rdTop.mono l0 k) (fun _ => LeO.refl _))
set_option maxHeartbeats 8000000 in
set_option maxRecDepth 100000 in
theorem impl_ReadBoxes.calls (k : Nat) (A0 : Option Addr) (c0 : Nat) (l0 : List Int) (r1 : List S46) (r2 : Int) (r3 : Int) (w : World) (hr0 : Kd.C (Kd.int .u8) w A0 l0.length l0) (hc0 : l0.length ≤ c0) (h : impl_ReadBoxes.f k l0 = some (r1, r2, r3)) :
  Calls Try.prog 22 #[.slice A0 l0.length c0] w fun e w' => ∃ v0_ : Value, e = .returned (.tuple #[v0_, .agg #[.int .i64 r2, .int .i64 r3]]) ∧ Kd.S k46 46 w' w.heap.size (fun _ => True) v0_ r1 ∧ Below w.heap.size w w' := by
 have HB := Aside0.mk (Below.refl w.heap.size w)
 have HR0 := Aside0.mk hr0
 have HC0 := Aside0.mk hc0
 clear hr0 hc0
 unfold impl_ReadBoxes.f at h
 by_cases c : (l0.length : Int) > 40000
 ·rw [if_pos c] at h
  obtain ⟨rfl, rfl, rfl⟩ : r1 = [] ∧ r2 = 1 ∧ r3 = 0 := by simpa [eq_comm] using h
  have cb0 : decide ((40000 : Int) < (l0.length : Int)) = true := decide_eq_true (by omega)
  have cb1 : decide (40000 < l0.length) = true := decide_eq_true (by omega)
  clear h c
  go_enter Try.func22, Try.ntmps22
  go_wp2_with (first | ((with_reducible refine gate_dst (N := 3) rfl ?_); refine box_event ?hg (N := 3) ?hd (cs := #[.int .i64 0, .int .i64 0]) (t := 37) ?hr ?_; (case hd => rfl); (case hg => rfl); (case hr => first | (go_simp; done) | (go_simp; rfl)); intro gr hgr_ W2_ hbox_ hb_; have HRG : Aside0 (w.heap.size ≤ gr) := ⟨by rw [hgr_]; exact HB.out.size⟩; have HRK := Aside0.mk hbox_; have HB2 := Aside0.mk (below_step HB.out hb_); have HR2 := Aside0.mk (Kd.C_below HR0.out hb_); clear hgr_ hbox_ hb_) | ((with_reducible refine gate_ (.store 37 (.tmp 3) (.tmp 8)) rfl ?_); (refine put_blk_event rfl rfl rfl (g := gr) (off := 0) (cur := #[Value.int .i64 0, Value.int .i64 0]) (cur' := #[Value.int .i64 1, Value.int .i64 0]) (u := .agg #[Value.int .i64 1, Value.int .i64 0]) (seg := [Value.int .i64 1, Value.int .i64 0]) (by rfl) (by rfl) HRK.out rfl (by kernel_rfl) (Nat.le_of_ble_eq_true rfl) (by intro q_ hq_; simp only [List.mem_cons, List.not_mem_nil, or_false] at hq_; rcases hq_ with rfl | rfl <;> rfl) (by rfl) ?_); intro W6_ h1_ h2_ h3_; have HRK6 := Aside0.mk h1_; have HO6 : Aside0 (Kd.S k46 46 W6_ w.heap.size (fun _ => True) (.slice none 0 0) []) := ⟨Kd.S_nil _ _ _ _ _⟩; have HB6 := Aside0.mk (h3_ _ _ HRG.out HB2.out); clear h1_ h2_ h3_))
  refine bodyPost_ret (results_tc rfl _ _ gr 37 #[Value.int .i64 1, Value.int .i64 0] (0, 0) _ rfl HRK6.out Try.underlying37 rfl (by kernel_rfl)) rfl ?_
  exact ⟨_, rfl, HO6.out, HB6.out⟩
 ·rw [if_neg c] at h
  obtain ⟨s, hs, h⟩ := Option.bind_eq_some_iff.1 h
  have H := Aside0.mk hs
  have cb0 : decide ((40000 : Int) < (l0.length : Int)) = false := decide_eq_false (by omega)
  have cb1 : decide (40000 < l0.length) = false := decide_eq_false (by omega)
  clear hs c
  by_cases c2 : s.2.2.1 = 0
  ·rw [if_pos c2] at h
   obtain ⟨rfl, rfl, rfl⟩ : r1 = s.1 ∧ r2 = 0 ∧ r3 = 0 := by simpa [eq_comm] using h
   have e0 : (s.2.2.1 == 0) = true := by simpa using c2
   have e1 : (s.2.2.1 != 0) = false := by simpa using c2
   have e2 : decide (s.2.2.1 = 0) = true := by simpa using c2
   clear h c2
   go_enter Try.func22, Try.ntmps22
   go_wp2_with (first | ((with_reducible refine gate_dst (N := 3) rfl ?_); refine box_event ?hg (N := 3) ?hd (cs := #[.int .i64 0, .int .i64 0]) (t := 37) ?hr ?_; (case hd => rfl); (case hg => rfl); (case hr => first | (go_simp; done) | (go_simp; rfl)); intro gr hgr_ W2_ hbox_ hb_; have HRG : Aside0 (w.heap.size ≤ gr) := ⟨by rw [hgr_]; exact HB.out.size⟩; have HRK := Aside0.mk hbox_; have HB2 := Aside0.mk (below_step HB.out hb_); have HR2 := Aside0.mk (Kd.C_below HR0.out hb_); clear hgr_ hbox_ hb_) | ((with_reducible refine gate_dst (N := 10) rfl ?_); refine goesL_ (some 10) rfl rfl Try.func40 (by kernel_rfl) rfl #[.slice A0 l0.length c0] rfl (by (try simp only [List.map_toArray, List.map_cons, List.map_nil]); first | done | rfl) ?_; (refine (impl_readBoxes.calls k A0 c0 l0 s W2_ HR2.out HC0.out H.out).mono ?_); rintro e_ W4_ ⟨gq, rfl, h0_, vo4, h1_, h2_, h3_⟩; refine ⟨_, rfl, ?_⟩; have HGQ := Aside0.mk h0_; have HG4 := Aside0.mk h1_; have HO4 := Aside0.mk h2_; have HB4 := Aside0.mk h3_; have hq0_ : W4_.cell? ⟨gq, 0, none⟩ = some (Value.slice A0 l0.length c0) := (blk_cell HG4.out 0).trans rfl; have hq1_ : W4_.cell? ⟨gq, 1, none⟩ = some (vo4) := (blk_cell HG4.out 1).trans rfl; have hq2_ : W4_.cell? ⟨gq, 2, none⟩ = some (Value.int .i64 s.2.1) := (blk_cell HG4.out 2).trans rfl; have hq3_ : W4_.cell? ⟨gq, 3, none⟩ = some (Value.int .i64 s.2.2.1) := (blk_cell HG4.out 3).trans rfl; have hq4_ : W4_.cell? ⟨gq, 4, none⟩ = some (Value.int .i64 s.2.2.2) := (blk_cell HG4.out 4).trans rfl; have HRK4 := Aside0.mk (blk_below HRK.out HB4.out); have HBF := Aside0.mk (below_step HB2.out HB4.out); clear h0_ h1_ h2_ h3_) | ((with_reducible refine gate_ (.store 37 (.tmp 3) (.tmp 25)) rfl ?_); (refine put_blk_event rfl rfl rfl (g := gr) (off := 0) (cur := #[Value.int .i64 0, Value.int .i64 0]) (cur' := #[Value.int .i64 0, Value.int .i64 0]) (u := .agg #[Value.int .i64 0, Value.int .i64 0]) (seg := [Value.int .i64 0, Value.int .i64 0]) (by rfl) (by rfl) HRK4.out rfl (by kernel_rfl) (Nat.le_of_ble_eq_true rfl) (by intro q_ hq_; simp only [List.mem_cons, List.not_mem_nil, or_false] at hq_; rcases hq_ with rfl | rfl <;> rfl) (by rfl) ?_); intro W6_ h1_ h2_ h3_; have HRK6 := Aside0.mk h1_; have HO6 := Aside0.mk ((Kd.S_lower (Kd.S_mono (Kd.S_step (Kd.S_bound HO4.out) (fun k_ hk_ _ => h2_ k_ (Nat.ne_of_gt (Nat.lt_of_lt_of_le (blk_lt HRK.out) hk_.2.1)))) (fun _ _ => trivial)) HB2.out.size)); have HB6 := Aside0.mk (h3_ _ _ HRG.out HBF.out); clear h1_ h2_ h3_))
   refine bodyPost_ret (results_tc rfl _ _ gr 37 #[Value.int .i64 0, Value.int .i64 0] (0, 0) _ rfl HRK6.out Try.underlying37 rfl (by kernel_rfl)) rfl ?_
   exact ⟨_, rfl, HO6.out, HB6.out⟩
  ·rw [if_neg c2] at h
   obtain ⟨rfl, rfl, rfl⟩ : r1 = [] ∧ r2 = s.2.2.1 ∧ r3 = s.2.2.2 := by simpa [eq_comm] using h
   have e0 : (s.2.2.1 == 0) = false := by simpa using c2
   have e1 : (s.2.2.1 != 0) = true := by simpa using c2
   have e2 : decide (s.2.2.1 = 0) = false := by simpa using c2
   clear h c2
   go_enter Try.func22, Try.ntmps22
   go_wp2_with (first | ((with_reducible refine gate_dst (N := 3) rfl ?_); refine box_event ?hg (N := 3) ?hd (cs := #[.int .i64 0, .int .i64 0]) (t := 37) ?hr ?_; (case hd => rfl); (case hg => rfl); (case hr => first | (go_simp; done) | (go_simp; rfl)); intro gr hgr_ W2_ hbox_ hb_; have HRG : Aside0 (w.heap.size ≤ gr) := ⟨by rw [hgr_]; exact HB.out.size⟩; have HRK := Aside0.mk hbox_; have HB2 := Aside0.mk (below_step HB.out hb_); have HR2 := Aside0.mk (Kd.C_below HR0.out hb_); clear hgr_ hbox_ hb_) | ((with_reducible refine gate_dst (N := 10) rfl ?_); refine goesL_ (some 10) rfl rfl Try.func40 (by kernel_rfl) rfl #[.slice A0 l0.length c0] rfl (by (try simp only [List.map_toArray, List.map_cons, List.map_nil]); first | done | rfl) ?_; (refine (impl_readBoxes.calls k A0 c0 l0 s W2_ HR2.out HC0.out H.out).mono ?_); rintro e_ W4_ ⟨gq, rfl, h0_, vo4, h1_, h2_, h3_⟩; refine ⟨_, rfl, ?_⟩; have HGQ := Aside0.mk h0_; have HG4 := Aside0.mk h1_; have HO4 := Aside0.mk h2_; have HB4 := Aside0.mk h3_; have hq0_ : W4_.cell? ⟨gq, 0, none⟩ = some (Value.slice A0 l0.length c0) := (blk_cell HG4.out 0).trans rfl; have hq1_ : W4_.cell? ⟨gq, 1, none⟩ = some (vo4) := (blk_cell HG4.out 1).trans rfl; have hq2_ : W4_.cell? ⟨gq, 2, none⟩ = some (Value.int .i64 s.2.1) := (blk_cell HG4.out 2).trans rfl; have hq3_ : W4_.cell? ⟨gq, 3, none⟩ = some (Value.int .i64 s.2.2.1) := (blk_cell HG4.out 3).trans rfl; have hq4_ : W4_.cell? ⟨gq, 4, none⟩ = some (Value.int .i64 s.2.2.2) := (blk_cell HG4.out 4).trans rfl; have HRK4 := Aside0.mk (blk_below HRK.out HB4.out); have HBF := Aside0.mk (below_step HB2.out HB4.out); clear h0_ h1_ h2_ h3_))
   refine start_ (n := 6) (S := fun w' => w'.heap[gq]? = some (.cells #[.slice A0 l0.length c0, vo4, .int .i64 s.2.1, .int .i64 s.2.2.1, .int .i64 s.2.2.2] 56 (0, 0))) (ds := [5]) #[false, false, false, false, false, false] (by kernel_rfl) rfl rfl HG4.out (fun hHeld => ?_)
   have HRKd : Aside0 ((World.drew W4_).heap[gr]? = some (.cells #[Value.int .i64 0, Value.int .i64 0] 37 (0, 0))) := ⟨HRK4.out⟩
   have HBd : Aside0 (Below w.heap.size w (World.drew W4_)) := ⟨Below.mk HBF.out.os HBF.out.tape HBF.out.output HBF.out.size HBF.out.block⟩
   clear HRK4 HG4 HBF HB4 HO4 hq0_ hq1_ hq2_ hq3_ hq4_
   generalize World.drew W4_ = V at HRKd hHeld HBd ⊢
   refine pure_ (i := 0) (N := some 17) (v := ?_) (a' := ?_) #[true, false, false, false, false, false] rfl rfl (by kernel_rfl) (fun _ _ _ h => h) (Or.inl ⟨by rfl, ?_⟩) ?_ ?_
   rotate_left
   ·intro w'
    go_simp
    with_reducible rfl
   rotate_left
   ·simp only [Act.put, u5a, u5b, u5c, i64_w, i32_w]
    rfl
   refine pure_ (i := 1) (N := some 18) (v := ?_) (a' := ?_) #[true, true, false, false, false, false] rfl rfl (by kernel_rfl) (fun _ _ _ h => h) (Or.inl ⟨by rfl, ?_⟩) ?_ ?_
   rotate_left
   ·intro w'
    go_simp
    with_reducible rfl
   rotate_left
   ·simp only [Act.put, u5a, u5b, u5c, i64_w, i32_w]
    rfl
   refine pure_ (i := 2) (N := some 19) (v := ?_) (a' := ?_) #[true, true, true, false, false, false] rfl rfl (by kernel_rfl) (fun _ _ _ h => h) (Or.inl ⟨by rfl, ?_⟩) ?_ ?_
   rotate_left
   ·intro w'
    go_simp
    with_reducible rfl
   rotate_left
   ·simp only [Act.put, u5a, u5b, u5c, i64_w, i32_w]
    rfl
   refine take_ (i := 3) (N := some 20) (v := ?_) (a' := ?_) #[true, true, true, true, false, false] rfl rfl (by kernel_rfl) (fun _ _ _ h => h) (Or.inl ⟨by rfl, ?_⟩) hHeld ?_ ?_
   rotate_left
   ·intro w' hS
    have hc3_ : w'.cell? ⟨gq, 3, none⟩ = some (.int .i64 s.2.2.1) := (blk_cell hS 3).trans rfl
    have hc4_ : w'.cell? ⟨gq, 4, none⟩ = some (.int .i64 s.2.2.2) := (blk_cell hS 4).trans rfl
    go_simp
    with_reducible rfl
   rotate_left
   ·simp only [Act.put, u5a, u5b, u5c, i64_w, i32_w]
    rfl
   have HO5 : Aside0 (Kd.S k46 46 V w.heap.size (fun k_ => k_ ≠ gr) (.slice none 0 0) []) := ⟨Kd.S_nil _ _ _ _ _⟩
   have HB5 := HBd
   have HRK5 := HRKd
   refine pure_ (i := 4) (N := some 2) (v := ?_) (a' := ?_) #[true, true, true, true, true, false] rfl rfl (by kernel_rfl) (fun _ _ _ h => h) (Or.inl ⟨by rfl, ?_⟩) ?_ ?_
   rotate_left
   ·intro w'
    go_simp
    with_reducible rfl
   rotate_left
   ·simp only [Act.put, u5a, u5b, u5c, i64_w, i32_w]
    rfl
   refine last_ (i := 5) (N := none) #[true, true, true, true, true, true] rfl rfl (by kernel_rfl) (by decide) (fun K hK => ?_)
   refine put_blk_step (by rfl) rfl rfl (g := gr) (off := 0) (cur := #[Value.int .i64 0, Value.int .i64 0]) (cur' := #[Value.int .i64 s.2.2.1, Value.int .i64 s.2.2.2]) (u := .agg #[Value.int .i64 s.2.2.1, Value.int .i64 s.2.2.2]) (seg := [Value.int .i64 s.2.2.1, Value.int .i64 s.2.2.2]) (by rfl) (by rfl) HRK5.out rfl (by kernel_rfl) (Nat.le_of_ble_eq_true rfl) (by intro q_ hq_; simp only [List.mem_cons, List.not_mem_nil, or_false] at hq_; rcases hq_ with rfl | rfl <;> rfl) (by rfl) ?_
   intro W6_ h1_ h2_ h3_
   have HRK6 := Aside0.mk h1_
   have HO6 := Aside0.mk (Kd.S_mono (Kd.S_step HO5.out (fun k_ hk_ _ => h2_ k_ hk_)) (fun _ _ => trivial : ∀ k, k ≠ gr → True))
   have HB6 := Aside0.mk (h3_ _ _ HRG.out HB5.out)
   clear h1_ h2_ h3_
   refine hK.out _ _ ?_
   clear hK K
   refine done_ (by kernel_rfl) ?_
   go_wp2
   refine bodyPost_ret (results_tc rfl _ _ gr 37 #[Value.int .i64 s.2.2.1, Value.int .i64 s.2.2.2] (0, 0) _ rfl HRK6.out Try.underlying37 rfl (by kernel_rfl)) rfl ?_
   exact ⟨_, rfl, HO6.out, HB6.out⟩


/-! ### spec_l2Show: function 42 -/
-- rounds 1 making 1
theorem rows_C {W : World} {g : Nat} {vs : List Value} {ls : List (List Int)} (hb : W.heap[g]? = some (.cells vs.toArray 29 (0, 0))) (hm : ls.length ≤ 9223372036854775807)
  (h : ∀ (j : Nat) (l : List Int), ls[j]? = some l → ∃ A c, vs[j]? = some (Value.slice A l.length c) ∧ l.length ≤ c ∧ Kd.C (Kd.int .u8) W A l.length l) : Kd.C (Kd.slice 5 (Kd.int .u8)) W (some ⟨g, 0, none⟩) ls.length ls := by
 refine ⟨rfl, hm, fun _ => ⟨⟨g, 0, none⟩, rfl, fun j l hl => ?_⟩⟩
 obtain ⟨A, c, h1, h2, h3⟩ := h j l hl
 refine ⟨[.slice A l.length c], rfl, ⟨A, c, rfl, h2, h3⟩, fun i u hu => ?_⟩
 cases i with
 | zero =>
  obtain rfl : Value.slice A l.length c = u := by simpa using hu
  have e : (Addr.add ⟨g, 0, none⟩ (j * (Kd.slice 5 (Kd.int .u8)).sz + 0)) = ⟨g, j, none⟩ := by
   show Addr.add ⟨g, 0, none⟩ (j * 1 + 0) = _
   rw [Nat.mul_one, Nat.add_zero]
   exact add_plain g j
  rw [e]
  have h4 := blk_cell hb j
  rw [h4]
  simpa using h1
 | succ i => simp at hu
theorem bytes_C (W : World) (e : TypeId) (s : ByteArray) (hs : s.size ≤ 9223372036854775807) : Kd.C (Kd.int .u8) (Lib.bytesWorld W e s) (some ⟨W.heap.size, 0, none⟩) s.size (bytesOf s) := by
 obtain ⟨h1, h2, h3⟩ := bytes_reads W e s hs
 refine ⟨h1, h2, fun h0 => ?_⟩
 obtain ⟨ad, h4, h5⟩ := h3 h0
 refine ⟨ad, h4, fun j p hp => ⟨[.int .u8 p], rfl, rfl, fun i u hu => ?_⟩⟩
 cases i with
 | zero =>
  obtain rfl : Value.int .u8 p = u := by simpa using hu
  have hj : j < s.size := by rw [← h1]; exact (List.getElem?_eq_some_iff.1 hp).1
  have h6 := h5 j hj
  rw [List.getD_eq_getElem?_getD, hp] at h6
  have e : j * (Kd.int IntKind.u8).sz + 0 = j := by show j * 1 + 0 = j; omega
  rw [e]
  exact h6
 | succ i => simp at hu
section
variable {P : Program} {Q : Exit → Act → World → Prop} {ops : Array Oper} {o : Oper} {a : Act} {Kc : Act → World → Prop}
/-- A literal of values, in a region. -/
theorem lit_step {W : World} (hw : Region.wanted o (yielded ops a.tmps) = true) {N : Tmp} (_hd : o.dst = some N) {vs : List Value} {n : Nat} {e : TypeId}
  (hrun : (execOp a.eval o).run P W = .ok (.value (.slice (some ⟨W.heap.size, 0, none⟩) n n)) (W.alloc (.cells vs.toArray e)))
  (h : ∀ g w1, w1.heap[g]? = some (.cells vs.toArray e (0, 0)) → Below W.heap.size W w1 → Kc (a.put o.dst (.slice (some ⟨g, 0, none⟩) n n)) w1) : if Region.wanted o (yielded ops a.tmps) = true then Oper.wp P o a W Kc Q else Kc (a.put o.dst undef) W :=
 event_step hw hrun (h _ _ (blk_new W _) (below_alloc (Below.refl _ _) _))
end
theorem append_str_at {P : Program} {w : World} (base : Nat) (t u ty e : TypeId) (i : TypeInfo) (ht : P.underlying t = some (.slice e)) (hu : P.underlying u = some .string) (hi : P.info? e = some i) (hz : i.zero = some (.int .u8 0))
  (hsize : i.size = 1) (hby : i.bytes = 1)
  (v : Value) (n : Nat) (xs : List Value) (hown : w.ownsRow base e 1 v n xs) (s : ByteArray)
  (hbytes : n + s.size ≤ 140737488355328) (v' : Value) (w' : World) (hr : (Builtin.append_ #[t, u] ty #[v, .string s]).run P w = .ok v' w') :
  v'.ownBlock = v.ownBlock ∨ ∃ b, v'.ownBlock = some b ∧ w.heap.size ≤ b := by
 have hxl : xs.length = n := by simpa using hown.1
 rcases hown.2 with ⟨rfl, rfl⟩ | ⟨g, cap, cur, rfl, hbg, hg, hnc, hcm, hcs, htake⟩
 ·by_cases hm : s.size = 0
  ·have hf := Lib.run_firstCells_string (P := P) (w := w) 1 s
   rw [hm] at hf
   have h2 : (Builtin.append_ #[t, u] ty #[.slice none 0 0, .string s]).run P w = .ok (.slice none 0 0) w := by
    simp [Builtin.append_, run_underlying ht, run_underlying hu, sizeOf, typeInfo, hi, hsize, Builtin.lenOf, hm, hf]
   rw [h2] at hr
   injection hr with h3 h4
   subst h3
   exact .inl rfl
  ·have h2 := run_append_nil_string (P := P) w t u ty e i (.int .u8 0) ht hu hi hz s (by omega) (by omega) (by rw [hby]; omega)
   rw [h2] at hr
   injection hr with h3 h4
   subst h3
   exact .inr ⟨w.heap.size, rfl, Nat.le_refl _⟩
 ·by_cases hroom : n + s.size ≤ cap
  ·have hcs' : cur.size = cap := by simpa using hcs
   have h2 := Lib.run_append_room_string (P := P) (w := w) t u ty e i ht hu hi hsize g n cap cur hg s hroom (by omega)
   rw [h2] at hr
   injection hr with h3 h4
   subst h3
   exact .inl rfl
  ·have holds : ∀ j u, xs[j]? = some u → w.cell? ((⟨g, 0, none⟩ : Addr).add j) = some u := hown.cells (g := g) rfl
   have h2 := Lib.run_append_grow_string (P := P) (w := w) t u ty e i (.int .u8 0) ht hu hi hz ⟨g, 0, none⟩ n cap xs (by rw [hsize]; simpa using hxl) holds s (by omega) (by omega) (by rw [hby]; exact growslice_fits (by omega) (by omega))
   rw [h2] at hr
   injection hr with h3 h4
   subst h3
   exact .inr ⟨w.heap.size, rfl, Nat.le_refl _⟩
section
variable {P : Program} {ops : Array Oper} {rest : List Oper} {o : Oper} {a : Act} {Q : Exit → Act → World → Prop}
/-- append([]byte, s...), s a string, and where the new row lies. -/
theorem R_append_str {w0 W : World} (base : Nat) (hgd : o.guard = none) (s x : Operand) (t u e : TypeId)
  (ho : o.op = .call { callee := .builtin .append, args := #[s, x], argTypes := #[t, u] })
  (ht : P.underlying t = some (.slice e)) (hu : P.underlying u = some .string) (hinfo : (P.info? e).map (fun i => (i.zero, i.size, i.bytes)) = some (some (.int .u8 0), 1, 1))
  (v : Value) (xs : List Int) (y : ByteArray) (hs : a.eval s = v) (hx : a.eval x = .string y) (ok : Nat → Prop) (hfresh : ∀ k, W.heap.size ≤ k → ok k)
  (HO : (Kd.int .u8).R e W base ok v xs) (HB : Below base w0 W) (hbase : base ≤ W.heap.size) (hl : xs.length + y.size ≤ 140737488355328)
  (h : ∀ v1 w1, (Kd.int .u8).R e w1 base ok v1 (xs ++ bytesOf y) → Below base w0 w1 → W.grownBy w1 v.ownBlock → (v1.ownBlock = v.ownBlock ∨ ∃ b, v1.ownBlock = some b ∧ W.heap.size ≤ b) → wpList P ops Q rest (a.put o.dst v1) w1) :
  wpList P ops Q (o :: rest) a W := by
 obtain ⟨i0, hi, hzz⟩ := Option.map_eq_some_iff.1 hinfo
 simp only [Prod.mk.injEq] at hzz
 obtain ⟨hz0, hz1, hz2⟩ := hzz
 have hown := Kd.own_of_R HO
 refine wpList_plain hgd fun K hK => ?_
 obtain ⟨v1, w1, hr, h2, h3, _⟩ := Lib.run_append_own_string (P := P) (w := W) base t u o.type e i0 ht hu hi hz0 hz1 hz2 v _ _ hown y (by simp only [maxLen]; omega) hl hbase
 have hat := append_str_at (P := P) (w := W) base t u o.type e i0 ht hu hi hz0 hz1 hz2 v _ _ hown y hl v1 w1 hr
 unfold Oper.wp execOp
 simp only [ho, resolve, invoke, builtin, Sem.run_bind, Sem.run_pure, Result.andThen_ok, List.map_toArray, List.map_cons, List.map_nil, hs, hx, hr]
 refine hK _ _ (h v1 w1 (Kd.R_of_own ?_ (fun k hk => ?_)) (HB.grown h3 hbase (own_base hown)) h3 hat)
 ·have hl2 : (xs ++ bytesOf y).length = xs.length + y.size := by rw [List.length_append, bytesOf_length]
  rw [hl2]
  have hc : nums .u8 (xs ++ bytesOf y) = nums .u8 xs ++ Lib.strCells y := by
   rw [nums_append]
   congr 1
   simp [nums, bytesOf, Lib.strCells]
  have hc2 : encs (Value.int .u8) (xs ++ bytesOf y) = encs (Value.int .u8) xs ++ Lib.strCells y := hc
  first | (rw [hc2]; exact h2) | (rw [hc]; exact h2)
 ·rcases hat with e1 | ⟨b, e1, hbb⟩
  ·exact HO.1 k (by rw [← e1]; exact hk)
  ·rw [e1] at hk
   injection hk with hk
   subst hk
   exact hfresh _ hbb
end
/-- Another row is written: what lies apart from it stays, and lies apart from the new one. -/
theorem apart_next {α : Type} {d : Kd α} {e : Nat} {W w1 : World} {base : Nat} {v1 vo vb : Value} {xs : List α} (hB : d.R e W base (fun k => some k ≠ vo.ownBlock) vb xs) (hg : W.grownBy w1 vo.ownBlock)
  (hat : v1.ownBlock = vo.ownBlock ∨ ∃ b, v1.ownBlock = some b ∧ W.heap.size ≤ b) : d.R e w1 base (fun k => some k ≠ v1.ownBlock) vb xs := by
 have h1 : d.R e W base (fun k => some k ≠ vo.ownBlock ∧ some k ≠ v1.ownBlock) vb xs := Kd.R_mono (Kd.R_bound hB) (fun k hk => ⟨hk.1, fun he => by
  rcases hat with h2 | ⟨b, h2, h3⟩
  ·exact hk.1 (he.trans h2)
  ·rw [h2] at he
   injection he with he
   have := hk.2.2.1
   omega⟩)
 exact Kd.R_mono (Kd.R_grown h1 hg (fun k hk => hk.1)) (fun k hk => hk.2)
theorem apart_swap {e : Nat} {W : World} {base : Nat} {ok : Nat → Prop} {vo vb : Value} {xs ys : List Int} (ho : (Kd.int .u8).R e W base (fun k => some k ≠ vb.ownBlock) vo xs) (hb : (Kd.int .u8).R e W base ok vb ys) :
  (Kd.int .u8).R e W base (fun k => some k ≠ vo.ownBlock) vb ys := Kd.R_of_own (Kd.own_of_R hb) (fun k hk he => ho.1 k he.symm hk.symm)
def four (a0 : Int) : List Int := [(a0 / 16777216) % 256, (a0 / 65536) % 256, (a0 / 256) % 256, a0 % 256]
/-- The place behind a box and all that is in it. -/
def endp : Nat → List (S46) → Int → Int → Option (Int)
 | 0, _, _, _ => none
 | k + 1, x0, x1, x5 => if x5 < (x0.length : Int) then (if 0 ≤ x5 then (if 0 ≤ x1 then (if x1 < (x0.length : Int) then (if ((rd_T46 x0 x5).f1) > ((rd_T46 x0 x1).f1) then (endp k x0 x1 (wrap64 (x5 + 1))) else (some x5)) else (none)) else (none)) else (none)) else (some x5)
/-- What showBoxes puts together: the bytes from a place on. -/
def shw : Nat → List S46 → List Int → Nat → Option (List Int)
 | 0, _, _, _ => none
 | k + 1, x0, out, at_ => if at_ < x0.length then ((endp k x0 (at_ : Int) (wrap64 ((at_ : Int) + 1))).bind fun e => (if (at_ : Int) + 1 ≤ e ∧ e ≤ (x0.length : Int) then ((shw k ((x0.take e.toNat).drop (at_ + 1)) [] 0).bind fun sub => (if out.length + (rd_T46 x0 (at_ : Int)).f0.size + ((rd_T46 x0 (at_ : Int)).f2 ++ sub).length + 8 ≤ 1000000 then (shw k x0 (out ++ (four (8 + ((((rd_T46 x0 (at_ : Int)).f2 ++ sub).length : Nat) : Int)) ++ (bytesOf (rd_T46 x0 (at_ : Int)).f0 ++ ((rd_T46 x0 (at_ : Int)).f2 ++ sub)))) e.toNat) else none)) else none)) else some out
theorem endp.mono : ∀ k l a x, LeO (endp k l a x) (endp (k + 1) l a x)
 | 0 => fun _ _ _ r h => by simp [endp] at h
 | k + 1 => by
  have ih := endp.mono k
  intro l a x
  unfold endp
  repeat' first
   | (with_reducible exact ih _ _ _)
   | (with_reducible exact LeO.refl _)
   | (with_reducible exact LeO.none _)
   | (with_reducible refine LeO.ite ?_ ?_)
theorem shw.mono : ∀ k l out p, LeO (shw k l out p) (shw (k + 1) l out p)
 | 0 => fun _ _ _ r h => by simp [shw] at h
 | k + 1 => by
  have ih := shw.mono k
  intro l out p
  unfold shw
  repeat' first
   | (with_reducible exact ih _ _ _)
   | (with_reducible exact endp.mono _ _ _ _)
   | (with_reducible exact LeO.refl _)
   | (with_reducible exact LeO.none _)
   | (with_reducible refine LeO.ite ?_ ?_)
   | (with_reducible refine LeO.bind ?_ (fun _ => ?_))
theorem wp_carry {P : Program} {c : Code} {Q : Exit → Act → World → Prop} {a : Act} {W : World} {S : World → Prop} (h : S W) (k : ∀ W', S W' → Code.wp P c Q a W') : Code.wp P c Q a W := k W h
set_option maxHeartbeats 8000000 in
set_option maxRecDepth 100000 in
theorem l2Show_shw : ∀ (k : Nat) (A0 : Option Addr) (c0 : Nat) (l0 : List (S46)) (r : List Int) (w : World) (hr0 : Kd.C k46 w A0 l0.length l0) (hc0 : l0.length ≤ c0) (hl0 : l0.length ≤ 1000000) (h : shw k l0 [] 0 = some r),
  Calls Try.prog 42 #[.slice A0 l0.length c0] w fun e w' => ∃ v0_ : Value, e = .returned (v0_) ∧ Kd.R (Kd.int .u8) 5 w' w.heap.size (fun _ => True) v0_ r ∧ Below w.heap.size w w' := by
 intro k
 induction k using Nat.strongRecOn with
 | ind k ih =>
 intro A0 c0 l0 r w hr0 hc0 hl0 h
 have hu29 := Try.underlying29
 have hu46 := Try.underlying46
 have hu44 := Try.underlying44
 have hu25 := Try.underlying25
 have HB := Aside0.mk (Below.refl w.heap.size w)
 have HR0 := Aside0.mk hr0
 have HC0 := Aside0.mk hc0
 have HL0 := Aside0.mk hl0
 have H' := Aside0.mk h
 clear hr0 hc0 hl0 h
 go_enter Try.func42, Try.ntmps42
 go_wp2_with (first | ((with_reducible refine gate_dst (N := 8) rfl ?_); refine Kd.R_lit (Kd.int .u8) w.heap.size 5 ?hg (N := 8) ?hd (xs := ([] : List Int)) (inner := []) (ok := fun _ => True) (okp := fun _ => True) ?hr ?hp (fun _ hk => hk) trivial HB.out HB.out.size (by simp) ?_; (case hd => rfl); (case hg => rfl); (case hr => first | (go_simp; done) | (go_simp; rfl)); (case hp => exact (Reps.none _ _)); intro v103 w4 ho5 hb hg_ hnew_; replace HB := Aside0.mk hb; have HO := Aside0.mk ho5; clear hg_ hnew_ ho5 hb))
 go_loopg [3, 4] k (fun kq v3 v4 w' => ∃ (out : List Int) (at_ : Nat), v4 = .int .i64 (at_ : Int) ∧ Aside0 (shw kq l0 out at_ = some r) ∧ Aside0 (kq ≤ k) ∧ Aside0 (Kd.R (Kd.int .u8) 5 w' w.heap.size (fun _ => True) v3 out) ∧ Aside0 (Below w.heap.size w w'))
 case atStart => exact ⟨[], 0, rfl, H', ⟨Nat.le_refl _⟩, HO, HB⟩
 case round =>
  clear HB HO H'
  obtain ⟨out, at_, rfl, HA, HK, HO, HB⟩ := hrel
  obtain ⟨Ao, co, eo⟩ := Kd.R_slice HO.out
  subst eo
  cases gk with
  | zero => exact absurd HA.out (by simp [shw])
  | succ k1 =>
   have H := HA.out
   clear HA
   simp only [shw] at H
   by_cases c3 : at_ < l0.length
   ·rw [if_pos c3] at H
    have c3b : decide (at_ < l0.length) = true := decide_eq_true c3
    obtain ⟨e, HE, H⟩ := Option.bind_eq_some_iff.mp H
    by_cases c4 : (at_ : Int) + 1 ≤ e ∧ e ≤ (l0.length : Int)
    ·rw [if_pos c4] at H
     obtain ⟨sub, HS, H⟩ := Option.bind_eq_some_iff.mp H
     by_cases c5 : out.length + (rd_T46 l0 (at_ : Int)).f0.size + ((rd_T46 l0 (at_ : Int)).f2 ++ sub).length + 8 ≤ 1000000
     ·rw [if_pos c5] at H
      obtain ⟨body, hbd⟩ : ∃ b : List Int, (rd_T46 l0 (at_ : Int)).f2 ++ sub = b := ⟨_, rfl⟩
      rw [hbd] at H c5
      have HBD := Aside0.mk hbd
      clear hbd
      obtain ⟨en, rfl⟩ : ∃ n : Nat, e = (n : Int) := ⟨e.toNat, by omega⟩
      rw [Int.toNat_natCast] at H HS
      have HE2 := Aside0.mk HE
      have H2 := Aside0.mk H
      have C3 := Aside0.mk c3
      have C4 := Aside0.mk c4
      have C5 := Aside0.mk c5
      obtain ⟨ad, A2, c2, e0, hx0, hx1, hx2, hl2, hi2⟩ := at_T46 HR0.out (at_ : Int) (by omega) (by omega)
      cases e0
      have p0 : (0 ≤ (at_ : Int)) = True := eq_true (by omega)
      have q0 : ((at_ : Int) < (l0.length : Int)) = True := eq_true (by omega)
      simp only [Int.toNat_natCast] at hx0 hx1 hx2
      have HI2 := Aside0.mk hi2
      obtain ⟨a1, ha1⟩ : ∃ a1 : Nat, a1 = at_ + 1 := ⟨_, rfl⟩
      have hw1 : wrap64 ((at_ : Int) + 1) = (a1 : Int) := by have := HL0.out; unfold wrap64; omega
      have s1 : (en ≤ c0) = True := eq_true (by have := HC0.out; omega)
      have s2 : (a1 ≤ en) = True := eq_true (by omega)
      have A1 := Aside0.mk ha1
      rw [← ha1] at HS
      have HS' := Aside0.mk HS
      have HL2 := Aside0.mk hl2
      clear c3 c4 c5 HE HS H hi2 hl2 ha1
      have HW1 := Aside0.mk hw1
      clear hw1
      go_wp2
      go_loopg [5] k1 (fun kq2 v5 w' => ∃ (x5 : Int), v5 = .int .i64 x5 ∧ Aside0 (endp kq2 l0 (at_ : Int) x5 = some (en : Int)) ∧ Drawn0 wr w')
      case atStart => exact ⟨wrap64 ((at_ : Int) + 1), rfl, HE2, by repeat (first | exact Drawn0.refl _ | apply Drawn0.step)⟩
      case round =>
       clear HE2
       obtain ⟨x5, rfl, HA, ⟨m1, rfl⟩⟩ := hrel
       cases gk with
       | zero => exact absurd HA.out (by simp [endp])
       | succ k2 =>
        have H := HA.out
        clear HA
        simp only [endp] at H
        by_cases c3 : x5 < (l0.length : Int)
        ·rw [if_pos c3] at H
         by_cases c4 : 0 ≤ x5
         ·rw [if_pos c4, if_pos (show 0 ≤ (at_ : Int) by omega), if_pos (show (at_ : Int) < (l0.length : Int) by have := C3.out; omega)] at H
          have c3b0 : decide (x5 < (l0.length : Int)) = true := decide_eq_true c3
          obtain ⟨ad3, A3_2, c3_2, e3, hy0, hy1, hy2, hly, hiy⟩ := at_T46 HR0.out x5 c4 c3
          obtain rfl : ad = ad3 := (by injection e3)
          have p5 : (0 ≤ x5) = True := eq_true c4
          have q5 : (x5 < (l0.length : Int)) = True := eq_true c3
          have hz1 := (HB.out.cell (World.block_lt_of_cell? w _ hy1)).trans hy1
          have hv1 := (HB.out.cell (World.block_lt_of_cell? w _ hx1)).trans hx1
          clear hly hiy hy0 hy1 hy2
          by_cases c7 : ((rd_T46 l0 x5).f1) > ((rd_T46 l0 (at_ : Int)).f1)
          ·rw [if_pos c7] at H
           have c7b0 : decide (((rd_T46 l0 (at_ : Int)).f1) < ((rd_T46 l0 x5).f1)) = true := decide_eq_true c7
           have H' := Aside0.mk H
           clear c3 c4 c7 H
           go_wp2
           repeat (go_quiet (fail); try go_wp2)
           go_roundg k2
           case measure => omega
           case rel => exact ⟨(wrap64 (x5 + 1)), (by first | rfl | (simp; done) | (simp [*]; done)), H', by repeat (first | exact Drawn0.refl _ | apply Drawn0.step)⟩
          ·rw [if_neg c7] at H
           have c7b0 : decide (((rd_T46 l0 (at_ : Int)).f1) < ((rd_T46 l0 x5).f1)) = false := decide_eq_false c7
           have HXE := Aside0.mk (Option.some.inj H)
           clear c3 c4 c7 H
           go_wp2
           repeat (go_quiet (fail); try go_wp2)
           clear hz1 hv1 p5 q5 c3b0 c7b0
           obtain rfl := HXE.out
           refine wp_carry (S := fun W' => Kd.R (Kd.int .u8) 5 W' w.heap.size (fun _ => True) (.slice Ao out.length co) out ∧ Below w.heap.size w W') ⟨by repeat (first | exact HO.out | apply Kd.R_drewN | apply Kd.R_drew), by repeat (first | exact HB.out | apply pw_below_drewN | apply below_drew1)⟩ ?_
           clear HO HB
           rintro V0 ⟨hO0, hB0⟩
           have HB := Aside0.mk hB0
           have HO := Aside0.mk (Kd.R_drew hO0)
           clear hO0 hB0
           have hw1 := HW1.out
           refine start_ (n := 15) (S := fun w' => Below w.heap.size w w') (ds := []) #[false, false, false, false, false, false, false, false, false, false, false, false, false, false, false] (by kernel_rfl) rfl rfl (below_drew1 HB.out) (fun hHeld => ?_)
           generalize World.drew _ = V at hHeld HO ⊢
           clear HB
           refine pure_ (i := 1) (N := some 35) (v := ?_) (a' := ?_) #[false, true, false, false, false, false, false, false, false, false, false, false, false, false, false] rfl rfl (by kernel_rfl) (fun _ _ _ h => h) (Or.inl ⟨by rfl, ?_⟩) ?_ ?_
           rotate_left
           ·intro w'
            go_simp
            with_reducible rfl
           rotate_left
           ·simp only [Act.put, u5a, u5b, u5c, i64_w, i32_w]
            rfl
           refine pure_ (i := 2) (N := some 36) (v := ?_) (a' := ?_) #[false, true, true, false, false, false, false, false, false, false, false, false, false, false, false] rfl rfl (by kernel_rfl) (fun _ _ _ h => h) (Or.inl ⟨by rfl, ?_⟩) ?_ ?_
           rotate_left
           ·intro w'
            go_simp
            with_reducible rfl
           rotate_left
           ·simp only [Act.put, u5a, u5b, u5c, i64_w, i32_w]
            rfl
           refine pure_ (i := 3) (N := some 37) (v := ?_) (a' := ?_) #[false, true, true, true, false, false, false, false, false, false, false, false, false, false, false] rfl rfl (by kernel_rfl) (fun _ _ _ h => h) (Or.inl ⟨by rfl, ?_⟩) ?_ ?_
           rotate_left
           ·intro w'
            go_simp
            with_reducible rfl
           rotate_left
           ·simp only [Act.put, u5a, u5b, u5c, i64_w, i32_w]
            rfl
           refine pure_ (i := 4) (N := some 38) (v := ?_) (a' := ?_) #[false, true, true, true, true, false, false, false, false, false, false, false, false, false, false] rfl rfl (by kernel_rfl) (fun _ _ _ h => h) (Or.inl ⟨by rfl, ?_⟩) ?_ ?_
           rotate_left
           ·intro w'
            go_simp
            with_reducible rfl
           rotate_left
           ·simp only [Act.put, u5a, u5b, u5c, i64_w, i32_w]
            rfl
           refine take_ (i := 5) (N := some 39) (v := ?_) (a' := ?_) #[false, true, true, true, true, true, false, false, false, false, false, false, false, false, false] rfl rfl (by kernel_rfl) (fun _ _ _ h => h) (Or.inl ⟨by rfl, ?_⟩) hHeld ?_ ?_
           rotate_left
           ·intro w' hS
            have hc1 := (hS.cell (World.block_lt_of_cell? w _ hx2)).trans hx2
            go_simp
            with_reducible rfl
           rotate_left
           ·simp only [Act.put, u5a, u5b, u5c, i64_w, i32_w]
            rfl
           refine pure_ (i := 7) (N := some 41) (v := ?_) (a' := ?_) #[false, true, true, true, true, true, false, true, false, false, false, false, false, false, false] rfl rfl (by kernel_rfl) (fun _ _ _ h => h) (Or.inl ⟨by rfl, ?_⟩) ?_ ?_
           rotate_left
           ·intro w'
            go_simp
            with_reducible rfl
           rotate_left
           ·simp only [Act.put, u5a, u5b, u5c, i64_w, i32_w]
            rfl
           refine pure_ (i := 8) (N := some 42) (v := ?_) (a' := ?_) #[false, true, true, true, true, true, false, true, true, false, false, false, false, false, false] rfl rfl (by kernel_rfl) (fun _ _ _ h => h) (Or.inl ⟨by rfl, ?_⟩) ?_ ?_
           rotate_left
           ·intro w'
            go_simp
            with_reducible rfl
           rotate_left
           ·simp only [Act.put, u5a, u5b, u5c, i64_w, i32_w]
            rfl
           refine pure_ (i := 9) (N := some 43) (v := ?_) (a' := ?_) #[false, true, true, true, true, true, false, true, true, true, false, false, false, false, false] rfl rfl (by kernel_rfl) (fun _ _ _ h => h) (Or.inl ⟨by rfl, ?_⟩) ?_ ?_
           rotate_left
           ·intro w'
            go_simp
            with_reducible rfl
           rotate_left
           ·simp only [Act.put, u5a, u5b, u5c, i64_w, i32_w]
            rfl
           refine pure_ (i := 10) (N := some 44) (v := ?_) (a' := ?_) #[false, true, true, true, true, true, false, true, true, true, true, false, false, false, false] rfl rfl (by kernel_rfl) (fun _ _ _ h => h) (Or.inl ⟨by rfl, ?_⟩) ?_ ?_
           rotate_left
           ·intro w'
            go_simp
            with_reducible rfl
           rotate_left
           ·simp only [Act.put, u5a, u5b, u5c, i64_w, i32_w]
            rfl
           refine pure_ (i := 11) (N := some 45) (v := ?_) (a' := ?_) #[false, true, true, true, true, true, false, true, true, true, true, true, false, false, false] rfl rfl (by kernel_rfl) (fun _ _ _ h => h) (Or.inl ⟨by rfl, ?_⟩) ?_ ?_
           rotate_left
           ·intro w'
            go_simp
            with_reducible rfl
           rotate_left
           ·simp only [Act.put, u5a, u5b, u5c, i64_w, i32_w]
            rfl
           obtain ⟨AA, hAA⟩ : ∃ AA : Option Addr, AA = (if c0 = a1 then some ad else some (ad.add (a1 * 3))) := ⟨_, rfl⟩
           rw [← hAA]
           have HAA := Aside0.mk hAA
           clear hAA
           refine one_ (i := 0) (N := some 34) #[true, true, true, true, true, true, false, true, true, true, true, true, false, false, false] rfl rfl (by kernel_rfl) (by decide) (fun K hK => ?_)
           refine Kd.R_lit_step (w0 := w) (Kd.int .u8) w.heap.size 5 (by rfl) rfl (xs := ([] : List Int)) (inner := []) (ok := fun _ => True) (okp := fun _ => True) (by first | (go_simp; done) | (go_simp; rfl)) (Reps.none _ _) (fun _ hk => hk) trivial hHeld hHeld.size (by simp) ?_
           intro v34 W1 ho hb hg hnew
           have HIN := Aside0.mk ho
           replace HO := Aside0.mk (apart_next (vo := .slice none 0 0) (v1 := v34) (Kd.R_mono HO.out (fun k _ he => by simp [Value.ownBlock] at he)) hg (.inr hnew))
           replace hHeld := hb
           clear ho hb hg hnew
           refine hK.out _ _ hHeld (fun _ => ?_)
           clear hK K
           refine norm_ (a' := ?_) ?_ ?_
           rotate_left
           ·show Act.put _ (some 34) _ = _
            simp only [Act.put, u5a, u5b, u5c, i64_w, i32_w]
            rfl
           refine one_ (i := 6) (N := some 40) #[true, true, true, true, true, true, true, true, true, true, true, true, false, false, false] rfl rfl (by kernel_rfl) (by decide) (fun K hK => ?_)
           refine Kd.R_append_rows_step (w0 := w) (Kd.int .u8) (Rr := fun x cs => cs = [Value.int .u8 x]) w.heap.size (by rfl) (.tmp 34) (.tmp 39) 29 5 (.int .u8 0) 1 rfl Try.underlying29 info5 rfl (by decide) (by decide) v34 [] (rd_T46 l0 (at_ : Int)).f2 A2 (rd_T46 l0 (at_ : Int)).f2.length c2 (fun _ => True) (fun _ => False) (by rfl) (by rfl) HIN.out ?hR (fun x cs h => h) (fun _ hk => hk.elim) (fun _ _ => trivial) hHeld hHeld.size ?hl ?_
           case hR => exact Kd.C_below HI2.out hHeld
           case hl => (have := C5.out; rw [← HBD.out, List.length_append] at this; simp only [List.length_nil]; omega)
           intro v40 W40 ho hb hg hat
           replace HIN := Aside0.mk ho
           replace HO := Aside0.mk (apart_next (v1 := v40) HO.out hg hat)
           replace hHeld := hb
           clear ho hb hg hat
           refine hK.out _ _ hHeld (fun _ => ?_)
           clear hK K
           refine norm_ (a' := ?_) ?_ ?_
           rotate_left
           ·show Act.put _ (some 40) _ = _
            simp only [Act.put, u5a, u5b, u5c, i64_w, i32_w]
            rfl
           refine one_ (i := 12) (N := some 46) #[true, true, true, true, true, true, true, true, true, true, true, true, true, false, false] rfl rfl (by kernel_rfl) (by decide) (fun K hK => ?_)
           have hC := Kd.C_mid (c := c0) (lo := a1) (hi := en) (Kd.C_below HR0.out hHeld) (by simpa using s2) (by have := C4.out; omega) HC0.out
           have hlen : ((l0.take en).drop a1).length = en - a1 := by rw [List.length_drop, List.length_take]; have := C4.out; omega
           have hcall := ih k1 (by have := HK.out; omega) AA (c0 - a1) ((l0.take en).drop a1) sub _ (by rw [HAA.out]; exact hC) (by rw [hlen]; have := C4.out; have := HC0.out; omega) (by rw [hlen]; have := C4.out; have := HL0.out; omega) HS'.out
           rw [hlen] at hcall
           clear hC hlen
           refine goes_ Try.func42 (by kernel_rfl) rfl #[.slice AA (en - a1) (c0 - a1)] (by rfl) rfl rfl (by (try simp only [List.map_toArray, List.map_cons, List.map_nil]); first | done | rfl | simp) ?_
           refine hcall.mono ?_
           rintro e W46 ⟨v46, rfl, ho, hb⟩
           refine ⟨_, rfl, ?_⟩
           clear hcall
           have HSUB := Aside0.mk (Kd.R_lower ho hHeld.size)
           replace HO := Aside0.mk (Kd.R_below HO.out hb)
           replace HIN := Aside0.mk (Kd.R_below HIN.out hb)
           replace hHeld := below_step hHeld hb
           obtain ⟨A46, c46, e46⟩ := Kd.R_slice ho
           subst e46
           clear ho hb
           refine hK.out _ _ hHeld (fun _ => ?_)
           clear hK K
           refine norm_ (a' := ?_) ?_ ?_
           rotate_left
           ·show Act.put _ (some 46) _ = _
            simp only [Act.put, u5a, u5b, u5c, i64_w, i32_w]
            rfl
           refine one_ (i := 13) (N := some 47) #[true, true, true, true, true, true, true, true, true, true, true, true, true, true, false] rfl rfl (by kernel_rfl) (by decide) (fun K hK => ?_)
           refine Kd.R_append_rows_step (w0 := w) (Kd.int .u8) (Rr := fun x cs => cs = [Value.int .u8 x]) w.heap.size (by rfl) (.tmp 40) (.tmp 46) 29 5 (.int .u8 0) 1 rfl Try.underlying29 info5 rfl (by decide) (by decide) v40 ([] ++ (rd_T46 l0 (at_ : Int)).f2) sub A46 sub.length c46 (fun _ => True) (fun _ => False) (by rfl) (by rfl) HIN.out ?hR (fun x cs h => h) (fun _ hk => hk.elim) (fun _ _ => trivial) hHeld hHeld.size ?hl ?_
           case hR => exact (Kd.R_reads' HSUB.out).2.2
           case hl => (have := C5.out; rw [← HBD.out, List.length_append] at this; simp only [List.nil_append]; omega)
           intro v47 W47 ho hb hg hat
           replace HIN := Aside0.mk ho
           replace HO := Aside0.mk (apart_next (v1 := v47) HO.out hg hat)
           replace hHeld := hb
           clear ho hb hg hat
           refine hK.out _ _ hHeld (fun _ => ?_)
           clear hK K
           refine norm_ (a' := ?_) ?_ ?_
           rotate_left
           ·show Act.put _ (some 47) _ = _
            simp only [Act.put, u5a, u5b, u5c, i64_w, i32_w]
            rfl
           rw [show [] ++ (rd_T46 l0 (at_ : Int)).f2 ++ sub = body by rw [List.nil_append]; exact HBD.out] at HIN
           obtain ⟨A47, c47, e47⟩ := Kd.R_slice HIN.out
           subst e47
           clear HSUB
           refine pure_ (i := 14) (N := some 6) (v := ?_) (a' := ?_) #[true, true, true, true, true, true, true, true, true, true, true, true, true, true, true] rfl rfl (by kernel_rfl) (fun _ _ _ h => h) (Or.inl ⟨by rfl, ?_⟩) ?_ ?_
           rotate_left
           ·intro w'
            go_simp
            with_reducible rfl
           rotate_left
           ·simp only [Act.put, u5a, u5b, u5c, i64_w, i32_w]
            rfl
           refine done_ (by kernel_rfl) ?_
           have HB := Aside0.mk hHeld
           have HBODY := Aside0.mk (apart_swap HO.out HIN.out)
           replace HO := Aside0.mk (Kd.R_mono (ok' := fun _ => True) HO.out (fun _ _ => trivial))
           clear hHeld HIN HAA hw1 s1 s2
           obtain ⟨kind, hkd⟩ : ∃ s : ByteArray, (rd_T46 l0 (at_ : Int)).f0 = s := ⟨_, rfl⟩
           rw [hkd] at hx0
           have HKD := Aside0.mk hkd
           clear hkd
           obtain ⟨n8, hn8⟩ : ∃ n8 : Int, (8 + ((body.length : Nat) : Int)) = n8 := ⟨_, rfl⟩
           have hw8 : wrap64 (((body.length : Nat) : Int) + 8) = n8 := by have := C5.out; unfold wrap64; omega
           have N0 : 0 ≤ n8 ∧ n8 < 2000000 := by have := C5.out; omega
           have HN8 := Aside0.mk hn8
           clear hn8
           have d1 : wrap64 (Int.tdiv n8 16777216) = n8 / 16777216 := by rw [Int.tdiv_eq_ediv_of_nonneg N0.1]; unfold wrap64; omega
           have d2 : wrap64 (Int.tdiv n8 65536) = n8 / 65536 := by rw [Int.tdiv_eq_ediv_of_nonneg N0.1]; unfold wrap64; omega
           have d3 : wrap64 (Int.tdiv n8 256) = n8 / 256 := by rw [Int.tdiv_eq_ediv_of_nonneg N0.1]; unfold wrap64; omega
           have HKS : Aside0 (out.length + kind.size + body.length + 8 ≤ 1000000) := ⟨by have := C5.out; rw [HKD.out] at this; exact this⟩
           clear N0
           skip
           skip
           go_wp2_with (first | ((with_reducible refine gate_dst (N := 63) rfl ?_); (refine Kd.R_lit (w0 := w) (Kd.int .u8) w.heap.size 5 ?hg (N := 63) ?hd (xs := four n8) (inner := [.int .u8 ((n8 / 16777216) % 256), .int .u8 ((n8 / 65536) % 256), .int .u8 ((n8 / 256) % 256), .int .u8 (n8 % 256)]) (ok := fun _ => True) (okp := fun _ => True) ?hr ?hp (fun _ hk => hk) trivial HB.out HB.out.size (by simp [four]) ?_; (case hd => rfl); (case hg => rfl); (case hr => first | (go_simp; done) | (go_simp; rfl)); (case hp => exact (Reps.one (show Kd.M (Kd.int .u8) _ _ _ ((n8 / 16777216) % 256) [.int .u8 ((n8 / 16777216) % 256)] from rfl) (Reps.one (show Kd.M (Kd.int .u8) _ _ _ ((n8 / 65536) % 256) [.int .u8 ((n8 / 65536) % 256)] from rfl) (Reps.one (show Kd.M (Kd.int .u8) _ _ _ ((n8 / 256) % 256) [.int .u8 ((n8 / 256) % 256)] from rfl) (Reps.one (show Kd.M (Kd.int .u8) _ _ _ (n8 % 256) [.int .u8 (n8 % 256)] from rfl) (Reps.none _ _)))))); intro v63 w63 ho5 hb hg_ hnew_; have HF := Aside0.mk ho5; have HB3 := Aside0.mk hb; have HO3 := Aside0.mk (Kd.R_grown HO.out hg_ (fun _ _ he => by simp at he)); have HBD3 := Aside0.mk (Kd.R_grown HBODY.out hg_ (fun _ _ he => by simp at he)); clear HB HO HBODY; obtain ⟨A63, c63, e63⟩ := Kd.R_slice ho5; subst e63; clear hg_ hnew_ ho5 hb)) | ((with_reducible refine gate_dst (N := 64) rfl ?_); at_builtin; (refine Kd.R_append_row (Value.int .u8) (0 : Int) (h1 := fun _ => rfl) (w0 := w) w.heap.size rfl (.tmp 51) (.tmp 63) 29 5 (.int .u8 0) 1 (by rfl) Try.underlying29 info5 rfl (by decide) (.slice Ao out.length co) out (four n8) A63 (four n8).length c63 (fun _ => True) (by rfl) (by rfl) (fun _ _ => trivial) HO3.out (Kd.R_reads' HF.out).2.2 HB3.out HB3.out.size (by have h1 := HKS.out; have h2 : (four n8).length = 4 := rfl; have h3 := bytesOf_length kind; (try simp only [List.length_append]); omega) ?_; intro v64 w64 ho hb hg_ hat_; have HO4 := Aside0.mk ho; have HB4 := Aside0.mk hb; have HBD4 := Aside0.mk (apart_next (v1 := v64) HBD3.out hg_ hat_); have hz0 := (HB4.out.cell (World.block_lt_of_cell? w _ hx0)).trans hx0; clear ho hb hg_ hat_)) | ((with_reducible refine gate_dst (N := 71) rfl ?_); at_builtin; (refine R_append_str (w0 := w) w.heap.size rfl (.tmp 65) (.tmp 70) 29 9 5 (by rfl) Try.underlying29 Try.underlying9 info5 v64 (out ++ four n8) kind (by rfl) (by rfl) (fun _ => True) (fun _ _ => trivial) HO4.out HB4.out HB4.out.size (by have h1 := HKS.out; have h2 : (four n8).length = 4 := rfl; have h3 := bytesOf_length kind; (try simp only [List.length_append]); omega) ?_; intro v71 w71 ho hb hg_ hat_; have HO5 := Aside0.mk ho; have HB5 := Aside0.mk hb; have HBD5 := Aside0.mk (apart_next (v1 := v71) HBD4.out hg_ hat_); clear ho hb hg_ hat_)) | ((with_reducible refine gate_dst (N := 74) rfl ?_); at_builtin; (refine Kd.R_append_row (Value.int .u8) (0 : Int) (h1 := fun _ => rfl) (w0 := w) w.heap.size rfl (.tmp 72) (.tmp 73) 29 5 (.int .u8 0) 1 (by rfl) Try.underlying29 info5 rfl (by decide) v71 (out ++ four n8 ++ bytesOf kind) body A47 body.length c47 (fun _ => True) (by rfl) (by rfl) (fun _ _ => trivial) HO5.out (Kd.R_reads' HBD5.out).2.2 HB5.out HB5.out.size (by have h1 := HKS.out; have h2 : (four n8).length = 4 := rfl; have h3 := bytesOf_length kind; (try simp only [List.length_append]); omega) ?_; intro v74 w74 ho hb hg_ hat_; have HO6 := Aside0.mk ho; have HB6 := Aside0.mk hb; have HBD6 := Aside0.mk (apart_next (v1 := v74) HBD5.out hg_ hat_); clear ho hb hg_ hat_)))
           go_roundg k1
           case measure => have := HK.out; omega
           case rel => exact ⟨out ++ (four n8 ++ (bytesOf kind ++ body)), en, rfl, ⟨by have h := H2.out; rw [HKD.out, HN8.out] at h; exact h⟩, ⟨by have := HK.out; omega⟩, ⟨by have h := HO6.out; simp only [List.append_assoc] at h; exact h⟩, HB6⟩
         ·rw [if_neg c4] at H
          exact absurd H (by simp)
        ·rw [if_neg c3] at H
         have c3b0 : decide (x5 < (l0.length : Int)) = false := decide_eq_false c3
         have HXE := Aside0.mk (Option.some.inj H)
         clear c3 H
         go_wp2
         repeat (go_quiet (fail); try go_wp2)
         clear c3b0
         obtain rfl := HXE.out
         refine wp_carry (S := fun W' => Kd.R (Kd.int .u8) 5 W' w.heap.size (fun _ => True) (.slice Ao out.length co) out ∧ Below w.heap.size w W') ⟨by repeat (first | exact HO.out | apply Kd.R_drewN | apply Kd.R_drew), by repeat (first | exact HB.out | apply pw_below_drewN | apply below_drew1)⟩ ?_
         clear HO HB
         rintro V0 ⟨hO0, hB0⟩
         have HB := Aside0.mk hB0
         have HO := Aside0.mk (Kd.R_drew hO0)
         clear hO0 hB0
         have hw1 := HW1.out
         refine start_ (n := 15) (S := fun w' => Below w.heap.size w w') (ds := []) #[false, false, false, false, false, false, false, false, false, false, false, false, false, false, false] (by kernel_rfl) rfl rfl (below_drew1 HB.out) (fun hHeld => ?_)
         generalize World.drew _ = V at hHeld HO ⊢
         clear HB
         refine pure_ (i := 1) (N := some 35) (v := ?_) (a' := ?_) #[false, true, false, false, false, false, false, false, false, false, false, false, false, false, false] rfl rfl (by kernel_rfl) (fun _ _ _ h => h) (Or.inl ⟨by rfl, ?_⟩) ?_ ?_
         rotate_left
         ·intro w'
          go_simp
          with_reducible rfl
         rotate_left
         ·simp only [Act.put, u5a, u5b, u5c, i64_w, i32_w]
          rfl
         refine pure_ (i := 2) (N := some 36) (v := ?_) (a' := ?_) #[false, true, true, false, false, false, false, false, false, false, false, false, false, false, false] rfl rfl (by kernel_rfl) (fun _ _ _ h => h) (Or.inl ⟨by rfl, ?_⟩) ?_ ?_
         rotate_left
         ·intro w'
          go_simp
          with_reducible rfl
         rotate_left
         ·simp only [Act.put, u5a, u5b, u5c, i64_w, i32_w]
          rfl
         refine pure_ (i := 3) (N := some 37) (v := ?_) (a' := ?_) #[false, true, true, true, false, false, false, false, false, false, false, false, false, false, false] rfl rfl (by kernel_rfl) (fun _ _ _ h => h) (Or.inl ⟨by rfl, ?_⟩) ?_ ?_
         rotate_left
         ·intro w'
          go_simp
          with_reducible rfl
         rotate_left
         ·simp only [Act.put, u5a, u5b, u5c, i64_w, i32_w]
          rfl
         refine pure_ (i := 4) (N := some 38) (v := ?_) (a' := ?_) #[false, true, true, true, true, false, false, false, false, false, false, false, false, false, false] rfl rfl (by kernel_rfl) (fun _ _ _ h => h) (Or.inl ⟨by rfl, ?_⟩) ?_ ?_
         rotate_left
         ·intro w'
          go_simp
          with_reducible rfl
         rotate_left
         ·simp only [Act.put, u5a, u5b, u5c, i64_w, i32_w]
          rfl
         refine take_ (i := 5) (N := some 39) (v := ?_) (a' := ?_) #[false, true, true, true, true, true, false, false, false, false, false, false, false, false, false] rfl rfl (by kernel_rfl) (fun _ _ _ h => h) (Or.inl ⟨by rfl, ?_⟩) hHeld ?_ ?_
         rotate_left
         ·intro w' hS
          have hc1 := (hS.cell (World.block_lt_of_cell? w _ hx2)).trans hx2
          go_simp
          with_reducible rfl
         rotate_left
         ·simp only [Act.put, u5a, u5b, u5c, i64_w, i32_w]
          rfl
         refine pure_ (i := 7) (N := some 41) (v := ?_) (a' := ?_) #[false, true, true, true, true, true, false, true, false, false, false, false, false, false, false] rfl rfl (by kernel_rfl) (fun _ _ _ h => h) (Or.inl ⟨by rfl, ?_⟩) ?_ ?_
         rotate_left
         ·intro w'
          go_simp
          with_reducible rfl
         rotate_left
         ·simp only [Act.put, u5a, u5b, u5c, i64_w, i32_w]
          rfl
         refine pure_ (i := 8) (N := some 42) (v := ?_) (a' := ?_) #[false, true, true, true, true, true, false, true, true, false, false, false, false, false, false] rfl rfl (by kernel_rfl) (fun _ _ _ h => h) (Or.inl ⟨by rfl, ?_⟩) ?_ ?_
         rotate_left
         ·intro w'
          go_simp
          with_reducible rfl
         rotate_left
         ·simp only [Act.put, u5a, u5b, u5c, i64_w, i32_w]
          rfl
         refine pure_ (i := 9) (N := some 43) (v := ?_) (a' := ?_) #[false, true, true, true, true, true, false, true, true, true, false, false, false, false, false] rfl rfl (by kernel_rfl) (fun _ _ _ h => h) (Or.inl ⟨by rfl, ?_⟩) ?_ ?_
         rotate_left
         ·intro w'
          go_simp
          with_reducible rfl
         rotate_left
         ·simp only [Act.put, u5a, u5b, u5c, i64_w, i32_w]
          rfl
         refine pure_ (i := 10) (N := some 44) (v := ?_) (a' := ?_) #[false, true, true, true, true, true, false, true, true, true, true, false, false, false, false] rfl rfl (by kernel_rfl) (fun _ _ _ h => h) (Or.inl ⟨by rfl, ?_⟩) ?_ ?_
         rotate_left
         ·intro w'
          go_simp
          with_reducible rfl
         rotate_left
         ·simp only [Act.put, u5a, u5b, u5c, i64_w, i32_w]
          rfl
         refine pure_ (i := 11) (N := some 45) (v := ?_) (a' := ?_) #[false, true, true, true, true, true, false, true, true, true, true, true, false, false, false] rfl rfl (by kernel_rfl) (fun _ _ _ h => h) (Or.inl ⟨by rfl, ?_⟩) ?_ ?_
         rotate_left
         ·intro w'
          go_simp
          with_reducible rfl
         rotate_left
         ·simp only [Act.put, u5a, u5b, u5c, i64_w, i32_w]
          rfl
         obtain ⟨AA, hAA⟩ : ∃ AA : Option Addr, AA = (if c0 = a1 then some ad else some (ad.add (a1 * 3))) := ⟨_, rfl⟩
         rw [← hAA]
         have HAA := Aside0.mk hAA
         clear hAA
         refine one_ (i := 0) (N := some 34) #[true, true, true, true, true, true, false, true, true, true, true, true, false, false, false] rfl rfl (by kernel_rfl) (by decide) (fun K hK => ?_)
         refine Kd.R_lit_step (w0 := w) (Kd.int .u8) w.heap.size 5 (by rfl) rfl (xs := ([] : List Int)) (inner := []) (ok := fun _ => True) (okp := fun _ => True) (by first | (go_simp; done) | (go_simp; rfl)) (Reps.none _ _) (fun _ hk => hk) trivial hHeld hHeld.size (by simp) ?_
         intro v34 W1 ho hb hg hnew
         have HIN := Aside0.mk ho
         replace HO := Aside0.mk (apart_next (vo := .slice none 0 0) (v1 := v34) (Kd.R_mono HO.out (fun k _ he => by simp [Value.ownBlock] at he)) hg (.inr hnew))
         replace hHeld := hb
         clear ho hb hg hnew
         refine hK.out _ _ hHeld (fun _ => ?_)
         clear hK K
         refine norm_ (a' := ?_) ?_ ?_
         rotate_left
         ·show Act.put _ (some 34) _ = _
          simp only [Act.put, u5a, u5b, u5c, i64_w, i32_w]
          rfl
         refine one_ (i := 6) (N := some 40) #[true, true, true, true, true, true, true, true, true, true, true, true, false, false, false] rfl rfl (by kernel_rfl) (by decide) (fun K hK => ?_)
         refine Kd.R_append_rows_step (w0 := w) (Kd.int .u8) (Rr := fun x cs => cs = [Value.int .u8 x]) w.heap.size (by rfl) (.tmp 34) (.tmp 39) 29 5 (.int .u8 0) 1 rfl Try.underlying29 info5 rfl (by decide) (by decide) v34 [] (rd_T46 l0 (at_ : Int)).f2 A2 (rd_T46 l0 (at_ : Int)).f2.length c2 (fun _ => True) (fun _ => False) (by rfl) (by rfl) HIN.out ?hR (fun x cs h => h) (fun _ hk => hk.elim) (fun _ _ => trivial) hHeld hHeld.size ?hl ?_
         case hR => exact Kd.C_below HI2.out hHeld
         case hl => (have := C5.out; rw [← HBD.out, List.length_append] at this; simp only [List.length_nil]; omega)
         intro v40 W40 ho hb hg hat
         replace HIN := Aside0.mk ho
         replace HO := Aside0.mk (apart_next (v1 := v40) HO.out hg hat)
         replace hHeld := hb
         clear ho hb hg hat
         refine hK.out _ _ hHeld (fun _ => ?_)
         clear hK K
         refine norm_ (a' := ?_) ?_ ?_
         rotate_left
         ·show Act.put _ (some 40) _ = _
          simp only [Act.put, u5a, u5b, u5c, i64_w, i32_w]
          rfl
         refine one_ (i := 12) (N := some 46) #[true, true, true, true, true, true, true, true, true, true, true, true, true, false, false] rfl rfl (by kernel_rfl) (by decide) (fun K hK => ?_)
         have hC := Kd.C_mid (c := c0) (lo := a1) (hi := en) (Kd.C_below HR0.out hHeld) (by simpa using s2) (by have := C4.out; omega) HC0.out
         have hlen : ((l0.take en).drop a1).length = en - a1 := by rw [List.length_drop, List.length_take]; have := C4.out; omega
         have hcall := ih k1 (by have := HK.out; omega) AA (c0 - a1) ((l0.take en).drop a1) sub _ (by rw [HAA.out]; exact hC) (by rw [hlen]; have := C4.out; have := HC0.out; omega) (by rw [hlen]; have := C4.out; have := HL0.out; omega) HS'.out
         rw [hlen] at hcall
         clear hC hlen
         refine goes_ Try.func42 (by kernel_rfl) rfl #[.slice AA (en - a1) (c0 - a1)] (by rfl) rfl rfl (by (try simp only [List.map_toArray, List.map_cons, List.map_nil]); first | done | rfl | simp) ?_
         refine hcall.mono ?_
         rintro e W46 ⟨v46, rfl, ho, hb⟩
         refine ⟨_, rfl, ?_⟩
         clear hcall
         have HSUB := Aside0.mk (Kd.R_lower ho hHeld.size)
         replace HO := Aside0.mk (Kd.R_below HO.out hb)
         replace HIN := Aside0.mk (Kd.R_below HIN.out hb)
         replace hHeld := below_step hHeld hb
         obtain ⟨A46, c46, e46⟩ := Kd.R_slice ho
         subst e46
         clear ho hb
         refine hK.out _ _ hHeld (fun _ => ?_)
         clear hK K
         refine norm_ (a' := ?_) ?_ ?_
         rotate_left
         ·show Act.put _ (some 46) _ = _
          simp only [Act.put, u5a, u5b, u5c, i64_w, i32_w]
          rfl
         refine one_ (i := 13) (N := some 47) #[true, true, true, true, true, true, true, true, true, true, true, true, true, true, false] rfl rfl (by kernel_rfl) (by decide) (fun K hK => ?_)
         refine Kd.R_append_rows_step (w0 := w) (Kd.int .u8) (Rr := fun x cs => cs = [Value.int .u8 x]) w.heap.size (by rfl) (.tmp 40) (.tmp 46) 29 5 (.int .u8 0) 1 rfl Try.underlying29 info5 rfl (by decide) (by decide) v40 ([] ++ (rd_T46 l0 (at_ : Int)).f2) sub A46 sub.length c46 (fun _ => True) (fun _ => False) (by rfl) (by rfl) HIN.out ?hR (fun x cs h => h) (fun _ hk => hk.elim) (fun _ _ => trivial) hHeld hHeld.size ?hl ?_
         case hR => exact (Kd.R_reads' HSUB.out).2.2
         case hl => (have := C5.out; rw [← HBD.out, List.length_append] at this; simp only [List.nil_append]; omega)
         intro v47 W47 ho hb hg hat
         replace HIN := Aside0.mk ho
         replace HO := Aside0.mk (apart_next (v1 := v47) HO.out hg hat)
         replace hHeld := hb
         clear ho hb hg hat
         refine hK.out _ _ hHeld (fun _ => ?_)
         clear hK K
         refine norm_ (a' := ?_) ?_ ?_
         rotate_left
         ·show Act.put _ (some 47) _ = _
          simp only [Act.put, u5a, u5b, u5c, i64_w, i32_w]
          rfl
         rw [show [] ++ (rd_T46 l0 (at_ : Int)).f2 ++ sub = body by rw [List.nil_append]; exact HBD.out] at HIN
         obtain ⟨A47, c47, e47⟩ := Kd.R_slice HIN.out
         subst e47
         clear HSUB
         refine pure_ (i := 14) (N := some 6) (v := ?_) (a' := ?_) #[true, true, true, true, true, true, true, true, true, true, true, true, true, true, true] rfl rfl (by kernel_rfl) (fun _ _ _ h => h) (Or.inl ⟨by rfl, ?_⟩) ?_ ?_
         rotate_left
         ·intro w'
          go_simp
          with_reducible rfl
         rotate_left
         ·simp only [Act.put, u5a, u5b, u5c, i64_w, i32_w]
          rfl
         refine done_ (by kernel_rfl) ?_
         have HB := Aside0.mk hHeld
         have HBODY := Aside0.mk (apart_swap HO.out HIN.out)
         replace HO := Aside0.mk (Kd.R_mono (ok' := fun _ => True) HO.out (fun _ _ => trivial))
         clear hHeld HIN HAA hw1 s1 s2
         obtain ⟨kind, hkd⟩ : ∃ s : ByteArray, (rd_T46 l0 (at_ : Int)).f0 = s := ⟨_, rfl⟩
         rw [hkd] at hx0
         have HKD := Aside0.mk hkd
         clear hkd
         obtain ⟨n8, hn8⟩ : ∃ n8 : Int, (8 + ((body.length : Nat) : Int)) = n8 := ⟨_, rfl⟩
         have hw8 : wrap64 (((body.length : Nat) : Int) + 8) = n8 := by have := C5.out; unfold wrap64; omega
         have N0 : 0 ≤ n8 ∧ n8 < 2000000 := by have := C5.out; omega
         have HN8 := Aside0.mk hn8
         clear hn8
         have d1 : wrap64 (Int.tdiv n8 16777216) = n8 / 16777216 := by rw [Int.tdiv_eq_ediv_of_nonneg N0.1]; unfold wrap64; omega
         have d2 : wrap64 (Int.tdiv n8 65536) = n8 / 65536 := by rw [Int.tdiv_eq_ediv_of_nonneg N0.1]; unfold wrap64; omega
         have d3 : wrap64 (Int.tdiv n8 256) = n8 / 256 := by rw [Int.tdiv_eq_ediv_of_nonneg N0.1]; unfold wrap64; omega
         have HKS : Aside0 (out.length + kind.size + body.length + 8 ≤ 1000000) := ⟨by have := C5.out; rw [HKD.out] at this; exact this⟩
         clear N0
         skip
         skip
         go_wp2_with (first | ((with_reducible refine gate_dst (N := 63) rfl ?_); (refine Kd.R_lit (w0 := w) (Kd.int .u8) w.heap.size 5 ?hg (N := 63) ?hd (xs := four n8) (inner := [.int .u8 ((n8 / 16777216) % 256), .int .u8 ((n8 / 65536) % 256), .int .u8 ((n8 / 256) % 256), .int .u8 (n8 % 256)]) (ok := fun _ => True) (okp := fun _ => True) ?hr ?hp (fun _ hk => hk) trivial HB.out HB.out.size (by simp [four]) ?_; (case hd => rfl); (case hg => rfl); (case hr => first | (go_simp; done) | (go_simp; rfl)); (case hp => exact (Reps.one (show Kd.M (Kd.int .u8) _ _ _ ((n8 / 16777216) % 256) [.int .u8 ((n8 / 16777216) % 256)] from rfl) (Reps.one (show Kd.M (Kd.int .u8) _ _ _ ((n8 / 65536) % 256) [.int .u8 ((n8 / 65536) % 256)] from rfl) (Reps.one (show Kd.M (Kd.int .u8) _ _ _ ((n8 / 256) % 256) [.int .u8 ((n8 / 256) % 256)] from rfl) (Reps.one (show Kd.M (Kd.int .u8) _ _ _ (n8 % 256) [.int .u8 (n8 % 256)] from rfl) (Reps.none _ _)))))); intro v63 w63 ho5 hb hg_ hnew_; have HF := Aside0.mk ho5; have HB3 := Aside0.mk hb; have HO3 := Aside0.mk (Kd.R_grown HO.out hg_ (fun _ _ he => by simp at he)); have HBD3 := Aside0.mk (Kd.R_grown HBODY.out hg_ (fun _ _ he => by simp at he)); clear HB HO HBODY; obtain ⟨A63, c63, e63⟩ := Kd.R_slice ho5; subst e63; clear hg_ hnew_ ho5 hb)) | ((with_reducible refine gate_dst (N := 64) rfl ?_); at_builtin; (refine Kd.R_append_row (Value.int .u8) (0 : Int) (h1 := fun _ => rfl) (w0 := w) w.heap.size rfl (.tmp 51) (.tmp 63) 29 5 (.int .u8 0) 1 (by rfl) Try.underlying29 info5 rfl (by decide) (.slice Ao out.length co) out (four n8) A63 (four n8).length c63 (fun _ => True) (by rfl) (by rfl) (fun _ _ => trivial) HO3.out (Kd.R_reads' HF.out).2.2 HB3.out HB3.out.size (by have h1 := HKS.out; have h2 : (four n8).length = 4 := rfl; have h3 := bytesOf_length kind; (try simp only [List.length_append]); omega) ?_; intro v64 w64 ho hb hg_ hat_; have HO4 := Aside0.mk ho; have HB4 := Aside0.mk hb; have HBD4 := Aside0.mk (apart_next (v1 := v64) HBD3.out hg_ hat_); have hz0 := (HB4.out.cell (World.block_lt_of_cell? w _ hx0)).trans hx0; clear ho hb hg_ hat_)) | ((with_reducible refine gate_dst (N := 71) rfl ?_); at_builtin; (refine R_append_str (w0 := w) w.heap.size rfl (.tmp 65) (.tmp 70) 29 9 5 (by rfl) Try.underlying29 Try.underlying9 info5 v64 (out ++ four n8) kind (by rfl) (by rfl) (fun _ => True) (fun _ _ => trivial) HO4.out HB4.out HB4.out.size (by have h1 := HKS.out; have h2 : (four n8).length = 4 := rfl; have h3 := bytesOf_length kind; (try simp only [List.length_append]); omega) ?_; intro v71 w71 ho hb hg_ hat_; have HO5 := Aside0.mk ho; have HB5 := Aside0.mk hb; have HBD5 := Aside0.mk (apart_next (v1 := v71) HBD4.out hg_ hat_); clear ho hb hg_ hat_)) | ((with_reducible refine gate_dst (N := 74) rfl ?_); at_builtin; (refine Kd.R_append_row (Value.int .u8) (0 : Int) (h1 := fun _ => rfl) (w0 := w) w.heap.size rfl (.tmp 72) (.tmp 73) 29 5 (.int .u8 0) 1 (by rfl) Try.underlying29 info5 rfl (by decide) v71 (out ++ four n8 ++ bytesOf kind) body A47 body.length c47 (fun _ => True) (by rfl) (by rfl) (fun _ _ => trivial) HO5.out (Kd.R_reads' HBD5.out).2.2 HB5.out HB5.out.size (by have h1 := HKS.out; have h2 : (four n8).length = 4 := rfl; have h3 := bytesOf_length kind; (try simp only [List.length_append]); omega) ?_; intro v74 w74 ho hb hg_ hat_; have HO6 := Aside0.mk ho; have HB6 := Aside0.mk hb; have HBD6 := Aside0.mk (apart_next (v1 := v74) HBD5.out hg_ hat_); clear ho hb hg_ hat_)))
         go_roundg k1
         case measure => have := HK.out; omega
         case rel => exact ⟨out ++ (four n8 ++ (bytesOf kind ++ body)), en, rfl, ⟨by have h := H2.out; rw [HKD.out, HN8.out] at h; exact h⟩, ⟨by have := HK.out; omega⟩, ⟨by have h := HO6.out; simp only [List.append_assoc] at h; exact h⟩, HB6⟩
     ·rw [if_neg c5] at H
      exact absurd H (by simp)
    ·rw [if_neg c4] at H
     exact absurd H (by simp)
   ·rw [if_neg c3] at H
    have c3b : decide (at_ < l0.length) = false := decide_eq_false c3
    obtain rfl := Option.some.inj H
    clear H c3
    go_wp2
    go_ret
    exact ⟨_, rfl, HO.out, HB.out⟩
def spec_l2Show.f (k : Nat) (l0 : List (S46)) : Option (List Int) := if l0.length ≤ 1000000 then shw k l0 [] 0 else none
theorem spec_l2Show.mono : ∀ l0 k, LeO (spec_l2Show.f k l0) (spec_l2Show.f (k + 1) l0) := by
 intro l0 k
 unfold spec_l2Show.f
 exact LeO.ite (shw.mono k l0 [] 0) (LeO.none _)
theorem spec_l2Show.calls (k : Nat) (A0 : Option Addr) (c0 : Nat) (l0 : List (S46)) (r : List Int) (w : World) (hr0 : Kd.C k46 w A0 l0.length l0) (hc0 : l0.length ≤ c0) (h : spec_l2Show.f k l0 = some r) :
  Calls Try.prog 42 #[.slice A0 l0.length c0] w fun e w' => ∃ v0_ : Value, e = .returned (v0_) ∧ Kd.R (Kd.int .u8) 5 w' w.heap.size (fun _ => True) v0_ r ∧ Below w.heap.size w w' := by
 unfold spec_l2Show.f at h
 by_cases hl : l0.length ≤ 1000000
 ·rw [if_pos hl] at h
  exact l2Show_shw k A0 c0 l0 r w hr0 hc0 hl h
 ·rw [if_neg hl] at h
  exact absurd h (by simp)


end Go.Proofs.Ytpennfkjfeipcaa.PFnBoxesBack
