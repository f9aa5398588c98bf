/- The functions that the law reaches, as Lean functions, each with the proof that the Go code comes to just these answers. Written by a program of this session (wip/tools/handprint.py over the kit's print); by hand where the print takes no such text. -/
-- squeezed
import Derived.Test.YtpennfkjfeipcaaPFnBoxesOnex0
import Derived.Test.YtpennfkjfeipcaaPFnBoxesOnex3
import Derived.Test.YtpennfkjfeipcaaPFnBoxesOnex5
import Derived.Test.YtpennfkjfeipcaaPFnBoxesOnex7
namespace Go.Proofs.Ytpennfkjfeipcaa.PFnBoxesOne
open Go.RowKit Go.Proofs.YtpennfkjfeipcaaW.PrintWords Go.Proofs.YtpennfkjfeipcaaW.PrintLast Go.Proofs.YtpennfkjfeipcaaW.PrintMore
attribute [local go_sem] max2_int min2_int max_two min_two max_three min_three max_four min_four   -- for this text's walks alone
set_option linter.unusedVariables false
set_option linter.unusedSimpArgs false

-- NOT PRINTED: function 40 (impl_readBoxes)

theorem u8e {p : Prop} (h : p) : Aside0 p := Aside0.mk h
-- short names
theorem u8a : type_of% @List.setIfInBounds_toArray := @List.setIfInBounds_toArray
theorem u8b : type_of% @List.set_cons_zero := @List.set_cons_zero
theorem u8c : type_of% @List.set_cons_succ := @List.set_cons_succ
/-! ### impl_SaveBoxes: function 16 -/
-- rounds 1 making 1
def impl_SaveBoxes.f (k : Nat) (l0 : List Int) : Option (List S46) := if (l0.length : Int) > 40000 then some [] else (rdTop k l0).bind fun s => some s.1
theorem impl_SaveBoxes.mono : ∀ l0 k, LeO (impl_SaveBoxes.f k l0) (impl_SaveBoxes.f (k + 1) l0) := by
 intro l0 k
 unfold impl_SaveBoxes.f
 exact LeO.ite (LeO.refl _) (LeO.bind (rdTop.mono l0 k) (fun _ => LeO.refl _))
set_option maxHeartbeats 8000000 in
set_option maxRecDepth 100000 in
theorem impl_SaveBoxes.calls (k : Nat) (A0 : Option Addr) (c0 : Nat) (l0 : List Int) (r : List S46) (w : World) (hr0 : Kd.C (Kd.int .u8) w A0 l0.length l0) (hc0 : l0.length ≤ c0) (h : impl_SaveBoxes.f k l0 = some r) :
  Calls Try.prog 16 #[.slice A0 l0.length c0] w fun e w' => ∃ v0_ : Value, e = .returned (v0_) ∧ Kd.S k46 46 w' w.heap.size (fun _ => True) v0_ r ∧ Below w.heap.size w w' := by
 have HB := u8e (Below.refl w.heap.size w)
 have HR0 := u8e hr0
 have HC0 := u8e hc0
 clear hr0 hc0
 unfold impl_SaveBoxes.f at h
 by_cases c : (l0.length : Int) > 40000
 ·rw [if_pos c] at h
  obtain rfl := Option.some.inj h
  have cb0 : decide ((40000 : Int) < (l0.length : Int)) = true := decide_eq_true (by omega)
  have cb1 : decide (40000 < l0.length) = true := decide_eq_true (by omega)
  clear h c
  go_enter Try.func16, Try.ntmps16
  go_wp2
  go_ret
  exact ⟨_, rfl, Kd.S_nil _ _ _ _ _, HB.out⟩
 ·rw [if_neg c] at h
  obtain ⟨s, hs, h⟩ := Option.bind_eq_some_iff.1 h
  obtain rfl := Option.some.inj h
  have H := u8e hs
  have cb0 : decide ((40000 : Int) < (l0.length : Int)) = false := decide_eq_false (by omega)
  have cb1 : decide (40000 < l0.length) = false := decide_eq_false (by omega)
  clear hs h c
  go_enter Try.func16, Try.ntmps16
  go_wp2_with (first | ((with_reducible refine gate_dst (N := 7) rfl ?_); refine goesL_ (some 7) rfl rfl Try.func40 (by kernel_rfl) rfl #[.slice A0 l0.length c0] rfl (by (try simp only [List.map_toArray, List.map_cons, List.map_nil]); first | done | rfl) ?_; (refine (impl_readBoxes.calls k A0 c0 l0 s w HR0.out HC0.out H.out).mono ?_); rintro e_ W4_ ⟨gq, rfl, h0_, vo4, h1_, h2_, h3_⟩; refine ⟨_, rfl, ?_⟩; have HGQ := u8e h0_; have HG4 := u8e h1_; have HO4 := u8e h2_; have HB4 := u8e h3_; have hq0_ : W4_.cell? ⟨gq, 0, none⟩ = some (Value.slice A0 l0.length c0) := (blk_cell HG4.out 0).trans rfl; have hq1_ : W4_.cell? ⟨gq, 1, none⟩ = some (vo4) := (blk_cell HG4.out 1).trans rfl; have hq2_ : W4_.cell? ⟨gq, 2, none⟩ = some (Value.int .i64 s.2.1) := (blk_cell HG4.out 2).trans rfl; have hq3_ : W4_.cell? ⟨gq, 3, none⟩ = some (Value.int .i64 s.2.2.1) := (blk_cell HG4.out 3).trans rfl; have hq4_ : W4_.cell? ⟨gq, 4, none⟩ = some (Value.int .i64 s.2.2.2) := (blk_cell HG4.out 4).trans rfl; clear h0_ h1_ h2_ h3_))
  go_ret
  exact ⟨_, rfl, Kd.S_mono HO4.out (fun _ _ => trivial), HB4.out⟩


/-! ### spec_ReadBoxes: function 21 -/
-- rounds 1 making 1
def spec_ReadBoxes.f (k : Nat) (l0 : List Int) : Option (List S46 × Int × Int) := if (l0.length : Int) > 40000 then some ([], 1, 0) else (rdTop k l0).bind fun s => if s.2.2.1 = 0 then some (s.1, 0, 0) else some ([], s.2.2.1, s.2.2.2)
theorem spec_ReadBoxes.mono : ∀ l0 k, LeO (spec_ReadBoxes.f k l0) (spec_ReadBoxes.f (k + 1) l0) := by
 intro l0 k
 unfold spec_ReadBoxes.f
 exact LeO.ite (LeO.refl _) (LeO.bind (rdTop.mono l0 k) (fun _ => LeO.refl _))
set_option maxHeartbeats 8000000 in
set_option maxRecDepth 100000 in
theorem spec_ReadBoxes.calls (k : Nat) (A0 : Option Addr) (c0 : Nat) (l0 : List Int) (r1 : List S46) (r2 : Int) (r3 : Int) (w : World) (hr0 : Kd.C (Kd.int .u8) w A0 l0.length l0) (hc0 : l0.length ≤ c0) (h : spec_ReadBoxes.f k l0 = some (r1, r2, r3)) :
  Calls Try.prog 21 #[.slice A0 l0.length c0] w fun e w' => ∃ v0_ : Value, e = .returned (.tuple #[v0_, .agg #[.int .i64 r2, .int .i64 r3]]) ∧ Kd.S k46 46 w' w.heap.size (fun _ => True) v0_ r1 ∧ Below w.heap.size w w' := by
 have HB := u8e (Below.refl w.heap.size w)
 have HR0 := u8e hr0
 have HC0 := u8e hc0
 clear hr0 hc0
 unfold spec_ReadBoxes.f at h
 by_cases c : (l0.length : Int) > 40000
 ·rw [if_pos c] at h
  obtain ⟨rfl, rfl, rfl⟩ : r1 = [] ∧ r2 = 1 ∧ r3 = 0 := by simpa [eq_comm] using h
  have cb0 : decide ((40000 : Int) < (l0.length : Int)) = true := decide_eq_true (by omega)
  have cb1 : decide (40000 < l0.length) = true := decide_eq_true (by omega)
  clear h c
  go_enter Try.func21, Try.ntmps21
  go_wp2_with (first | ((with_reducible refine gate_dst (N := 3) rfl ?_); refine box_event ?hg (N := 3) ?hd (cs := #[.int .i64 0, .int .i64 0]) (t := 37) ?hr ?_; (case hd => rfl); (case hg => rfl); (case hr => first | (go_simp; done) | (go_simp; rfl)); intro gr hgr_ W2_ hbox_ hb_; have HRG : Aside0 (w.heap.size ≤ gr) := ⟨by rw [hgr_]; exact HB.out.size⟩; have HRK := u8e hbox_; have HB2 := u8e (below_step HB.out hb_); have HR2 := u8e (Kd.C_below HR0.out hb_); clear hgr_ hbox_ hb_) | ((with_reducible refine gate_dst (N := 8) rfl ?_); refine Kd.S_lit k46 (w0 := w) w.heap.size 46 ?hg (N := 8) ?hd (xs := ([] : List S46)) (inner := []) (ok := fun k_ => k_ ≠ gr) (okp := fun _ => False) ?hr ?hp ?hok (fun he_ => Nat.lt_irrefl _ (he_ ▸ blk_lt HRK.out)) HB2.out HB2.out.size (by simp) ?_; (case hok => exact fun _ hk_ => hk_.elim); (case hd => rfl); (case hg => rfl); (case hr => first | (go_simp; done) | (go_simp; rfl)); (case hp => exact (Reps.none _ _)); intro v3_ W3_ ho_ hb_ hg_ hnew_; have HO3 := u8e ho_; have HB3 := u8e hb_; have HRK3 := u8e ((hg_.block gr (blk_lt HRK.out) (by simp)).trans HRK.out); clear ho_ hb_ hg_ hnew_) | ((with_reducible refine gate_ (.store 37 (.tmp 3) (.tmp 9)) rfl ?_); (refine put_blk_event rfl rfl rfl (g := gr) (off := 0) (cur := #[Value.int .i64 0, Value.int .i64 0]) (cur' := #[Value.int .i64 1, Value.int .i64 0]) (u := .agg #[Value.int .i64 1, Value.int .i64 0]) (seg := [Value.int .i64 1, Value.int .i64 0]) (by rfl) (by rfl) HRK3.out rfl (by kernel_rfl) (Nat.le_of_ble_eq_true rfl) (by intro q_ hq_; simp only [List.mem_cons, List.not_mem_nil, or_false] at hq_; rcases hq_ with rfl | rfl <;> rfl) (by rfl) ?_); intro W6_ h1_ h2_ h3_; have HRK6 := u8e h1_; have HO6 := u8e (Kd.S_mono (Kd.S_step HO3.out (fun k_ hk_ _ => h2_ k_ hk_)) (fun _ _ => trivial : ∀ k, k ≠ gr → True)); have HB6 := u8e (h3_ _ _ HRG.out HB3.out); clear h1_ h2_ h3_))
  refine bodyPost_ret (results_tc rfl _ _ gr 37 #[Value.int .i64 1, Value.int .i64 0] (0, 0) _ rfl HRK6.out Try.underlying37 rfl (by kernel_rfl)) rfl ?_
  exact ⟨_, rfl, HO6.out, HB6.out⟩
 ·rw [if_neg c] at h
  obtain ⟨s, hs, h⟩ := Option.bind_eq_some_iff.1 h
  have H := u8e hs
  have cb0 : decide ((40000 : Int) < (l0.length : Int)) = false := decide_eq_false (by omega)
  have cb1 : decide (40000 < l0.length) = false := decide_eq_false (by omega)
  clear hs c
  by_cases c2 : s.2.2.1 = 0
  ·rw [if_pos c2] at h
   obtain ⟨rfl, rfl, rfl⟩ : r1 = s.1 ∧ r2 = 0 ∧ r3 = 0 := by simpa [eq_comm] using h
   have e0 : (s.2.2.1 == 0) = true := by simpa using c2
   have e1 : (s.2.2.1 != 0) = false := by simpa using c2
   have e2 : decide (s.2.2.1 = 0) = true := by simpa using c2
   clear h c2
   go_enter Try.func21, Try.ntmps21
   go_wp2_with (first | ((with_reducible refine gate_dst (N := 3) rfl ?_); refine box_event ?hg (N := 3) ?hd (cs := #[.int .i64 0, .int .i64 0]) (t := 37) ?hr ?_; (case hd => rfl); (case hg => rfl); (case hr => first | (go_simp; done) | (go_simp; rfl)); intro gr hgr_ W2_ hbox_ hb_; have HRG : Aside0 (w.heap.size ≤ gr) := ⟨by rw [hgr_]; exact HB.out.size⟩; have HRK := u8e hbox_; have HB2 := u8e (below_step HB.out hb_); have HR2 := u8e (Kd.C_below HR0.out hb_); clear hgr_ hbox_ hb_) | ((with_reducible refine gate_dst (N := 12) rfl ?_); refine box_event ?hg (N := 12) ?hd (cs := #[.slice A0 l0.length c0, .slice none 0 0, .int .i64 0, .int .i64 0, .int .i64 0]) (t := 53) ?hr ?_; (case hd => rfl); (case hg => rfl); (case hr => first | (go_simp; done) | (go_simp; rfl)); intro gq hgq_ W3_ hbox_ hb_; have HGQ : Aside0 (W2_.heap.size ≤ gq) := ⟨by rw [hgq_]; exact Nat.le_refl _⟩; have HBX := u8e hbox_; have HB3 := u8e hb_; clear hgq_ hbox_ hb_) | ((with_reducible refine gate_dst (N := 16) rfl ?_); refine goesL_ (some 16) rfl rfl Try.func39 (by kernel_rfl) rfl #[.pointer (some ⟨gq, 0, none⟩), .int .i64 0, .int .i64 (l0.length : Int), .int .i64 0] rfl (by (try simp only [List.map_toArray, List.map_cons, List.map_nil]); first | done | rfl) ?_; (refine (l2Read_top k A0 c0 l0 s W2_ HR2.out HC0.out H.out gq W3_ HGQ.out HB3.out HBX.out).mono ?_); rintro e_ W4_ ⟨⟨v_, rfl⟩, vo4, h1_, h2_, h3_⟩; refine ⟨_, rfl, ?_⟩; have HG4 := u8e h1_; have HO4 := u8e h2_; have HB4 := u8e h3_; have hq0_ : W4_.cell? ⟨gq, 0, none⟩ = some (Value.slice A0 l0.length c0) := (blk_cell HG4.out 0).trans rfl; have hq1_ : W4_.cell? ⟨gq, 1, none⟩ = some (vo4) := (blk_cell HG4.out 1).trans rfl; have hq2_ : W4_.cell? ⟨gq, 2, none⟩ = some (Value.int .i64 s.2.1) := (blk_cell HG4.out 2).trans rfl; have hq3_ : W4_.cell? ⟨gq, 3, none⟩ = some (Value.int .i64 s.2.2.1) := (blk_cell HG4.out 3).trans rfl; have hq4_ : W4_.cell? ⟨gq, 4, none⟩ = some (Value.int .i64 s.2.2.2) := (blk_cell HG4.out 4).trans rfl; have HRK4 := u8e (blk_below HRK.out HB4.out); have HBF := u8e (below_step HB2.out HB4.out); clear h1_ h2_ h3_) | ((with_reducible refine gate_ (.store 37 (.tmp 3) (.tmp 32)) rfl ?_); (refine put_blk_event rfl rfl rfl (g := gr) (off := 0) (cur := #[Value.int .i64 0, Value.int .i64 0]) (cur' := #[Value.int .i64 0, Value.int .i64 0]) (u := .agg #[Value.int .i64 0, Value.int .i64 0]) (seg := [Value.int .i64 0, Value.int .i64 0]) (by rfl) (by rfl) HRK4.out rfl (by kernel_rfl) (Nat.le_of_ble_eq_true rfl) (by intro q_ hq_; simp only [List.mem_cons, List.not_mem_nil, or_false] at hq_; rcases hq_ with rfl | rfl <;> rfl) (by rfl) ?_); intro W6_ h1_ h2_ h3_; have HRK6 := u8e h1_; have HO6 := u8e ((Kd.S_lower (Kd.S_mono (Kd.S_step (Kd.S_bound HO4.out) (fun k_ hk_ _ => h2_ k_ (Nat.ne_of_gt (Nat.lt_of_lt_of_le (blk_lt HRK.out) hk_.2.1)))) (fun _ _ => trivial)) HB2.out.size)); have HB6 := u8e (h3_ _ _ HRG.out HBF.out); clear h1_ h2_ h3_))
   refine bodyPost_ret (results_tc rfl _ _ gr 37 #[Value.int .i64 0, Value.int .i64 0] (0, 0) _ rfl HRK6.out Try.underlying37 rfl (by kernel_rfl)) rfl ?_
   exact ⟨_, rfl, HO6.out, HB6.out⟩
  ·rw [if_neg c2] at h
   obtain ⟨rfl, rfl, rfl⟩ : r1 = [] ∧ r2 = s.2.2.1 ∧ r3 = s.2.2.2 := by simpa [eq_comm] using h
   have e0 : (s.2.2.1 == 0) = false := by simpa using c2
   have e1 : (s.2.2.1 != 0) = true := by simpa using c2
   have e2 : decide (s.2.2.1 = 0) = false := by simpa using c2
   clear h c2
   go_enter Try.func21, Try.ntmps21
   go_wp2_with (first | ((with_reducible refine gate_dst (N := 3) rfl ?_); refine box_event ?hg (N := 3) ?hd (cs := #[.int .i64 0, .int .i64 0]) (t := 37) ?hr ?_; (case hd => rfl); (case hg => rfl); (case hr => first | (go_simp; done) | (go_simp; rfl)); intro gr hgr_ W2_ hbox_ hb_; have HRG : Aside0 (w.heap.size ≤ gr) := ⟨by rw [hgr_]; exact HB.out.size⟩; have HRK := u8e hbox_; have HB2 := u8e (below_step HB.out hb_); have HR2 := u8e (Kd.C_below HR0.out hb_); clear hgr_ hbox_ hb_) | ((with_reducible refine gate_dst (N := 12) rfl ?_); refine box_event ?hg (N := 12) ?hd (cs := #[.slice A0 l0.length c0, .slice none 0 0, .int .i64 0, .int .i64 0, .int .i64 0]) (t := 53) ?hr ?_; (case hd => rfl); (case hg => rfl); (case hr => first | (go_simp; done) | (go_simp; rfl)); intro gq hgq_ W3_ hbox_ hb_; have HGQ : Aside0 (W2_.heap.size ≤ gq) := ⟨by rw [hgq_]; exact Nat.le_refl _⟩; have HBX := u8e hbox_; have HB3 := u8e hb_; clear hgq_ hbox_ hb_) | ((with_reducible refine gate_dst (N := 16) rfl ?_); refine goesL_ (some 16) rfl rfl Try.func39 (by kernel_rfl) rfl #[.pointer (some ⟨gq, 0, none⟩), .int .i64 0, .int .i64 (l0.length : Int), .int .i64 0] rfl (by (try simp only [List.map_toArray, List.map_cons, List.map_nil]); first | done | rfl) ?_; (refine (l2Read_top k A0 c0 l0 s W2_ HR2.out HC0.out H.out gq W3_ HGQ.out HB3.out HBX.out).mono ?_); rintro e_ W4_ ⟨⟨v_, rfl⟩, vo4, h1_, h2_, h3_⟩; refine ⟨_, rfl, ?_⟩; have HG4 := u8e h1_; have HO4 := u8e h2_; have HB4 := u8e h3_; have hq0_ : W4_.cell? ⟨gq, 0, none⟩ = some (Value.slice A0 l0.length c0) := (blk_cell HG4.out 0).trans rfl; have hq1_ : W4_.cell? ⟨gq, 1, none⟩ = some (vo4) := (blk_cell HG4.out 1).trans rfl; have hq2_ : W4_.cell? ⟨gq, 2, none⟩ = some (Value.int .i64 s.2.1) := (blk_cell HG4.out 2).trans rfl; have hq3_ : W4_.cell? ⟨gq, 3, none⟩ = some (Value.int .i64 s.2.2.1) := (blk_cell HG4.out 3).trans rfl; have hq4_ : W4_.cell? ⟨gq, 4, none⟩ = some (Value.int .i64 s.2.2.2) := (blk_cell HG4.out 4).trans rfl; have HRK4 := u8e (blk_below HRK.out HB4.out); have HBF := u8e (below_step HB2.out HB4.out); clear h1_ h2_ h3_))
   refine start_ (n := 7) (S := fun w' => w'.heap[gq]? = some (.cells #[.slice A0 l0.length c0, vo4, .int .i64 s.2.1, .int .i64 s.2.2.1, .int .i64 s.2.2.2] 53 (0, 0))) (ds := [6]) #[false, false, false, false, false, false, false] (by kernel_rfl) rfl rfl HG4.out (fun hHeld => ?_)
   have HRKd : Aside0 ((World.drew W4_).heap[gr]? = some (.cells #[Value.int .i64 0, Value.int .i64 0] 37 (0, 0))) := ⟨HRK4.out⟩
   have HBd : Aside0 (Below w.heap.size w (World.drew W4_)) := ⟨Below.mk HBF.out.os HBF.out.tape HBF.out.output HBF.out.size HBF.out.block⟩
   clear HRK4 HG4 HBF HB4 HO4 hq0_ hq1_ hq2_ hq3_ hq4_
   generalize World.drew W4_ = V at HRKd hHeld HBd ⊢
   refine pure_ (i := 1) (N := some 24) (v := ?_) (a' := ?_) #[false, true, false, false, false, false, false] rfl rfl (by kernel_rfl) (fun _ _ _ h => h) (Or.inl ⟨by rfl, ?_⟩) ?_ ?_
   rotate_left
   ·intro w'
    go_simp
    with_reducible rfl
   rotate_left
   ·simp only [Act.put, u8a, u8b, u8c, i64_w, i32_w]
    rfl
   refine pure_ (i := 2) (N := some 25) (v := ?_) (a' := ?_) #[false, true, true, false, false, false, false] rfl rfl (by kernel_rfl) (fun _ _ _ h => h) (Or.inl ⟨by rfl, ?_⟩) ?_ ?_
   rotate_left
   ·intro w'
    go_simp
    with_reducible rfl
   rotate_left
   ·simp only [Act.put, u8a, u8b, u8c, i64_w, i32_w]
    rfl
   refine pure_ (i := 3) (N := some 26) (v := ?_) (a' := ?_) #[false, true, true, true, false, false, false] rfl rfl (by kernel_rfl) (fun _ _ _ h => h) (Or.inl ⟨by rfl, ?_⟩) ?_ ?_
   rotate_left
   ·intro w'
    go_simp
    with_reducible rfl
   rotate_left
   ·simp only [Act.put, u8a, u8b, u8c, i64_w, i32_w]
    rfl
   refine take_ (i := 4) (N := some 27) (v := ?_) (a' := ?_) #[false, true, true, true, true, false, false] rfl rfl (by kernel_rfl) (fun _ _ _ h => h) (Or.inl ⟨by rfl, ?_⟩) hHeld ?_ ?_
   rotate_left
   ·intro w' hS
    have hc3_ : w'.cell? ⟨gq, 3, none⟩ = some (.int .i64 s.2.2.1) := (blk_cell hS 3).trans rfl
    have hc4_ : w'.cell? ⟨gq, 4, none⟩ = some (.int .i64 s.2.2.2) := (blk_cell hS 4).trans rfl
    go_simp
    with_reducible rfl
   rotate_left
   ·simp only [Act.put, u8a, u8b, u8c, i64_w, i32_w]
    rfl
   refine one_ (i := 0) (N := some 23) #[true, true, true, true, true, false, false] rfl rfl (by kernel_rfl) (by decide) (fun K hK => ?_)
   refine Kd.S_lit_step k46 (w0 := w) w.heap.size 46 (by rfl) rfl (xs := ([] : List S46)) (inner := []) (ok := fun k_ => k_ ≠ gr) (okp := fun _ => False) (by first | (go_simp; done) | (go_simp; rfl)) (Reps.none _ _) (fun _ hk => hk.elim) (fun he_ => Nat.lt_irrefl _ (he_ ▸ blk_lt HRKd.out)) HBd.out HBd.out.size (by simp) ?_
   intro v5_ W5_ ho_ hb_ hg_ hnew_
   have HO5 := u8e ho_
   have HB5 := u8e hb_
   have HRK5 := u8e ((hg_.block gr (blk_lt HRKd.out) (by simp)).trans HRKd.out)
   replace hHeld := ((hg_.block gq (blk_lt hHeld) (by simp)).trans hHeld)
   clear ho_ hb_ hg_ hnew_
   refine hK.out _ _ hHeld  (fun _ => ?_)
   clear hK K
   refine norm_ (a' := ?_) ?_ ?_
   rotate_left
   ·show Act.put _ (some 23) _ = _
    simp only [Act.put, u8a, u8b, u8c, i64_w, i32_w]
    rfl
   refine pure_ (i := 5) (N := some 2) (v := ?_) (a' := ?_) #[true, true, true, true, true, true, false] rfl rfl (by kernel_rfl) (fun _ _ _ h => h) (Or.inl ⟨by rfl, ?_⟩) ?_ ?_
   rotate_left
   ·intro w'
    go_simp
    with_reducible rfl
   rotate_left
   ·simp only [Act.put, u8a, u8b, u8c, i64_w, i32_w]
    rfl
   refine last_ (i := 6) (N := none) #[true, true, true, true, true, true, true] rfl rfl (by kernel_rfl) (by decide) (fun K hK => ?_)
   refine put_blk_step (by rfl) rfl rfl (g := gr) (off := 0) (cur := #[Value.int .i64 0, Value.int .i64 0]) (cur' := #[Value.int .i64 s.2.2.1, Value.int .i64 s.2.2.2]) (u := .agg #[Value.int .i64 s.2.2.1, Value.int .i64 s.2.2.2]) (seg := [Value.int .i64 s.2.2.1, Value.int .i64 s.2.2.2]) (by rfl) (by rfl) HRK5.out rfl (by kernel_rfl) (Nat.le_of_ble_eq_true rfl) (by intro q_ hq_; simp only [List.mem_cons, List.not_mem_nil, or_false] at hq_; rcases hq_ with rfl | rfl <;> rfl) (by rfl) ?_
   intro W6_ h1_ h2_ h3_
   have HRK6 := u8e h1_
   have HO6 := u8e (Kd.S_mono (Kd.S_step HO5.out (fun k_ hk_ _ => h2_ k_ hk_)) (fun _ _ => trivial : ∀ k, k ≠ gr → True))
   have HB6 := u8e (h3_ _ _ HRG.out HB5.out)
   clear h1_ h2_ h3_
   refine hK.out _ _ ?_
   clear hK K
   refine done_ (by kernel_rfl) ?_
   go_wp2
   refine bodyPost_ret (results_tc rfl _ _ gr 37 #[Value.int .i64 s.2.2.1, Value.int .i64 s.2.2.2] (0, 0) _ rfl HRK6.out Try.underlying37 rfl (by kernel_rfl)) rfl ?_
   exact ⟨_, rfl, HO6.out, HB6.out⟩


/-! ### impl_ReadBoxes: function 22 -/
-- rounds 1 making 1
def impl_ReadBoxes.f (k : Nat) (l0 : List Int) : Option (List S46 × Int × Int) := if (l0.length : Int) > 40000 then some ([], 1, 0) else (rdTop k l0).bind fun s => if s.2.2.1 = 0 then some (s.1, 0, 0) else some ([], s.2.2.1, s.2.2.2)
theorem impl_ReadBoxes.mono : ∀ l0 k, LeO (impl_ReadBoxes.f k l0) (impl_ReadBoxes.f (k + 1) l0) := by
 intro l0 k
 unfold impl_ReadBoxes.f
 exact LeO.ite (LeO.refl _) (LeO.bind (rdTop.mono l0 k) (fun _ => LeO.refl _))
set_option maxHeartbeats 8000000 in
set_option maxRecDepth 100000 in
theorem impl_ReadBoxes.calls (k : Nat) (A0 : Option Addr) (c0 : Nat) (l0 : List Int) (r1 : List S46) (r2 : Int) (r3 : Int) (w : World) (hr0 : Kd.C (Kd.int .u8) w A0 l0.length l0) (hc0 : l0.length ≤ c0) (h : impl_ReadBoxes.f k l0 = some (r1, r2, r3)) :
  Calls Try.prog 22 #[.slice A0 l0.length c0] w fun e w' => ∃ v0_ : Value, e = .returned (.tuple #[v0_, .agg #[.int .i64 r2, .int .i64 r3]]) ∧ Kd.S k46 46 w' w.heap.size (fun _ => True) v0_ r1 ∧ Below w.heap.size w w' := by
 have HB := u8e (Below.refl w.heap.size w)
 have HR0 := u8e hr0
 have HC0 := u8e hc0
 clear hr0 hc0
 unfold impl_ReadBoxes.f at h
 by_cases c : (l0.length : Int) > 40000
 ·rw [if_pos c] at h
  obtain ⟨rfl, rfl, rfl⟩ : r1 = [] ∧ r2 = 1 ∧ r3 = 0 := by simpa [eq_comm] using h
  have cb0 : decide ((40000 : Int) < (l0.length : Int)) = true := decide_eq_true (by omega)
  have cb1 : decide (40000 < l0.length) = true := decide_eq_true (by omega)
  clear h c
  go_enter Try.func22, Try.ntmps22
  go_wp2_with (first | ((with_reducible refine gate_dst (N := 3) rfl ?_); refine box_event ?hg (N := 3) ?hd (cs := #[.int .i64 0, .int .i64 0]) (t := 37) ?hr ?_; (case hd => rfl); (case hg => rfl); (case hr => first | (go_simp; done) | (go_simp; rfl)); intro gr hgr_ W2_ hbox_ hb_; have HRG : Aside0 (w.heap.size ≤ gr) := ⟨by rw [hgr_]; exact HB.out.size⟩; have HRK := u8e hbox_; have HB2 := u8e (below_step HB.out hb_); have HR2 := u8e (Kd.C_below HR0.out hb_); clear hgr_ hbox_ hb_) | ((with_reducible refine gate_ (.store 37 (.tmp 3) (.tmp 8)) rfl ?_); (refine put_blk_event rfl rfl rfl (g := gr) (off := 0) (cur := #[Value.int .i64 0, Value.int .i64 0]) (cur' := #[Value.int .i64 1, Value.int .i64 0]) (u := .agg #[Value.int .i64 1, Value.int .i64 0]) (seg := [Value.int .i64 1, Value.int .i64 0]) (by rfl) (by rfl) HRK.out rfl (by kernel_rfl) (Nat.le_of_ble_eq_true rfl) (by intro q_ hq_; simp only [List.mem_cons, List.not_mem_nil, or_false] at hq_; rcases hq_ with rfl | rfl <;> rfl) (by rfl) ?_); intro W6_ h1_ h2_ h3_; have HRK6 := u8e h1_; have HO6 : Aside0 (Kd.S k46 46 W6_ w.heap.size (fun _ => True) (.slice none 0 0) []) := ⟨Kd.S_nil _ _ _ _ _⟩; have HB6 := u8e (h3_ _ _ HRG.out HB2.out); clear h1_ h2_ h3_))
  refine bodyPost_ret (results_tc rfl _ _ gr 37 #[Value.int .i64 1, Value.int .i64 0] (0, 0) _ rfl HRK6.out Try.underlying37 rfl (by kernel_rfl)) rfl ?_
  exact ⟨_, rfl, HO6.out, HB6.out⟩
 ·rw [if_neg c] at h
  obtain ⟨s, hs, h⟩ := Option.bind_eq_some_iff.1 h
  have H := u8e hs
  have cb0 : decide ((40000 : Int) < (l0.length : Int)) = false := decide_eq_false (by omega)
  have cb1 : decide (40000 < l0.length) = false := decide_eq_false (by omega)
  clear hs c
  by_cases c2 : s.2.2.1 = 0
  ·rw [if_pos c2] at h
   obtain ⟨rfl, rfl, rfl⟩ : r1 = s.1 ∧ r2 = 0 ∧ r3 = 0 := by simpa [eq_comm] using h
   have e0 : (s.2.2.1 == 0) = true := by simpa using c2
   have e1 : (s.2.2.1 != 0) = false := by simpa using c2
   have e2 : decide (s.2.2.1 = 0) = true := by simpa using c2
   clear h c2
   go_enter Try.func22, Try.ntmps22
   go_wp2_with (first | ((with_reducible refine gate_dst (N := 3) rfl ?_); refine box_event ?hg (N := 3) ?hd (cs := #[.int .i64 0, .int .i64 0]) (t := 37) ?hr ?_; (case hd => rfl); (case hg => rfl); (case hr => first | (go_simp; done) | (go_simp; rfl)); intro gr hgr_ W2_ hbox_ hb_; have HRG : Aside0 (w.heap.size ≤ gr) := ⟨by rw [hgr_]; exact HB.out.size⟩; have HRK := u8e hbox_; have HB2 := u8e (below_step HB.out hb_); have HR2 := u8e (Kd.C_below HR0.out hb_); clear hgr_ hbox_ hb_) | ((with_reducible refine gate_dst (N := 10) rfl ?_); refine goesL_ (some 10) rfl rfl Try.func40 (by kernel_rfl) rfl #[.slice A0 l0.length c0] rfl (by (try simp only [List.map_toArray, List.map_cons, List.map_nil]); first | done | rfl) ?_; (refine (impl_readBoxes.calls k A0 c0 l0 s W2_ HR2.out HC0.out H.out).mono ?_); rintro e_ W4_ ⟨gq, rfl, h0_, vo4, h1_, h2_, h3_⟩; refine ⟨_, rfl, ?_⟩; have HGQ := u8e h0_; have HG4 := u8e h1_; have HO4 := u8e h2_; have HB4 := u8e h3_; have hq0_ : W4_.cell? ⟨gq, 0, none⟩ = some (Value.slice A0 l0.length c0) := (blk_cell HG4.out 0).trans rfl; have hq1_ : W4_.cell? ⟨gq, 1, none⟩ = some (vo4) := (blk_cell HG4.out 1).trans rfl; have hq2_ : W4_.cell? ⟨gq, 2, none⟩ = some (Value.int .i64 s.2.1) := (blk_cell HG4.out 2).trans rfl; have hq3_ : W4_.cell? ⟨gq, 3, none⟩ = some (Value.int .i64 s.2.2.1) := (blk_cell HG4.out 3).trans rfl; have hq4_ : W4_.cell? ⟨gq, 4, none⟩ = some (Value.int .i64 s.2.2.2) := (blk_cell HG4.out 4).trans rfl; have HRK4 := u8e (blk_below HRK.out HB4.out); have HBF := u8e (below_step HB2.out HB4.out); clear h0_ h1_ h2_ h3_) | ((with_reducible refine gate_ (.store 37 (.tmp 3) (.tmp 25)) rfl ?_); (refine put_blk_event rfl rfl rfl (g := gr) (off := 0) (cur := #[Value.int .i64 0, Value.int .i64 0]) (cur' := #[Value.int .i64 0, Value.int .i64 0]) (u := .agg #[Value.int .i64 0, Value.int .i64 0]) (seg := [Value.int .i64 0, Value.int .i64 0]) (by rfl) (by rfl) HRK4.out rfl (by kernel_rfl) (Nat.le_of_ble_eq_true rfl) (by intro q_ hq_; simp only [List.mem_cons, List.not_mem_nil, or_false] at hq_; rcases hq_ with rfl | rfl <;> rfl) (by rfl) ?_); intro W6_ h1_ h2_ h3_; have HRK6 := u8e h1_; have HO6 := u8e ((Kd.S_lower (Kd.S_mono (Kd.S_step (Kd.S_bound HO4.out) (fun k_ hk_ _ => h2_ k_ (Nat.ne_of_gt (Nat.lt_of_lt_of_le (blk_lt HRK.out) hk_.2.1)))) (fun _ _ => trivial)) HB2.out.size)); have HB6 := u8e (h3_ _ _ HRG.out HBF.out); clear h1_ h2_ h3_))
   refine bodyPost_ret (results_tc rfl _ _ gr 37 #[Value.int .i64 0, Value.int .i64 0] (0, 0) _ rfl HRK6.out Try.underlying37 rfl (by kernel_rfl)) rfl ?_
   exact ⟨_, rfl, HO6.out, HB6.out⟩
  ·rw [if_neg c2] at h
   obtain ⟨rfl, rfl, rfl⟩ : r1 = [] ∧ r2 = s.2.2.1 ∧ r3 = s.2.2.2 := by simpa [eq_comm] using h
   have e0 : (s.2.2.1 == 0) = false := by simpa using c2
   have e1 : (s.2.2.1 != 0) = true := by simpa using c2
   have e2 : decide (s.2.2.1 = 0) = false := by simpa using c2
   clear h c2
   go_enter Try.func22, Try.ntmps22
   go_wp2_with (first | ((with_reducible refine gate_dst (N := 3) rfl ?_); refine box_event ?hg (N := 3) ?hd (cs := #[.int .i64 0, .int .i64 0]) (t := 37) ?hr ?_; (case hd => rfl); (case hg => rfl); (case hr => first | (go_simp; done) | (go_simp; rfl)); intro gr hgr_ W2_ hbox_ hb_; have HRG : Aside0 (w.heap.size ≤ gr) := ⟨by rw [hgr_]; exact HB.out.size⟩; have HRK := u8e hbox_; have HB2 := u8e (below_step HB.out hb_); have HR2 := u8e (Kd.C_below HR0.out hb_); clear hgr_ hbox_ hb_) | ((with_reducible refine gate_dst (N := 10) rfl ?_); refine goesL_ (some 10) rfl rfl Try.func40 (by kernel_rfl) rfl #[.slice A0 l0.length c0] rfl (by (try simp only [List.map_toArray, List.map_cons, List.map_nil]); first | done | rfl) ?_; (refine (impl_readBoxes.calls k A0 c0 l0 s W2_ HR2.out HC0.out H.out).mono ?_); rintro e_ W4_ ⟨gq, rfl, h0_, vo4, h1_, h2_, h3_⟩; refine ⟨_, rfl, ?_⟩; have HGQ := u8e h0_; have HG4 := u8e h1_; have HO4 := u8e h2_; have HB4 := u8e h3_; have hq0_ : W4_.cell? ⟨gq, 0, none⟩ = some (Value.slice A0 l0.length c0) := (blk_cell HG4.out 0).trans rfl; have hq1_ : W4_.cell? ⟨gq, 1, none⟩ = some (vo4) := (blk_cell HG4.out 1).trans rfl; have hq2_ : W4_.cell? ⟨gq, 2, none⟩ = some (Value.int .i64 s.2.1) := (blk_cell HG4.out 2).trans rfl; have hq3_ : W4_.cell? ⟨gq, 3, none⟩ = some (Value.int .i64 s.2.2.1) := (blk_cell HG4.out 3).trans rfl; have hq4_ : W4_.cell? ⟨gq, 4, none⟩ = some (Value.int .i64 s.2.2.2) := (blk_cell HG4.out 4).trans rfl; have HRK4 := u8e (blk_below HRK.out HB4.out); have HBF := u8e (below_step HB2.out HB4.out); clear h0_ h1_ h2_ h3_))
   refine start_ (n := 6) (S := fun w' => w'.heap[gq]? = some (.cells #[.slice A0 l0.length c0, vo4, .int .i64 s.2.1, .int .i64 s.2.2.1, .int .i64 s.2.2.2] 56 (0, 0))) (ds := [5]) #[false, false, false, false, false, false] (by kernel_rfl) rfl rfl HG4.out (fun hHeld => ?_)
   have HRKd : Aside0 ((World.drew W4_).heap[gr]? = some (.cells #[Value.int .i64 0, Value.int .i64 0] 37 (0, 0))) := ⟨HRK4.out⟩
   have HBd : Aside0 (Below w.heap.size w (World.drew W4_)) := ⟨Below.mk HBF.out.os HBF.out.tape HBF.out.output HBF.out.size HBF.out.block⟩
   clear HRK4 HG4 HBF HB4 HO4 hq0_ hq1_ hq2_ hq3_ hq4_
   generalize World.drew W4_ = V at HRKd hHeld HBd ⊢
   refine pure_ (i := 0) (N := some 17) (v := ?_) (a' := ?_) #[true, false, false, false, false, false] rfl rfl (by kernel_rfl) (fun _ _ _ h => h) (Or.inl ⟨by rfl, ?_⟩) ?_ ?_
   rotate_left
   ·intro w'
    go_simp
    with_reducible rfl
   rotate_left
   ·simp only [Act.put, u8a, u8b, u8c, i64_w, i32_w]
    rfl
   refine pure_ (i := 1) (N := some 18) (v := ?_) (a' := ?_) #[true, true, false, false, false, false] rfl rfl (by kernel_rfl) (fun _ _ _ h => h) (Or.inl ⟨by rfl, ?_⟩) ?_ ?_
   rotate_left
   ·intro w'
    go_simp
    with_reducible rfl
   rotate_left
   ·simp only [Act.put, u8a, u8b, u8c, i64_w, i32_w]
    rfl
   refine pure_ (i := 2) (N := some 19) (v := ?_) (a' := ?_) #[true, true, true, false, false, false] rfl rfl (by kernel_rfl) (fun _ _ _ h => h) (Or.inl ⟨by rfl, ?_⟩) ?_ ?_
   rotate_left
   ·intro w'
    go_simp
    with_reducible rfl
   rotate_left
   ·simp only [Act.put, u8a, u8b, u8c, i64_w, i32_w]
    rfl
   refine take_ (i := 3) (N := some 20) (v := ?_) (a' := ?_) #[true, true, true, true, false, false] rfl rfl (by kernel_rfl) (fun _ _ _ h => h) (Or.inl ⟨by rfl, ?_⟩) hHeld ?_ ?_
   rotate_left
   ·intro w' hS
    have hc3_ : w'.cell? ⟨gq, 3, none⟩ = some (.int .i64 s.2.2.1) := (blk_cell hS 3).trans rfl
    have hc4_ : w'.cell? ⟨gq, 4, none⟩ = some (.int .i64 s.2.2.2) := (blk_cell hS 4).trans rfl
    go_simp
    with_reducible rfl
   rotate_left
   ·simp only [Act.put, u8a, u8b, u8c, i64_w, i32_w]
    rfl
   have HO5 : Aside0 (Kd.S k46 46 V w.heap.size (fun k_ => k_ ≠ gr) (.slice none 0 0) []) := ⟨Kd.S_nil _ _ _ _ _⟩
   have HB5 := HBd
   have HRK5 := HRKd
   refine pure_ (i := 4) (N := some 2) (v := ?_) (a' := ?_) #[true, true, true, true, true, false] rfl rfl (by kernel_rfl) (fun _ _ _ h => h) (Or.inl ⟨by rfl, ?_⟩) ?_ ?_
   rotate_left
   ·intro w'
    go_simp
    with_reducible rfl
   rotate_left
   ·simp only [Act.put, u8a, u8b, u8c, i64_w, i32_w]
    rfl
   refine last_ (i := 5) (N := none) #[true, true, true, true, true, true] rfl rfl (by kernel_rfl) (by decide) (fun K hK => ?_)
   refine put_blk_step (by rfl) rfl rfl (g := gr) (off := 0) (cur := #[Value.int .i64 0, Value.int .i64 0]) (cur' := #[Value.int .i64 s.2.2.1, Value.int .i64 s.2.2.2]) (u := .agg #[Value.int .i64 s.2.2.1, Value.int .i64 s.2.2.2]) (seg := [Value.int .i64 s.2.2.1, Value.int .i64 s.2.2.2]) (by rfl) (by rfl) HRK5.out rfl (by kernel_rfl) (Nat.le_of_ble_eq_true rfl) (by intro q_ hq_; simp only [List.mem_cons, List.not_mem_nil, or_false] at hq_; rcases hq_ with rfl | rfl <;> rfl) (by rfl) ?_
   intro W6_ h1_ h2_ h3_
   have HRK6 := u8e h1_
   have HO6 := u8e (Kd.S_mono (Kd.S_step HO5.out (fun k_ hk_ _ => h2_ k_ hk_)) (fun _ _ => trivial : ∀ k, k ≠ gr → True))
   have HB6 := u8e (h3_ _ _ HRG.out HB5.out)
   clear h1_ h2_ h3_
   refine hK.out _ _ ?_
   clear hK K
   refine done_ (by kernel_rfl) ?_
   go_wp2
   refine bodyPost_ret (results_tc rfl _ _ gr 37 #[Value.int .i64 s.2.2.1, Value.int .i64 s.2.2.2] (0, 0) _ rfl HRK6.out Try.underlying37 rfl (by kernel_rfl)) rfl ?_
   exact ⟨_, rfl, HO6.out, HB6.out⟩


-- NOT PRINTED: function 63 (slices_Grow_byte_byte)

-- NOT PRINTED: function 53 (slices_Concat_byte_byte)

end Go.Proofs.Ytpennfkjfeipcaa.PFnBoxesOne
