/- The functions that the law reaches, as Lean functions, each with the proof that the Go code comes to just these answers. Written by a program of this session (wip/tools/handprint.py over the kit's print); by hand where the print takes no such text. -/
-- squeezed
import Derived.Test.YtpennfkjfeipcaaPFnBoxesOnex0
import Derived.Test.YtpennfkjfeipcaaPFnBoxesOnex3
import Derived.Test.YtpennfkjfeipcaaPFnBoxesOnex5
namespace Go.Proofs.Ytpennfkjfeipcaa.PFnBoxesOne
open Go.RowKit Go.Proofs.YtpennfkjfeipcaaW.PrintWords Go.Proofs.YtpennfkjfeipcaaW.PrintLast Go.Proofs.YtpennfkjfeipcaaW.PrintMore
attribute [local go_sem] max2_int min2_int max_two min_two max_three min_three max_four min_four   -- for this text's walks alone
set_option linter.unusedVariables false
set_option linter.unusedSimpArgs false

/-! ### spec_SaveBoxes: function 14 -/
-- rounds 1 making 1
def spec_SaveBoxes.f (k : Nat) (l0 : List Int) : Option (List S46) := if (l0.length : Int) > 40000 then some [] else (rdTop k l0).bind fun s => some s.1
theorem spec_SaveBoxes.mono : ∀ l0 k, LeO (spec_SaveBoxes.f k l0) (spec_SaveBoxes.f (k + 1) l0) := by
 intro l0 k
 unfold spec_SaveBoxes.f
 exact LeO.ite (LeO.refl _) (LeO.bind (rdTop.mono l0 k) (fun _ => LeO.refl _))
set_option maxHeartbeats 8000000 in
set_option maxRecDepth 100000 in
theorem spec_SaveBoxes.calls (k : Nat) (A0 : Option Addr) (c0 : Nat) (l0 : List Int) (r : List S46) (w : World) (hr0 : Kd.C (Kd.int .u8) w A0 l0.length l0) (hc0 : l0.length ≤ c0) (h : spec_SaveBoxes.f k l0 = some r) :
  Calls Try.prog 14 #[.slice A0 l0.length c0] w fun e w' => ∃ v0_ : Value, e = .returned (v0_) ∧ Kd.S k46 46 w' w.heap.size (fun _ => True) v0_ r ∧ Below w.heap.size w w' := by
 have HB := Aside0.mk (Below.refl w.heap.size w)
 have HR0 := Aside0.mk hr0
 have HC0 := Aside0.mk hc0
 clear hr0 hc0
 unfold spec_SaveBoxes.f at h
 by_cases c : (l0.length : Int) > 40000
 ·rw [if_pos c] at h
  obtain rfl := Option.some.inj h
  have cb0 : decide ((40000 : Int) < (l0.length : Int)) = true := decide_eq_true (by omega)
  have cb1 : decide (40000 < l0.length) = true := decide_eq_true (by omega)
  clear h c
  go_enter Try.func14, Try.ntmps14
  go_wp2_with (first | ((with_reducible refine gate_dst (N := 7) rfl ?_); refine Kd.S_lit k46 (w0 := w) w.heap.size 46 ?hg (N := 7) ?hd (xs := ([] : List S46)) (inner := []) (ok := fun _ => True) (okp := fun _ => True) ?hr ?hp (fun _ hk => hk) trivial HB.out HB.out.size (by simp) ?_; (case hd => rfl); (case hg => rfl); (case hr => first | (go_simp; done) | (go_simp; rfl)); (case hp => exact (Reps.none _ _)); intro v3_ W3_ ho_ hb_ hg_ hnew_; have HO3 := Aside0.mk ho_; have HB3 := Aside0.mk hb_; clear ho_ hb_ hg_ hnew_))
  go_ret
  exact ⟨_, rfl, HO3.out, HB3.out⟩
 ·rw [if_neg c] at h
  obtain ⟨s, hs, h⟩ := Option.bind_eq_some_iff.1 h
  obtain rfl := Option.some.inj h
  have H := Aside0.mk hs
  have cb0 : decide ((40000 : Int) < (l0.length : Int)) = false := decide_eq_false (by omega)
  have cb1 : decide (40000 < l0.length) = false := decide_eq_false (by omega)
  clear hs h c
  go_enter Try.func14, Try.ntmps14
  go_wp2_with (first | ((with_reducible refine gate_dst (N := 10) rfl ?_); refine box_event ?hg (N := 10) ?hd (cs := #[.slice A0 l0.length c0, .slice none 0 0, .int .i64 0, .int .i64 0, .int .i64 0]) (t := 53) ?hr ?_; (case hd => rfl); (case hg => rfl); (case hr => first | (go_simp; done) | (go_simp; rfl)); intro gq hgq_ W3_ hbox_ hb_; have HGQ : Aside0 (w.heap.size ≤ gq) := ⟨by rw [hgq_]; exact HB.out.size⟩; have HBX := Aside0.mk hbox_; have HB3 := Aside0.mk (below_step HB.out hb_); clear hgq_ hbox_ hb_) | ((with_reducible refine gate_dst (N := 14) rfl ?_); refine goesL_ (some 14) rfl rfl Try.func39 (by kernel_rfl) rfl #[.pointer (some ⟨gq, 0, none⟩), .int .i64 0, .int .i64 (l0.length : Int), .int .i64 0] rfl (by (try simp only [List.map_toArray, List.map_cons, List.map_nil]); first | done | rfl) ?_; (refine (l2Read_top k A0 c0 l0 s w HR0.out HC0.out H.out gq W3_ HGQ.out HB3.out HBX.out).mono ?_); rintro e_ W4_ ⟨⟨v_, rfl⟩, vo4, h1_, h2_, h3_⟩; refine ⟨_, rfl, ?_⟩; have HG4 := Aside0.mk h1_; have HO4 := Aside0.mk h2_; have HB4 := Aside0.mk h3_; have hq0_ : W4_.cell? ⟨gq, 0, none⟩ = some (Value.slice A0 l0.length c0) := (blk_cell HG4.out 0).trans rfl; have hq1_ : W4_.cell? ⟨gq, 1, none⟩ = some (vo4) := (blk_cell HG4.out 1).trans rfl; have hq2_ : W4_.cell? ⟨gq, 2, none⟩ = some (Value.int .i64 s.2.1) := (blk_cell HG4.out 2).trans rfl; have hq3_ : W4_.cell? ⟨gq, 3, none⟩ = some (Value.int .i64 s.2.2.1) := (blk_cell HG4.out 3).trans rfl; have hq4_ : W4_.cell? ⟨gq, 4, none⟩ = some (Value.int .i64 s.2.2.2) := (blk_cell HG4.out 4).trans rfl; clear h1_ h2_ h3_))
  go_ret
  exact ⟨_, rfl, Kd.S_mono HO4.out (fun _ _ => trivial), HB4.out⟩


-- NOT PRINTED: function 61 (impl_boxReader_fail)

end Go.Proofs.Ytpennfkjfeipcaa.PFnBoxesOne
