/- FnExactPower: the walks, floats told up to NaN. Written by wip/wave/gen_power.py. -/
import Derived.Test.YtihmoiheiglohaaPFnExactPowerx4
namespace Go.Proofs.Ytihmoiheiglohaa.PFnExactPower
open Go.RowKit Go.Proofs.Ytihmoiheiglohaa.PFnExactAgree Go.Proofs.YtihmoiheiglohaaW.PrintWords Go.Proofs.YtihmoiheiglohaaW.PrintLast Go.Proofs.YtihmoiheiglohaaW.PrintMore Go.Proofs.Ytihmoiheiglohaa.Fl Go.Proofs.Ytihmoiheiglohaa.PFnExactProduct
attribute [local go_sem] run_store_float
set_option linter.unusedVariables false
set_option linter.unusedSimpArgs false
attribute [local go_sem] max2_int min2_int max_two min_two max_three min_three max_four min_four
/-- The power of a pair, a NaN standing for all. -/
def pw (p : Nat × Nat) : Nat := fo .add (fo .mul p.1 p.1) (fo .mul p.2 p.2)
def pws (xs : List (Nat × Nat)) : List Nat := if xs.length ≤ 4096 then xs.map pw else []
theorem pws_length_le (xs : List (Nat × Nat)) : (pws xs).length ≤ 4096 := by unfold pws; split <;> simp; omega
theorem take_snoc (xs : List (Nat × Nat)) (i : Nat) (hi : i < xs.length) : (xs.map pw).take (i + 1) = (xs.map pw).take i ++ [pw (xs.getD i (0, 0))] := by
  rw [List.take_succ_eq_append_getElem (by simpa using hi)]
  simp [hi]
set_option maxHeartbeats 8000000 in
set_option maxRecDepth 100000 in
theorem impl_Power.calls (A : Option Addr) (cap : Nat) (xs : List (Nat × Nat)) (w : World) (hr : Aside0 (RC w A xs)) :
    Calls Try.prog 30 #[.slice A xs.length cap] w fun e w' => ∃ B c rs, e = .returned (.slice B rs.length c) ∧ Row w' w.heap.size B rs.length 22 rs ∧ SL rs (pws xs) ∧ Below w.heap.size w w' := by
  have hu46 := Try.underlying46
  have hu36 := Try.underlying36
  have hu25 := Try.underlying25
  have hu22 := Try.underlying22
  by_cases hl : 4096 < xs.length
  · go_enter Try.func30, Try.ntmps30
    go_wp2
    go_ret
    exact ⟨none, 0, [], rfl, .inl rfl, by rw [show pws xs = [] from if_neg (by omega)]; exact ⟨rfl, fun _ => Same.rfl⟩, Below.refl _ _⟩
  have HB := Aside0.mk (Below.refl w.heap.size w)
  have HL : Aside0 (xs.length ≤ 4096) := ⟨by omega⟩
  have d1 : decide ((4096 : Int) < (xs.length : Int)) = false := decide_eq_false (by omega)
  have d2 : ¬ 4096 < xs.length := by omega
  clear hl
  go_enter Try.func30, Try.ntmps30
  go_wp2
  have HO : Aside0 ((w.alloc (.cells #[] 22)).ownsRow w.heap.size 22 1 (.slice (some ⟨w.heap.size, 0, none⟩) 0 0) 0 (VF [])) := ⟨by simpa [VF] using World.ownsRow_lit (base := w.heap.size) (e := 22) (size := 1) w #[] 0 (Nat.le_refl _) (by decide) rfl⟩
  replace HB : Aside0 (Below w.heap.size w (w.alloc (.cells #[] 22))) := ⟨below_alloc HB.out _⟩
  generalize w.alloc (.cells #[] 22) = w1 at HO HB ⊢
  clear d1 d2
  go_loopg [3, 12] xs.length (fun kq v3 v12 w' => ∃ (i : Nat) (rs : List Nat), v12 = .int .i64 (i : Int) ∧ Aside0 (i + kq = xs.length ∧ rs.length = i) ∧ Aside0 (w'.ownsRow w.heap.size 22 1 v3 i (VF rs)) ∧ Aside0 (SL rs ((xs.map pw).take i)) ∧ Aside0 (Below w.heap.size w w'))
  case atStart => exact ⟨0, [], rfl, ⟨by omega, rfl⟩, HO, ⟨rfl, fun _ => Same.rfl⟩, HB⟩
  case round =>
    clear HB HO
    obtain ⟨i, rs, rfl, HK, HO, HS, HB⟩ := hrel
    by_cases hi : i < xs.length
    · obtain ⟨ad, ea, hc, hd⟩ := hr.out.below HB.out i hi
      have HT := Aside0.mk (take_snoc xs i hi)
      generalize xs.getD i (0, 0) = X at hc hd HT
      obtain ⟨X, Y⟩ := X
      have HI := Aside0.mk hi
      have p0 : (0 ≤ (i : Int)) = True := eq_true (by omega)
      have p1 : ((i : Int) < (xs.length : Int)) = True := eq_true (by omega)
      have Hw : Aside0 (wrap64 ((i : Int) + 1) = ((i + 1 : Nat) : Int)) := ⟨by have := HL.out; unfold wrap64; omega⟩
      clear hi
      cases ea
      go_wp2_with (first | ((with_reducible refine gate_ (.binOp .mul 22 (.tmp 18) (.tmp 20) 22) rfl ?_); refine step_op rfl .mul 22 _ _ 22 rfl rfl (Aside0.mk (Same.rfl (x := X))).out (Aside0.mk (Same.rfl (x := X))).out rfl rfl ?_; intro r1 n1 hs1; have hr1 := Aside0.mk hs1; clear hs1) | ((with_reducible refine gate_ (.binOp .mul 22 (.tmp 23) (.tmp 25) 22) rfl ?_); refine step_op rfl .mul 22 _ _ 22 rfl rfl (Aside0.mk (Same.rfl (x := Y))).out (Aside0.mk (Same.rfl (x := Y))).out rfl rfl ?_; intro r2 n2 hs2; have hr2 := Aside0.mk hs2; clear hs2) | ((with_reducible refine gate_ (.binOp .add 22 (.tmp 21) (.tmp 26) 22) rfl ?_); refine step_op rfl .add 22 _ _ 22 rfl rfl hr1.out hr2.out rfl rfl ?_; intro r3 n3 hs3; have hr3 := Aside0.mk hs3; clear hs3) | ((with_reducible refine gate_dst (N := 29) rfl ?_); at_builtin; refine print_append (w0 := w) w.heap.size rfl (.tmp 16) (.tmp 28) 36 22 (.float .f64 0) 8 (by rfl) Try.underlying36 (by kernel_rfl) rfl (by decide) u3 (VF rs) (.float .f64 r3) (by rfl) (by first | rfl | (refine Eq.trans (b := Value.slice (some ⟨wr.heap.size + 1, 0, none⟩) 1 1) rfl ?_; simp)) (by rfl) ?h1 ?h2 ?h3 ?h4 ?_; (case h1 => (rw [show (VF rs).length = i by simp [VF, HK.out.2]]; exact pw_own_drewN (own_alloc HO.out _) _)); (case h2 => exact pw_below_drewN (below_alloc HB.out _) _); (case h3 => exact below_size (pw_below_drewN (below_alloc HB.out _) _)); (case h4 => (rw [show (VF rs).length = i by simp [VF, HK.out.2]]; have := HL.out; have := HI.out; omega)); intro v1 w2 ho hbel hgr hat; have HO2 := Aside0.mk ho; have HB2 := Aside0.mk hbel; clear hgr hat ho hbel))
      go_roundg (gk - 1)
      case measure => have := HK.out; have := HI.out; omega
      case rel => exact ⟨i + 1, rs ++ [r3], by first | rfl | rw [Hw.out], ⟨by have := HK.out; have := HI.out; omega, by rw [List.length_append, HK.out.2]; rfl⟩, ⟨by have h := HO2.out; rw [show (VF rs ++ [Value.float .f64 r3]).length = i + 1 by simp [VF, HK.out.2]] at h; simpa [VF] using h⟩, ⟨by rw [HT.out]; exact HS.out.snoc hr3.out⟩, HB2⟩
    · have e : i = xs.length := by have := HK.out; omega
      have HF : Aside0 (∃ B c, u3 = .slice B xs.length c ∧ Row wr w.heap.size B xs.length 22 rs ∧ rs.length = xs.length ∧ SL rs (pws xs)) := ⟨by
        rw [← e, show pws xs = (xs.map pw).take i by rw [pws, if_pos HL.out, List.take_of_length_le (by simp; omega)]]
        obtain ⟨B, c, h1, h2⟩ := Row.of_own HO.out
        exact ⟨B, c, h1, h2, HK.out.2, HS.out⟩⟩
      clear e HK HO HS
      obtain ⟨B, c, rfl, h2⟩ := HF.out
      clear HF
      have HF := Aside0.mk h2
      clear h2
      go_wp2
      go_ret
      exact ⟨B, c, rs, by rw [HF.out.2.1] <;> rfl, by rw [HF.out.2.1]; exact HF.out.1, HF.out.2.2, HB.out⟩
end Go.Proofs.Ytihmoiheiglohaa.PFnExactPower
