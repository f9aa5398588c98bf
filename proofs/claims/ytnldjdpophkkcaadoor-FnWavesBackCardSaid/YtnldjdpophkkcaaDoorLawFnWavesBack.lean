/- The row of the law FnWavesBack: for every argument it answers true, and each argument reads behind the call as it did. No condition. -/
import Derived.Test.YtnldjdpophkkcaaDoorCards
import Derived.Test.YtnldjdpophkkcaaDoorTie
import Derived.Test.YtnldjdpophkkcaaDoorRows
import Derived.Test.YtnldjdpophkkcaaDoorPFnWavesBackx3
import Derived.Test.YtnldjdpophkkcaaDoorPureFnWavesBack
import Derived.Test.YtnldjdpophkkcaaDoorMine
import Derived.WalkKit
import Derived.ProofKit
import Derived.OpenShut
import Derived.ShutString
import Derived.ChangeOld
import Derived.Below
import Derived.SizedLaws
import Derived.Carry
import Derived.Deep.DeepHandedRow
import Derived.Lib.LaidTab
import Derived.LaidSub
import Derived.LaidMore
import Derived.MakeChecks
import Derived.SevenTiedAt
namespace Go.Proofs.YtnldjdpophkkcaaDoor.fnWavesBack
open Go.ChangeShapes Go.WideShapes Go.ChangeAt Go.RowKit Go.Proofs.YtnldjdpophkkcaaDoor.Mine Go.Proofs.YtnldjdpophkkcaaDoorW.PrintWords
open Go.ChangeMaps (open_string shut_string)
set_option linter.unusedVariables false
theorem own : ownKnob Tryd.prog.godebug = none := by kernel_rfl
theorem laidOut : laidOutB Tryd.prog = true := by kernel_rfl
theorem open22 (W : World) : Opens Tryd.prog W 22 (Kd.slice 5 (Kd.int .u8)) (fun x : List Int => (x.length ≤ maxLen ∧ ∀ y1 ∈ x, (Lit.int .u8 y1).wf = true)) := (opens_slice 5 Tryd.underlying22 (by kernel_rfl) (opens_int Tryd.underlying5))
theorem gTab : Tryd.prog.globalNamed "loop.example/g00066/impl.roots" = some 0 := by kernel_rfl
theorem gTabType : (Tryd.prog.globals[0]?).map (·.type) = some 42 := by kernel_rfl
theorem trod_float {H : Type} {enc : TypeId × Value → H} {P : Program} {W : World} {base : Nat} {sp : Nat → Bool} {held : Bool} {fuel : Nat} {t : TypeId} {k : FloatKind} {cs : List Value} {y : DataW H × List MemPlace}
    (hu : P.underlying t = some (.float k)) (h : DataW.trod enc P W base sp held fuel t cs = some y) : ∃ b, cs = [.float k b] ∧ y.1 = .lit (.float k b) := by
  cases fuel with
  | zero => simp [DataW.trod] at h
  | succ n =>
    unfold DataW.trod at h
    rw [hu] at h
    obtain ⟨d, pp⟩ := y
    split at h <;> simp_all
theorem trod_pair {H : Type} {enc : TypeId × Value → H} {W : World} {base : Nat} {sp : Nat → Bool} {held : Bool} {fuel : Nat} {cs : List Value} {y : DataW H × List MemPlace} {a b : Nat}
    (h : DataW.trod enc Tryd.prog W base sp held fuel 28 cs = some y) (hy : y.1 = .agg [.lit (.float .f64 a), .lit (.float .f64 b)]) : cs = [.float .f64 a, .float .f64 b] := by
  obtain ⟨y0, y1, n, rfl, hl, h0, h1⟩ := trod_struct2 Tryd.underlying28 h
  have c28 : Tryd.prog.cellsOf 28 = 2 := by kernel_rfl
  have c26 : Tryd.prog.cellsOf 26 = 1 := by kernel_rfl
  rw [c28] at hl
  simp only [c26] at h0 h1
  obtain ⟨x0, e0, d0⟩ := trod_float Tryd.underlying26 h0
  obtain ⟨x1, e1, d1⟩ := trod_float Tryd.underlying26 h1
  simp only [DataW.agg.injEq, List.cons.injEq, and_true] at hy
  rw [d0, d1] at hy
  simp only [DataW.lit.injEq, Lit.float.injEq, true_and] at hy
  obtain ⟨rfl, rfl⟩ := hy
  match cs, hl with
  | [c0, c1], _ =>
    simp at e0 e1
    rw [e0, e1]
theorem table {W : World} (h : laidMetH Tryd.prog Rows.fnWavesBackRow.laid W) : PFnExactWaves.Mx W := by
  rw [MakeChecks.laidMetH_plain _ _ _ (by kernel_rfl)] at h
  obtain ⟨ps, ⟨g0, t0, cs0, f0, p0, q0, hg0, ht0, hv0, hd0, _, _⟩, _⟩ := h
  obtain rfl := Option.some.inj (gTab.symm.trans hg0)
  obtain rfl := Option.some.inj (gTabType.symm.trans ht0)
  obtain ⟨xs, m1, rfl, hx1, hlen, hn8, hel⟩ := DataW.trod_array Tryd.underlying42 hd0
  have c28 : Tryd.prog.cellsOf 28 = 2 := by kernel_rfl
  have c42 : Tryd.prog.cellsOf 42 = 16 := by kernel_rfl
  rw [c42] at hlen
  simp only [c28] at hel
  simp only [Prod.mk.injEq] at hx1
  have hx := hx1.1
  intro m hm
  have key : ∀ a b : Nat, (xs.map (·.1))[m]? = some (.agg [.lit (.float .f64 a), .lit (.float .f64 b)]) → W.cell? ⟨0, m * 2, none⟩ = some (.float .f64 a) ∧ W.cell? ⟨0, m * 2 + 1, none⟩ = some (.float .f64 b) := by
    intro a b hab
    rw [List.getElem?_map, Option.map_eq_some_iff] at hab
    obtain ⟨y, hy, hya⟩ := hab
    have h1 := trod_pair ((hel m hm).trans hy) hya
    have v0 := World.var?_cell gTab hv0 (m * 2)
    have v1 := World.var?_cell gTab hv0 (m * 2 + 1)
    have l0 : cs0.toList[m * 2]? = some (.float .f64 a) := by
      have := congrArg (·[0]?) h1
      simpa [List.getElem?_take, List.getElem?_drop] using this
    have l1 : cs0.toList[m * 2 + 1]? = some (.float .f64 b) := by
      have := congrArg (·[1]?) h1
      simpa [List.getElem?_take, List.getElem?_drop] using this
    rw [Array.getElem?_toList] at l0 l1
    exact ⟨v0.trans l0, v1.trans l1⟩
  refine key _ _ ?_
  have e : xs.map (·.1) = [.agg [.lit (.float .f64 4607182418800017408), .lit (.float .f64 0)], .agg [.lit (.float .f64 4604544271217802189), .lit (.float .f64 13827916308072577997)], .agg [.lit (.float .f64 0), .lit (.float .f64 13830554455654793216)], .agg [.lit (.float .f64 13827916308072577997), .lit (.float .f64 13827916308072577997)], .agg [.lit (.float .f64 13830554455654793216), .lit (.float .f64 0)], .agg [.lit (.float .f64 13827916308072577997), .lit (.float .f64 4604544271217802189)], .agg [.lit (.float .f64 0), .lit (.float .f64 4607182418800017408)], .agg [.lit (.float .f64 4604544271217802189), .lit (.float .f64 4604544271217802189)]] := by
    have := DataW.agg.inj hx
    exact this.symm
  rw [e]
  have h8 : m = 0 ∨ m = 1 ∨ m = 2 ∨ m = 3 ∨ m = 4 ∨ m = 5 ∨ m = 6 ∨ m = 7 := by omega
  rcases h8 with rfl | rfl | rfl | rfl | rfl | rfl | rfl | rfl <;> rfl
theorem var_below {P : Program} {W W' : World} (bel : Below W.heap.size W W') {n : String} {g : Nat} {cs : Array Value} (hg : P.globalNamed n = some g) (h : W.var? P n = some cs) : W'.var? P n = some cs := by
  simp only [World.var?, hg, Option.bind_some] at h ⊢
  have hl : g < W.heap.size := by
    rcases h2 : W.heap[g]? with _ | o
    · rw [h2] at h; cases h
    · exact (Array.getElem?_eq_some_iff.1 h2).1
  rw [bel.block g hl]
  exact h
set_option maxRecDepth 100000 in
theorem contract (H : Type) (enc : TypeId × Value → H) (W : World) (base : Nat) (args : Array Value) (ds gs : List (DataW H)) (before : List MemPlace)
    (hval0 : ∀ (j : Nat) t v, Tryd.f3.params[j]? = some t → args[j]? = some v → Value.okWide Tryd.prog W .any base t v)
    (hW : DataW.Whole enc Tryd.prog Tryd.f3.params.toList Rows.fnWavesBackSpec.vars false W args.toList ds gs before)
    (hsz0 : (DataW.weightsEach Tryd.prog (Tryd.f3.params.toList ++ Rows.fnWavesBackSpec.plain.varTypes Tryd.prog) (ds ++ gs)).all (· ≤ reachBytes) = true) (hm : PFnExactWaves.Mx W) :
    Calls Tryd.prog 3 args W fun e W' => ∃ v, e = .returned v ∧ Rows.fnWavesBackSpec.post enc Tryd.prog Tryd.f3 false true false false W args v W' := by
  have hsz : (DataW.weightsEach Tryd.prog (Tryd.f3.params.toList ++ Rows.fnWavesBackSpec.plain.varTypes Tryd.prog) (ds ++ gs)).all (· ≤ reachBytes) = true := hsz0
  have hval : ∀ (j : Nat) t v, Tryd.f3.params[j]? = some t → args[j]? = some v → Value.okWide Tryd.prog W .any base t v := hval0
  have hW' := hW
  obtain ⟨p, q, hA0, hV, rfl, hfz, hnd⟩ := hW
  have hA : DataW.TrodAll enc Tryd.prog W 0 (fun _ => true) true Tryd.f3.params.toList args.toList ds p := hA0
  rw [Tryd.params3] at hA hval hsz
  obtain ⟨v0, vs0, d0, ds0, p0, q0, hargs, rfl, rfl, h0, r0⟩ := trodAll_cons hA
  obtain ⟨rfl, rfl, rfl⟩ := trodAll_nil r0
  obtain rfl : args = #[v0] := by cases args; simp_all
  obtain ⟨g9, t9, cs9, f9, d9, p9, rfl, hg9, ht9, hv9, hd9, rfl⟩ := trodVars_one hV
  obtain rfl := Option.some.inj (gTabType.symm.trans ((Option.some.inj (gTab.symm.trans hg9)) ▸ ht9))
  have lt9 : ∀ x ∈ p9, x.block < W.heap.size := DataW.trod_lt _ _ _ _ hd9
  have k0 := h0
  have lt0 : ∀ x ∈ p0, x.block < W.heap.size := by obtain ⟨m, hm⟩ := k0; exact DataW.trod_lt m _ _ _ hm
  obtain ⟨A0, len0, cap0, rfl⟩ := okWide_slice Tryd.underlying22 (hval 0 22 v0 rfl rfl)
  obtain ⟨l0, ⟨A0', cap0', e0, hl0, hc0⟩, w0⟩ : ∃ x, ((Kd.slice 5 (Kd.int .u8)) : Kd (List Int)).K W x (Value.slice A0 len0 cap0).cells.toList ∧ ((x.length ≤ maxLen ∧ ∀ y1 ∈ x, (Lit.int .u8 y1).wf = true)) := by
    obtain ⟨fuel, hf⟩ := h0
    exact open22 W _ _ _ _ _ hf
  obtain ⟨rfl, rfl, rfl⟩ : A0 = A0' ∧ len0 = l0.length ∧ cap0 = cap0' := by simpa [Value.cells] using e0
  clear hA0 hval0 hsz0 hsz
  have hk := Pure.FnWavesBack l0 w0
  refine (PFnWavesBack.laws_FnWavesBack.calls _ _ l0 true W hc0 hl0 hm hk).mono fun e W' ⟨he, bel⟩ => ?_
  subst he
  obtain ⟨f10, hd10⟩ := Below.trod (v := .agg cs9) laidOut (by kernel_rfl) (of_decide_eq_true (by kernel_rfl)) ⟨f9, hd9⟩ bel lt9
  exact ⟨_, rfl, _, _, _, [], _, _, hW', trodAll_mk1 (shut_bool Tryd.underlying4 _), (trodAll_cons_mk (Below.trod laidOut (by kernel_rfl) (of_decide_eq_true (by kernel_rfl)) k0 bel lt0) trodAll_mk0), trodVars_mk1 hg9 ht9 (var_below bel hg9 hv9) hd10, bel.frame _, fun h => by cases h⟩
theorem laid_met (os : Os) : laidMet Tryd.prog Rows.fnWavesBackRow.laid ((World.doorLaid Tryd.prog 24 os).forCall (fun _ _ => 0) ⟨#[], #[.slice none 0 0], []⟩).memory := laidMet_of_run' 8 (by kernel_rfl) (by kernel_rfl)
theorem reads (os : Os) {H : Type} (enc : TypeId × Value → H) : ∃ places, DataW.whole enc Tryd.prog ((World.doorLaid Tryd.prog 24 os).forCall (fun _ _ => 0) ⟨#[], #[.slice none 0 0], []⟩).memory Tryd.f3.params.toList Rows.fnWavesBackSpec.vars false (#[.slice none 0 0] : Array Value).toList 8 = some ([.nil], [Rows.laid_loop_example_g00066_impl_roots], places) := ⟨MemPlace.row ⟨0, 0, none⟩ 16, by kernel_rfl⟩
set_option maxRecDepth 100000 in
theorem lifted (os : Os) (started : os.Started) (H : Type) (enc : TypeId × Value → H) (F : Stop.Interp) :
    ReturnsInHanded {} Tryd.checked os 3 .any ((OpenSpec.ofChange Rows.fnWavesBackSpec).preRow enc Tryd.prog Tryd.f3 Rows.fnWavesBackRow.domain false Rows.fnWavesBackRow.laid) (((OpenSpec.ofChange Rows.fnWavesBackSpec).at F).post enc Tryd.prog Tryd.f3 false true false false) := by
  obtain ⟨places, hx⟩ := reads os enc
  refine returnsInHanded_of_row (C := Tryd.checked) (s := OpenSpec.ofChange Rows.fnWavesBackSpec) own started (by kernel_rfl) Tryd.func3
    (witness_row_at (enc := enc) (C := Tryd.checked) false (World.doorLaid Tryd.prog 24 os) #[.slice none 0 0] rfl (by kernel_rfl) (by kernel_rfl) (by kernel_rfl)
      (OpenSpec.preRow_of_cond 8 hx (by kernel_rfl) (fun k hk => by cases hk) (by kernel_rfl) (laid_met os))) ?_
  intro W base args ds gs before hval hW _ _ hsz hL _ _
  exact contract H enc W base args ds gs before hval hW hsz (table hL)
theorem over : Rows.FnWavesBackSaid :=
  OpenClaim.holds_of_cond 3 Tryd.f3 rfl rfl rfl rfl rfl rfl rfl ⟨rfl, rfl, rfl, rfl, rfl⟩ rfl rfl rfl rfl rfl (by kernel_rfl) Tryd.func3 (by kernel_rfl)
    (of_decide_eq_true (by kernel_rfl)) (by unfold Func.isWrapper; first | (rw [if_pos (by decide +kernel)]; kernel_rfl) | (rw [if_neg (by decide +kernel)]; exact ⟨rfl, rfl⟩))
    (fun os started H enc _ F => by rw [OpenClaim.pre_eq_preRow]; exact lifted os started H enc F)
theorem plain (f : FuncId) (fn : Func) (hf : Tryd.pinned.checked.prog.funcNamed "loop.example/g00066/laws.FnWavesBack" = some f) (hfn : Tryd.pinned.checked.prog.funcs[f]? = some fn) :
    false = Tryd.pinned.checked.prog.looks [] ∧ ∀ (j : Nat) t, fn.params[j]? = some t → Tryd.pinned.checked.prog.wantsStandIn t = false := by
  obtain rfl : f = 3 := Option.some.inj ((show Tryd.prog.funcNamed "loop.example/g00066/laws.FnWavesBack" = some 3 by kernel_rfl).symm.trans hf) |>.symm
  obtain rfl : fn = Tryd.f3 := (Option.some.inj (Tryd.func3.symm.trans hfn)).symm
  refine ⟨by kernel_rfl, fun j t ht => ?_⟩
  rw [Tryd.params3] at ht
  have hm : t ∈ [22] := by simpa using Array.mem_of_getElem? ht
  have hall : ([22].all fun u => !Tryd.prog.wantsStandIn u) = true := by kernel_rfl
  exact (show Tryd.prog.wantsStandIn t = false by simpa using List.all_eq_true.1 hall t hm)
theorem proved : Rows.FnWavesBackCardSaid :=
  Claim7.holds_tied_plain_at .later [] _ _ _ _ over (fun _ h => by cases h) (by kernel_rfl) (fun _ h => by cases h) fnWavesBack_row_tie rfl ⟨rfl, rfl⟩ (by kernel_rfl) rfl plain (by kernel_rfl)
end Go.Proofs.YtnldjdpophkkcaaDoor.fnWavesBack
namespace Go.Proofs.YtnldjdpophkkcaaDoor
/-- The card, under a short name, for the claim. -/
theorem fnWavesBack_holds : Rows.FnWavesBackCardSaid := fnWavesBack.proved
#print axioms fnWavesBack_holds
end Go.Proofs.YtnldjdpophkkcaaDoor
