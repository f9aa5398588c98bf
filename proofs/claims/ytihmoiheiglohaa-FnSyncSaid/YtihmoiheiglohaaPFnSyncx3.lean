/- FnSync: the law. Written by wip/wave/gen_fnsync.py. -/
import Derived.Test.YtihmoiheiglohaaPFnSyncx2
import Derived.Test.YtihmoiheiglohaaPFnExactPowerx4
import Derived.Test.YtihmoiheiglohaaSyncPure
import Derived.Test.YtihmoiheiglohaaPFnExactSyncx3
import Derived.Test.YtihmoiheiglohaaWGuard
import Derived.Outline
import Derived.LoopN
import Derived.RegionTactic
import Derived.BigRegion
namespace Go.Proofs.Ytihmoiheiglohaa.PFnSync
open Go.RowKit Go.Proofs.YtihmoiheiglohaaW.PrintWords Go.Proofs.YtihmoiheiglohaaW.PrintLast Go.Proofs.YtihmoiheiglohaaW.PrintMore Go.Proofs.Ytihmoiheiglohaa.Fl Go.Proofs.Ytihmoiheiglohaa.PFnExactProduct Go.Proofs.Ytihmoiheiglohaa.PFnExactAgree Go.Proofs.Ytihmoiheiglohaa.PFnExactPower Go.Proofs.Ytihmoiheiglohaa.PFnExactSync Go.Proofs.Ytihmoiheiglohaa.SyncPure
attribute [local go_sem] run_store_float
set_option linter.unusedVariables false
set_option linter.unusedSimpArgs false
attribute [local go_sem] max2_int min2_int max_two min_two max_three min_three max_four min_four
section
variable {ops : Array Oper} {rest : List Oper} {o : Oper} {a : Act} {Q : Exit → Act → World → Prop}
/-- append(v, row..) of floats, v a row of the call's own, the other a whole block. -/
theorem append_floats {w0 W : World} (base : Nat) (hgd : o.guard = none) (s x : Operand) (ho : o.op = .call { callee := .builtin .append, args := #[s, x], argTypes := #[36, 36] })
    (v : Value) (xs ys : List Nat) (g n : Nat) (hs : a.eval s = v) (hx : a.eval x = .slice (some ⟨g, 0, none⟩) n n) (hn : ys.length = n)
    (HO : W.ownsRow base 22 1 v xs.length (VF xs)) (hb : W.heap[g]? = some (.cells (FA ys) 22 (0, 0))) (HB : Below base w0 W) (hbase : base ≤ W.heap.size) (hl : xs.length + n ≤ 4096)
    (h : ∀ v1 w1, w1.ownsRow base 22 1 v1 (xs.length + n) (VF (xs ++ ys)) → Below base w0 w1 → W.grownBy w1 v.ownBlock → wpList Try.prog ops Q rest (a.put o.dst v1) w1) :
    wpList Try.prog ops Q (o :: rest) a W := by
  have hinfo : (Try.prog.info? 22).map (fun i => (i.zero, i.size, i.bytes)) = some (some (Value.float .f64 0), 1, 8) := by kernel_rfl
  obtain ⟨i0, hi, hzz⟩ := Option.map_eq_some_iff.1 hinfo
  simp only [Prod.mk.injEq] at hzz
  obtain ⟨hz0, hz1, hz2⟩ := hzz
  refine wpList_append_own_at W hgd s x 36 ho base 22 i0 (.float .f64 0) 1 8 Try.underlying36 hi hz0 hz1 hz2 rfl (by omega) v xs.length (VF xs) hs HO ⟨g, 0, none⟩ n n (VF ys) hx (by rw [VF_length, hn, Nat.mul_one])
    (World.news_of_block (cs := FA ys) (t := 22) (fr := (0, 0)) hb) (fun u hu => by obtain ⟨z, _, rfl⟩ := List.mem_map.1 hu; rfl) (by simp only [maxLen]; omega) (by omega) hbase ?_
  intro v1 w1 hown hg _ hat
  refine h v1 w1 (by rw [show VF (xs ++ ys) = VF xs ++ VF ys by simp [VF]]; exact hown) (HB.grown hg hbase (own_base HO)) hg
end
theorem F_set (us : List Int) (i : Nat) (v : Int) : (F us).set i (floatOfInt .f64 v) = F (us.set i v) := by unfold F; rw [List.map_set]
theorem set_small {us : List Int} (h : ∀ m, -1 ≤ us.getD m 0 ∧ us.getD m 0 ≤ 1) {i : Nat} {v : Int} (h0 : -1 ≤ v) (h1 : v ≤ 1) (m : Nat) : -1 ≤ (us.set i v).getD m 0 ∧ (us.set i v).getD m 0 ≤ 1 := by
  have hm := h m
  rw [List.getD_eq_getElem?_getD] at hm ⊢
  rw [List.getElem?_set]
  split
  · split
    · exact ⟨h0, h1⟩
    · simp
  · exact hm
theorem pk_set {us : List Int} (h : ∀ m, -1 ≤ us.getD m 0 ∧ us.getD m 0 ≤ 1) {p : Nat} (hp : p < us.length) : Pk (us.set p 500) p := by
  refine ⟨by rw [List.length_set]; exact hp, ?_, fun i hi => ?_⟩
  · rw [List.getD_eq_getElem?_getD, List.getElem?_set_self hp]; rfl
  · rw [List.getD_eq_getElem?_getD, List.getElem?_set_ne (Ne.symm hi), ← List.getD_eq_getElem?_getD]; exact h i
theorem FA_VF (xs : List Nat) : FA xs = (VF xs).toArray := rfl
/-- What the law comes to: true, where the code's numbers are bytes. -/
def laws_FnSync.f (l0 : List Int) : Option Bool := if (∀ x ∈ l0, 0 ≤ x ∧ x ≤ 255) then some true else none
set_option maxHeartbeats 8000000 in
set_option maxRecDepth 100000 in
theorem core (A0 : Option Addr) (c0 : Nat) (l0 : List Int) (w : World) (hr0 : Aside0 (Kd.C (Kd.int .u8) w A0 l0.length l0)) (hc0 : Aside0 (l0.length ≤ c0)) (hby : Bytes l0) :
    Calls Try.prog 8 #[.slice A0 l0.length c0] w fun e w' => e = .returned (.bool true) ∧ Below w.heap.size w w' := by
  have hu30 := Try.underlying30
  have hu36 := Try.underlying36
  have hu22 := Try.underlying22
  have hu5 := Try.underlying5
  have hu2 := Try.underlying2
  have HB := Aside0.mk (Below.refl w.heap.size w)
  by_cases q : 4096 < l0.length
  · have hbig : laws_big.f l0 = some true := by simp only [laws_big.f, Option.some.injEq, decide_eq_true_eq]; omega
    have HBIG := Aside0.mk hbig
    clear hbig
    go_enter Try.func8, Try.ntmps8
    go_wp2_with (first | ((with_reducible refine gate_dst (N := 10) rfl ?_); refine goesL_ (some 10) rfl rfl Try.func16 (by kernel_rfl) rfl #[.slice A0 l0.length c0] rfl (by (try simp only [List.map_toArray, List.map_cons, List.map_nil]); first | done | rfl) ?_; (with_reducible refine (laws_big.calls A0 c0 l0 true _ hr0.out hc0.out HBIG.out).mono ?_); rintro e W1 ⟨rfl, hD⟩; refine ⟨_, rfl, ?_⟩; have hb := hD.below; replace HB := Aside0.mk (below_step HB.out hb); clear hb hD))
    go_ret
    exact ⟨rfl, HB.out⟩
  have hbig : laws_big.f l0 = some false := by simp only [laws_big.f, Option.some.injEq, decide_eq_false_iff_not]; omega
  have HBIG := Aside0.mk hbig
  have hq : Aside0 (l0.length ≤ 4096) := ⟨by omega⟩
  clear hbig
  obtain ⟨k1, p1, hp1, hk1⟩ := pick_some l0 30 (by omega) hby (by omega)
  obtain ⟨n, hn⟩ : ∃ n : Nat, n = 5 + p1 := ⟨_, rfl⟩
  obtain ⟨L1, hL1⟩ : ∃ L : List Int, L = [1] ++ l0 := ⟨_, rfl⟩
  obtain ⟨L2, hL2⟩ : ∃ L : List Int, L = [2] ++ l0 := ⟨_, rfl⟩
  obtain ⟨k2, p2, hp2, hk2⟩ := pick_some L1 ((n : Int) - 2) (by omega) (by rw [hL1]; exact hby.cons 1 (by omega) (by omega)) (by rw [hL1]; simp; omega)
  obtain ⟨p, hp⟩ : ∃ p : Nat, p = 1 + p2 := ⟨_, rfl⟩
  obtain ⟨k3, d, hd, hk3⟩ := pick_some L2 20 (by omega) (by rw [hL2]; exact hby.cons 2 (by omega) (by omega)) (by rw [hL2]; simp; omega)
  have HL1 := Aside0.mk hL1
  have HL2 := Aside0.mk hL2
  have HK1 := Aside0.mk hk1
  have HK2 := Aside0.mk hk2
  have HK3 := Aside0.mk hk3
  have HBY := Aside0.mk hby
  have Hn := Aside0.mk hn
  have Hp := Aside0.mk hp
  have Hp2 := Aside0.mk hp2
  have Hd := Aside0.mk hd
  have hn5 : 5 ≤ n := by omega
  have hn35 : n ≤ 34 := by omega
  have hp30 : p1 < 30 := by omega
  have hpn : p < n := by omega
  have hp230 : p2 < 40 := by omega
  have hd20 : d < 20 := by omega
  clear q hL1 hL2 hk1 hk2 hk3 hby hp1 hp2 hd hn hp
  go_enter Try.func8, Try.ntmps8
  go_upto_region 4 with (first | ((with_reducible refine gate_dst (N := 10) rfl ?_); refine goesL_ (some 10) rfl rfl Try.func16 (by kernel_rfl) rfl #[.slice A0 l0.length c0] rfl (by (try simp only [List.map_toArray, List.map_cons, List.map_nil]); first | done | rfl) ?_; (with_reducible refine (laws_big.calls A0 c0 l0 false _ hr0.out hc0.out HBIG.out).mono ?_); rintro e W1 ⟨rfl, hD⟩; refine ⟨_, rfl, ?_⟩; have hb := hD.below; replace HB := Aside0.mk (below_step HB.out hb); clear hb hD) | ((with_reducible refine gate_dst (N := 12) rfl ?_); refine goesL_ (some 12) rfl rfl Try.func26 (by kernel_rfl) rfl #[.slice A0 l0.length c0, .int .i64 30] rfl (by (try simp only [List.map_toArray, List.map_cons, List.map_nil]); first | done | rfl) ?_; (with_reducible refine (laws_pick.calls k1 A0 c0 l0 30 (p1 : Int) _ (Kd.C_below hr0.out HB.out) hc0.out HK1.out).mono ?_); rintro e W1 ⟨rfl, hD⟩; refine ⟨_, rfl, ?_⟩; have hb := hD.below; replace HB := Aside0.mk (below_step HB.out hb); clear hb hD))
  first | rw [show (5 + (p1 : Int)) = (n : Int) by have := Hn.out; omega] | rw [show wrap64 (5 + (p1 : Int)) = (n : Int) by have := Hn.out; unfold wrap64; omega]
  go_upto_region 5 with (first | ((with_reducible refine gate_dst (N := 16) rfl ?_); at_builtin; refine print_append_row (w0 := w) w.heap.size rfl (.tmp 14) (.tmp 15) 30 5 .u8 1 (by rfl) Try.underlying30 (by kernel_rfl) (by decide) (.slice (some ⟨_, 0, none⟩) 1 1) [1] l0 A0 l0.length c0 (by rfl) (by rfl) (lit_byte _ _ _ HB.out.size) (Kd.reads_of_C (d := (0 : Int)) (Kd.C_alloc (Kd.C_below hr0.out HB.out) _)) (below_alloc HB.out _) (below_size (below_alloc HB.out _)) (by have := hq.out; simp only [List.length_singleton]; omega) ?_; intro v1 w2 ho hbel hgr hat; rw [← HL1.out] at ho; obtain ⟨A1, c1, rfl, hRI⟩ := own_reads ho; have HC1 := Aside0.mk (own_cap ho); have HCL : Aside0 (Kd.C (Kd.int .u8) w2 A1 _ _) := ⟨Kd.C_of_reads (d := (0 : Int)) (readsInt_of.1 hRI)⟩; replace HB := Aside0.mk hbel; clear ho hbel hgr hat hRI) | ((with_reducible refine gate_dst (N := 19) rfl ?_); refine goesL_ (some 19) rfl rfl Try.func26 (by kernel_rfl) rfl #[.slice A1 L1.length c1, .int .i64 ((n : Int) - 2)] rfl (by (try simp only [List.map_toArray, List.map_cons, List.map_nil]); first | done | rfl) ?_; (with_reducible refine (laws_pick.calls k2 A1 c1 L1 ((n : Int) - 2) (p2 : Int) _ HCL.out HC1.out HK2.out).mono ?_); rintro e W1 ⟨rfl, hD⟩; refine ⟨_, rfl, ?_⟩; have hb := hD.below; replace HB := Aside0.mk (below_step HB.out hb); clear hb hD))
  first | rw [show (1 + (p2 : Int)) = (p : Int) by have := Hp.out; omega] | rw [show wrap64 (1 + (p2 : Int)) = (p : Int) by have := Hp.out; unfold wrap64; omega]
  go_upto_region 6 with (first | ((with_reducible refine gate_dst (N := 23) rfl ?_); at_builtin; refine print_append_row (w0 := w) w.heap.size rfl (.tmp 21) (.tmp 22) 30 5 .u8 1 (by rfl) Try.underlying30 (by kernel_rfl) (by decide) (.slice (some ⟨_, 0, none⟩) 1 1) [2] l0 A0 l0.length c0 (by rfl) (by rfl) (lit_byte _ _ _ HB.out.size) (Kd.reads_of_C (d := (0 : Int)) (Kd.C_alloc (Kd.C_below hr0.out HB.out) _)) (below_alloc HB.out _) (below_size (below_alloc HB.out _)) (by have := hq.out; simp only [List.length_singleton]; omega) ?_; intro v1 w2 ho hbel hgr hat; rw [← HL2.out] at ho; obtain ⟨A1, c1, rfl, hRI⟩ := own_reads ho; have HC1 := Aside0.mk (own_cap ho); have HCL : Aside0 (Kd.C (Kd.int .u8) w2 A1 _ _) := ⟨Kd.C_of_reads (d := (0 : Int)) (readsInt_of.1 hRI)⟩; replace HB := Aside0.mk hbel; clear ho hbel hgr hat hRI) | ((with_reducible refine gate_dst (N := 24) rfl ?_); refine goesL_ (some 24) rfl rfl Try.func26 (by kernel_rfl) rfl #[.slice A1 L2.length c1, .int .i64 20] rfl (by (try simp only [List.map_toArray, List.map_cons, List.map_nil]); first | done | rfl) ?_; (with_reducible refine (laws_pick.calls k3 A1 c1 L2 20 (d : Int) _ HCL.out HC1.out HK3.out).mono ?_); rintro e W1 ⟨rfl, hD⟩; refine ⟨_, rfl, ?_⟩; have hb := hD.below; replace HB := Aside0.mk (below_step HB.out hb); clear hb hD))
  have hmk : ∀ W : World, (Instr.makeSlice 36 (.int .i64 (n : Int)) (.int .i64 (n : Int))).run Try.prog W = .ok (.slice (some ⟨W.heap.size, 0, none⟩) n n) (W.alloc (.cells (madeCells #[.float .f64 0] n) 22)) :=
    fun W => run_make_row' 36 22 (.float .f64 0) 8 Try.underlying36 (by kernel_rfl) rfl .i64 .i64 n (by omega) (by omega) W
  rw [made_FA] at hmk
  go_wp2
  clear hmk
  have F0 : List.replicate n 0 = F (List.replicate n 0) := by rw [F, List.map_replicate, show floatOfInt .f64 0 = 0 by decide +kernel]
  have BK : Aside0 ((W1.alloc (.cells (FA (List.replicate n 0)) 22)).heap[W1.heap.size]? = some (.cells (FA (F (List.replicate n 0))) 22 (0, 0))) := ⟨by rw [← F0]; exact blk_new _ _⟩
  have LG : Aside0 (w.heap.size ≤ W1.heap.size) := ⟨HB.out.size⟩
  replace HB := Aside0.mk (below_alloc HB.out (.cells (FA (List.replicate n 0)) 22))
  generalize W1.alloc (.cells (FA (List.replicate n 0)) 22) = V at BK HB ⊢
  generalize W1.heap.size = ga at BK LG ⊢
  clear F0
  go_loopg [7] n (fun kq v7 w' => ∃ (i : Nat) (us : List Int), v7 = .int .i64 (i : Int) ∧ Aside0 (i + kq = n) ∧ Aside0 (us.length = n ∧ ∀ m, -1 ≤ us.getD m 0 ∧ us.getD m 0 ≤ 1) ∧ Aside0 (w'.heap[ga]? = some (.cells (FA (F us)) 22 (0, 0))) ∧ Aside0 (Below w.heap.size w w'))
  case atStart => exact ⟨0, List.replicate n 0, rfl, ⟨by omega⟩, ⟨by simp, fun m => by rw [List.getD_eq_getElem?_getD, List.getElem?_replicate]; split <;> simp⟩, BK, HB⟩
  case round =>
    clear BK HB
    obtain ⟨i, us, rfl, HK, HU, BK, HB⟩ := hrel
    by_cases hi : i < n
    · have hlt : decide (i < n) = true := decide_eq_true hi
      obtain ⟨L3, hL3⟩ : ∃ L : List Int, L = [(i : Int)] ++ l0 := ⟨_, rfl⟩
      obtain ⟨k4, qq, hq4, hk4⟩ := pick_some L3 3 (by omega) (by rw [hL3]; exact HBY.out.cons i (by omega) (by omega)) (by rw [hL3]; have := hq.out; simp; omega)
      have HL3 := Aside0.mk hL3
      have HK4 := Aside0.mk hk4
      have HI := Aside0.mk hi
      have hi35 : i < 35 := by omega
      have hq5 : qq < 3 := by omega
      have p0 : (0 ≤ (i : Int)) = True := eq_true (by omega)
      have p1' : ((i : Int) < (n : Int)) = True := eq_true (by omega)
      have Hw : Aside0 (wrap64 ((i : Int) + 1) = ((i + 1 : Nat) : Int)) := ⟨by unfold wrap64; omega⟩
      clear hL3 hk4 hq4 hi
      have hc2 : wr.cell? ⟨ga, i, none⟩ = some (.float .f64 ((F us).getD i 0)) := (blk_cell BK.out i).trans (FA_at _ _ (by rw [F_length, HU.out.1]; exact HI.out))
      have hf2 := blk_frozen BK.out i
      go_wp2_with (first | ((with_reducible refine gate_dst (N := 38) rfl ?_); at_builtin; refine print_append_row (w0 := w) w.heap.size rfl (.tmp 36) (.tmp 37) 30 5 .u8 1 (by rfl) Try.underlying30 (by kernel_rfl) (by decide) (.slice (some ⟨_, 0, none⟩) 1 1) [(i : Int)] l0 A0 l0.length c0 (by rfl) (by rfl) (lit_byte _ _ _ HB.out.size) (Kd.reads_of_C (d := (0 : Int)) (Kd.C_alloc (Kd.C_below hr0.out HB.out) _)) (below_alloc HB.out _) (below_size (below_alloc HB.out _)) (by have := hq.out; simp only [List.length_singleton]; omega) ?_; intro v1 w2 ho hbel hgr hat; replace BK := Aside0.mk (blk_grown (blk_alloc BK.out _) hgr (by simp [Value.ownBlock]; have := blk_lt BK.out; omega)); rw [← HL3.out] at ho; obtain ⟨A1, c1, rfl, hRI⟩ := own_reads ho; have HC1 := Aside0.mk (own_cap ho); have HCL : Aside0 (Kd.C (Kd.int .u8) w2 A1 _ _) := ⟨Kd.C_of_reads (d := (0 : Int)) (readsInt_of.1 hRI)⟩; replace HB := Aside0.mk hbel; clear ho hbel hgr hat hRI) | ((with_reducible refine gate_dst (N := 39) rfl ?_); refine goesL_ (some 39) rfl rfl Try.func26 (by kernel_rfl) rfl #[.slice A1 L3.length c1, .int .i64 3] rfl (by (try simp only [List.map_toArray, List.map_cons, List.map_nil]); first | done | rfl) ?_; (with_reducible refine (laws_pick.calls k4 A1 c1 L3 3 (qq : Int) _ HCL.out HC1.out HK4.out).mono ?_); rintro e W1 ⟨rfl, hD⟩; refine ⟨_, rfl, ?_⟩; have hb := hD.below; replace BK := Aside0.mk (blk_below BK.out hb); have hc2 : W1.cell? ⟨ga, i, none⟩ = some (.float .f64 ((F us).getD i 0)) := (blk_cell BK.out i).trans (FA_at _ _ (by rw [F_length, HU.out.1]; exact HI.out)); have hf2 := blk_frozen BK.out i; replace HB := Aside0.mk (below_step HB.out hb); clear hb hD))
      go_roundg (gk - 1)
      case measure => have := HK.out; have := HI.out; omega
      case rel => exact ⟨i + 1, us.set i ((qq : Int) - 1), by first | rfl | rw [Hw.out], ⟨by have := HK.out; have := HI.out; omega⟩, ⟨by rw [List.length_set]; exact HU.out.1, fun m => set_small HU.out.2 (by omega) (by omega) m⟩, ⟨by have h := blk_set BK.out i (.float .f64 (floatOfInt .f64 ((qq : Int) - 1))); rw [FA_set, F_set] at h; exact h⟩, ⟨below_set HB.out LG.out⟩⟩
    · have hlt : decide (i < n) = false := decide_eq_false hi
      have hc2 : wr.cell? ⟨ga, p, none⟩ = some (.float .f64 ((F us).getD p 0)) := (blk_cell BK.out p).trans (FA_at _ _ (by rw [F_length, HU.out.1]; exact hpn))
      have hf2 := blk_frozen BK.out p
      have pp0 : (0 ≤ (p : Int)) = True := eq_true (by omega)
      have pp1 : ((p : Int) < (n : Int)) = True := eq_true (by omega)
      have HPN := Aside0.mk hpn
      clear HK hi
      go_upto_region 12 with (fail)
      replace BK : Aside0 ((wr.setCell ⟨ga, p, none⟩ (.float .f64 4647503709213818880)).heap[ga]? = some (.cells (FA (F (us.set p 500))) 22 (0, 0))) := ⟨by have h := blk_set BK.out p (.float .f64 (floatOfInt .f64 500)); rw [FA_set, F_set] at h; rw [show (4647503709213818880 : Nat) = floatOfInt .f64 500 by decide +kernel]; exact h⟩
      replace HB := Aside0.mk (below_set (g := ga) (j := p) (v := .float .f64 4647503709213818880) HB.out LG.out)
      have HPK : Aside0 (Pk (us.set p 500) p) := ⟨pk_set HU.out.2 (by rw [HU.out.1]; exact HPN.out)⟩
      have HVL : Aside0 ((us.set p 500).length = n) := ⟨by rw [List.length_set]; exact HU.out.1⟩
      generalize World.setCell _ _ _ = V at BK HB ⊢
      clear hc2 hf2 HU
      generalize us.set p 500 = vs at HPK HVL BK
      have hmk2 : ∀ W : World, (Instr.makeSlice 36 (.int .i64 (d : Int)) (.int .i64 (d : Int))).run Try.prog W = .ok (.slice (some ⟨W.heap.size, 0, none⟩) d d) (W.alloc (.cells (madeCells #[.float .f64 0] d) 22)) :=
        fun W => run_make_row' 36 22 (.float .f64 0) 8 Try.underlying36 (by kernel_rfl) rfl .i64 .i64 d (by omega) (by omega) W
      rw [made_FA] at hmk2
      obtain ⟨ws, hws⟩ : ∃ ws : List Int, ws = List.replicate d 0 ++ vs := ⟨_, rfl⟩
      have HWL : Aside0 (ws.length = d + n) := ⟨by rw [hws, List.length_append, List.length_replicate, HVL.out]⟩
      have HPW : Aside0 (Pk ws (d + p)) := ⟨by rw [hws]; exact HPK.out.ahead d⟩
      have HWS := Aside0.mk hws
      obtain ⟨m, hm⟩ : ∃ m : Nat, m = d + n := ⟨_, rfl⟩
      have HM := Aside0.mk hm
      clear hws hm
      have HS1 : Aside0 (∀ (B : Option Addr) (cB : Nat) (W : World), RF W (some ⟨ga, 0, none⟩) (F vs) → RF W B (F ws) → Calls Try.prog 25 #[.slice (some ⟨ga, 0, none⟩) n n, .slice B m cB, .int .i64 20] W fun e w' => e = .returned (.int .i64 (d : Int)) ∧ Below W.heap.size W w') := ⟨fun B cB W h1 h2 => by
        have h := impl_Sync.calls (some ⟨ga, 0, none⟩) B n cB (F vs) (F ws) 20 W ⟨h1⟩ ⟨h2⟩
        rw [F_length, F_length, HVL.out, HWL.out, ← HM.out, syn_found HPK.out HPW.out (by rw [HVL.out]; omega) (by rw [HWL.out]; omega) (d : Int) (by omega) (by omega) (by omega)] at h
        exact h⟩
      have HS2 : Aside0 (∀ (B : Option Addr) (cB : Nat) (W : World), RF W (some ⟨ga, 0, none⟩) (F vs) → RF W B (F ws) → Calls Try.prog 25 #[.slice B m cB, .slice (some ⟨ga, 0, none⟩) n n, .int .i64 20] W fun e w' => e = .returned (.int .i64 (-(d : Int))) ∧ Below W.heap.size W w') := ⟨fun B cB W h1 h2 => by
        have h := impl_Sync.calls B (some ⟨ga, 0, none⟩) cB n (F ws) (F vs) 20 W ⟨h2⟩ ⟨h1⟩
        rw [F_length, F_length, HVL.out, HWL.out, ← HM.out, syn_found HPW.out HPK.out (by rw [HWL.out]; omega) (by rw [HVL.out]; omega) (-(d : Int)) (by omega) (by omega) (by omega)] at h
        exact h⟩
      have HS3 : Aside0 (∀ (W : World), RF W (some ⟨ga, 0, none⟩) (F vs) → Calls Try.prog 25 #[.slice (some ⟨ga, 0, none⟩) n n, .slice (some ⟨ga, 0, none⟩) n n, .int .i64 20] W fun e w' => e = .returned (.int .i64 0) ∧ Below W.heap.size W w') := ⟨fun W h1 => by
        have h := impl_Sync.calls (some ⟨ga, 0, none⟩) (some ⟨ga, 0, none⟩) n n (F vs) (F vs) 20 W ⟨h1⟩ ⟨h1⟩
        rw [F_length, HVL.out, syn_found HPK.out HPK.out (by rw [HVL.out]; omega) (by rw [HVL.out]; omega) 0 (by omega) (by omega) (by omega)] at h
        exact h⟩
      have HS4 : Aside0 (∀ (W : World), RF W (some ⟨ga, 0, none⟩) (F vs) → Calls Try.prog 21 #[.slice (some ⟨ga, 0, none⟩) n n, .slice (some ⟨ga, 0, none⟩) n n, .int .i64 0] W fun e w' => ∃ r, e = .returned (.float .f64 r) ∧ (FloatKind.f64.format.order r 4687829947429945344 == some .gt || FloatKind.f64.format.order r 4687829947429945344 == some .eq) = true ∧ Below W.heap.size W w') := ⟨fun W h1 => by
        have h := impl_Agree.calls (some ⟨ga, 0, none⟩) (some ⟨ga, 0, none⟩) n n (F vs) (F vs) 0 W ⟨h1⟩ ⟨h1⟩
        rw [F_length, HVL.out] at h
        refine h.mono ?_
        rintro e w' ⟨r, rfl, hs, hb⟩
        refine ⟨r, rfl, ?_, hb⟩
        rcases agree_great HPK.out (by rw [HVL.out]; omega) hs with h | h <;> rw [h] <;> rfl⟩
      have hd0 : (d : Int) < 20 := by omega
      go_wp2_with (first | ((with_reducible refine gate_dst (N := 49) rfl ?_); at_builtin; refine append_floats (w0 := w) w.heap.size rfl (.tmp 47) (.tmp 48) (by rfl) (.slice (some ⟨_, 0, none⟩) d d) (List.replicate d 0) (F vs) ga n (by rfl) (by rfl) ?h1 ?h2 ?h3 ?h4 ?h5 ?h6 ?_; (case h1 => (rw [F_length]; exact HVL.out)); (case h2 => (rw [List.length_replicate, FA_VF]; have h := World.ownsRow_lit (base := w.heap.size) (e := 22) (size := 1) V (VF (List.replicate d 0)).toArray d HB.out.size (by simp only [maxLen]; omega) (by simp [VF]); simpa using h)); (case h3 => exact blk_alloc BK.out _); (case h4 => exact below_alloc HB.out _); (case h5 => exact below_size (below_alloc HB.out _)); (case h6 => (rw [List.length_replicate]; omega)); intro v1 w2 ho hbel hgr; have hfw : List.replicate d 0 ++ F vs = F ws := (by rw [HWS.out, F, F, List.map_append, List.map_replicate, show floatOfInt .f64 0 = 0 by decide +kernel]); rw [hfw, List.length_replicate, ← HM.out] at ho; obtain ⟨B, cB, rfl, hRow⟩ := Row.of_own ho; have RY := Aside0.mk (hRow.rf (by rw [F_length, HWL.out, HM.out])); have RX : Aside0 (RF w2 (some ⟨ga, 0, none⟩) (F vs)) := ⟨RF.of_blk (blk_grown (blk_alloc BK.out _) hgr (by simp [Value.ownBlock]; have := blk_lt BK.out; omega))⟩; replace HB := Aside0.mk hbel; clear ho hbel hgr hRow hfw) | ((with_reducible refine gate_dst (N := 52) rfl ?_); (try (refine gate_guard (by rfl) ?_; dsimp only)); refine goesL_ (some 52) rfl rfl Try.func25 (by kernel_rfl) rfl #[.slice (some ⟨ga, 0, none⟩) n n, .slice B m cB, .int .i64 20] rfl (by (try simp only [List.map_toArray, List.map_cons, List.map_nil]); first | done | rfl) ?_; (with_reducible refine (HS1.out B cB _ RX.out RY.out).mono ?_); rintro e W1 ⟨rfl, hb⟩; refine ⟨_, rfl, ?_⟩; replace RX := Aside0.mk (RX.out.below hb); replace RY := Aside0.mk (RY.out.below hb); replace HB := Aside0.mk (below_step HB.out hb); clear hb) | ((with_reducible refine gate_dst (N := 58) rfl ?_); (try (refine gate_guard (by rfl) ?_; dsimp only)); refine goesL_ (some 58) rfl rfl Try.func25 (by kernel_rfl) rfl #[.slice B m cB, .slice (some ⟨ga, 0, none⟩) n n, .int .i64 20] rfl (by (try simp only [List.map_toArray, List.map_cons, List.map_nil]); first | done | rfl) ?_; (with_reducible refine (HS2.out B cB _ RX.out RY.out).mono ?_); rintro e W1 ⟨rfl, hb⟩; refine ⟨_, rfl, ?_⟩; replace RX := Aside0.mk (RX.out.below hb); replace RY := Aside0.mk (RY.out.below hb); replace HB := Aside0.mk (below_step HB.out hb); clear hb) | ((with_reducible refine gate_dst (N := 66) rfl ?_); (try (refine gate_guard (by rfl) ?_; dsimp only)); refine goesL_ (some 66) rfl rfl Try.func25 (by kernel_rfl) rfl #[.slice (some ⟨ga, 0, none⟩) n n, .slice (some ⟨ga, 0, none⟩) n n, .int .i64 20] rfl (by (try simp only [List.map_toArray, List.map_cons, List.map_nil]); first | done | rfl) ?_; (with_reducible refine (HS3.out _ RX.out).mono ?_); rintro e W1 ⟨rfl, hb⟩; refine ⟨_, rfl, ?_⟩; replace RX := Aside0.mk (RX.out.below hb); replace RY := Aside0.mk (RY.out.below hb); replace HB := Aside0.mk (below_step HB.out hb); clear hb) | ((with_reducible refine gate_dst (N := 72) rfl ?_); (try (refine gate_guard (by rfl) ?_; dsimp only)); refine goesL_ (some 72) rfl rfl Try.func21 (by kernel_rfl) rfl #[.slice (some ⟨ga, 0, none⟩) n n, .slice (some ⟨ga, 0, none⟩) n n, .int .i64 0] rfl (by (try simp only [List.map_toArray, List.map_cons, List.map_nil]); first | done | rfl) ?_; (with_reducible refine (HS4.out _ RX.out).mono ?_); rintro e W1 ⟨r, rfl, hG, hb⟩; refine ⟨_, rfl, ?_⟩; replace RX := Aside0.mk (RX.out.below hb); replace RY := Aside0.mk (RY.out.below hb); replace HB := Aside0.mk (below_step HB.out hb); clear hb))
      go_ret
      exact ⟨rfl, HB.out⟩
theorem laws_FnSync.calls (A0 : Option Addr) (c0 : Nat) (l0 : List Int) (r : Bool) (w : World) (hr0 : Kd.C (Kd.int .u8) w A0 l0.length l0) (hc0 : l0.length ≤ c0) (h : laws_FnSync.f l0 = some r) :
    Calls Try.prog 8 #[.slice A0 l0.length c0] w fun e w' => e = .returned (.bool r) ∧ Below w.heap.size w w' := by
  unfold laws_FnSync.f at h
  split at h
  · rename_i hb
    obtain rfl : true = r := Option.some.inj h
    exact core A0 c0 l0 w ⟨hr0⟩ ⟨hc0⟩ (fun i hi => by
      have := hb (l0.getD i 0) (by rw [List.getD_eq_getElem?_getD, List.getElem?_eq_getElem hi]; exact List.getElem_mem hi)
      exact this)
  · cases h
end Go.Proofs.Ytihmoiheiglohaa.PFnSync
