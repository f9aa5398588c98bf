/- The exact sums there and back, in whole numbers. Plain. -/
import Derived.Test.YtnldjdpophkkcaaDoorWavesPure
namespace Go.Proofs.YtnldjdpophkkcaaDoor.WavesPure
open Go.Proofs.YtnldjdpophkkcaaDoor.Fl Go.Proofs.YtnldjdpophkkcaaDoor.Rnd Go.Proofs.YtnldjdpophkkcaaDoor.PFnExactWaves
set_option linter.unusedVariables false
set_option linter.unusedSimpArgs false
set_option maxHeartbeats 8000000
set_option maxRecDepth 100000
theorem c0 : cc 0 = 9007199254740992 := rfl
theorem s0 : ss 0 = 0 := rfl
theorem c1 : cc 1 = 6369051672525773 := rfl
theorem s1 : ss 1 = -6369051672525773 := rfl
theorem c2 : cc 2 = 0 := rfl
theorem s2 : ss 2 = -9007199254740992 := rfl
theorem c3 : cc 3 = -6369051672525773 := rfl
theorem s3 : ss 3 = -6369051672525773 := rfl
theorem c4 : cc 4 = -9007199254740992 := rfl
theorem s4 : ss 4 = 0 := rfl
theorem c5 : cc 5 = -6369051672525773 := rfl
theorem s5 : ss 5 = 6369051672525773 := rfl
theorem c6 : cc 6 = 0 := rfl
theorem s6 : ss 6 = 9007199254740992 := rfl
theorem c7 : cc 7 = 6369051672525773 := rfl
theorem s7 : ss 7 = 6369051672525773 := rfl
theorem if1_0_0 : ix false 1 0 0 = 0 := by decide
theorem if2_0_0 : ix false 2 0 0 = 0 := by decide
theorem if2_0_1 : ix false 2 0 1 = 0 := by decide
theorem if2_1_0 : ix false 2 1 0 = 0 := by decide
theorem if2_1_1 : ix false 2 1 1 = 4 := by decide
theorem if4_0_0 : ix false 4 0 0 = 0 := by decide
theorem if4_0_1 : ix false 4 0 1 = 0 := by decide
theorem if4_0_2 : ix false 4 0 2 = 0 := by decide
theorem if4_0_3 : ix false 4 0 3 = 0 := by decide
theorem if4_1_0 : ix false 4 1 0 = 0 := by decide
theorem if4_1_1 : ix false 4 1 1 = 2 := by decide
theorem if4_1_2 : ix false 4 1 2 = 4 := by decide
theorem if4_1_3 : ix false 4 1 3 = 6 := by decide
theorem if4_2_0 : ix false 4 2 0 = 0 := by decide
theorem if4_2_1 : ix false 4 2 1 = 4 := by decide
theorem if4_2_2 : ix false 4 2 2 = 0 := by decide
theorem if4_2_3 : ix false 4 2 3 = 4 := by decide
theorem if4_3_0 : ix false 4 3 0 = 0 := by decide
theorem if4_3_1 : ix false 4 3 1 = 6 := by decide
theorem if4_3_2 : ix false 4 3 2 = 4 := by decide
theorem if4_3_3 : ix false 4 3 3 = 2 := by decide
theorem if8_0_0 : ix false 8 0 0 = 0 := by decide
theorem if8_0_1 : ix false 8 0 1 = 0 := by decide
theorem if8_0_2 : ix false 8 0 2 = 0 := by decide
theorem if8_0_3 : ix false 8 0 3 = 0 := by decide
theorem if8_0_4 : ix false 8 0 4 = 0 := by decide
theorem if8_0_5 : ix false 8 0 5 = 0 := by decide
theorem if8_0_6 : ix false 8 0 6 = 0 := by decide
theorem if8_0_7 : ix false 8 0 7 = 0 := by decide
theorem if8_1_0 : ix false 8 1 0 = 0 := by decide
theorem if8_1_1 : ix false 8 1 1 = 1 := by decide
theorem if8_1_2 : ix false 8 1 2 = 2 := by decide
theorem if8_1_3 : ix false 8 1 3 = 3 := by decide
theorem if8_1_4 : ix false 8 1 4 = 4 := by decide
theorem if8_1_5 : ix false 8 1 5 = 5 := by decide
theorem if8_1_6 : ix false 8 1 6 = 6 := by decide
theorem if8_1_7 : ix false 8 1 7 = 7 := by decide
theorem if8_2_0 : ix false 8 2 0 = 0 := by decide
theorem if8_2_1 : ix false 8 2 1 = 2 := by decide
theorem if8_2_2 : ix false 8 2 2 = 4 := by decide
theorem if8_2_3 : ix false 8 2 3 = 6 := by decide
theorem if8_2_4 : ix false 8 2 4 = 0 := by decide
theorem if8_2_5 : ix false 8 2 5 = 2 := by decide
theorem if8_2_6 : ix false 8 2 6 = 4 := by decide
theorem if8_2_7 : ix false 8 2 7 = 6 := by decide
theorem if8_3_0 : ix false 8 3 0 = 0 := by decide
theorem if8_3_1 : ix false 8 3 1 = 3 := by decide
theorem if8_3_2 : ix false 8 3 2 = 6 := by decide
theorem if8_3_3 : ix false 8 3 3 = 1 := by decide
theorem if8_3_4 : ix false 8 3 4 = 4 := by decide
theorem if8_3_5 : ix false 8 3 5 = 7 := by decide
theorem if8_3_6 : ix false 8 3 6 = 2 := by decide
theorem if8_3_7 : ix false 8 3 7 = 5 := by decide
theorem if8_4_0 : ix false 8 4 0 = 0 := by decide
theorem if8_4_1 : ix false 8 4 1 = 4 := by decide
theorem if8_4_2 : ix false 8 4 2 = 0 := by decide
theorem if8_4_3 : ix false 8 4 3 = 4 := by decide
theorem if8_4_4 : ix false 8 4 4 = 0 := by decide
theorem if8_4_5 : ix false 8 4 5 = 4 := by decide
theorem if8_4_6 : ix false 8 4 6 = 0 := by decide
theorem if8_4_7 : ix false 8 4 7 = 4 := by decide
theorem if8_5_0 : ix false 8 5 0 = 0 := by decide
theorem if8_5_1 : ix false 8 5 1 = 5 := by decide
theorem if8_5_2 : ix false 8 5 2 = 2 := by decide
theorem if8_5_3 : ix false 8 5 3 = 7 := by decide
theorem if8_5_4 : ix false 8 5 4 = 4 := by decide
theorem if8_5_5 : ix false 8 5 5 = 1 := by decide
theorem if8_5_6 : ix false 8 5 6 = 6 := by decide
theorem if8_5_7 : ix false 8 5 7 = 3 := by decide
theorem if8_6_0 : ix false 8 6 0 = 0 := by decide
theorem if8_6_1 : ix false 8 6 1 = 6 := by decide
theorem if8_6_2 : ix false 8 6 2 = 4 := by decide
theorem if8_6_3 : ix false 8 6 3 = 2 := by decide
theorem if8_6_4 : ix false 8 6 4 = 0 := by decide
theorem if8_6_5 : ix false 8 6 5 = 6 := by decide
theorem if8_6_6 : ix false 8 6 6 = 4 := by decide
theorem if8_6_7 : ix false 8 6 7 = 2 := by decide
theorem if8_7_0 : ix false 8 7 0 = 0 := by decide
theorem if8_7_1 : ix false 8 7 1 = 7 := by decide
theorem if8_7_2 : ix false 8 7 2 = 6 := by decide
theorem if8_7_3 : ix false 8 7 3 = 5 := by decide
theorem if8_7_4 : ix false 8 7 4 = 4 := by decide
theorem if8_7_5 : ix false 8 7 5 = 3 := by decide
theorem if8_7_6 : ix false 8 7 6 = 2 := by decide
theorem if8_7_7 : ix false 8 7 7 = 1 := by decide
theorem it1_0_0 : ix true 1 0 0 = 0 := by decide
theorem it2_0_0 : ix true 2 0 0 = 0 := by decide
theorem it2_0_1 : ix true 2 0 1 = 0 := by decide
theorem it2_1_0 : ix true 2 1 0 = 0 := by decide
theorem it2_1_1 : ix true 2 1 1 = 4 := by decide
theorem it4_0_0 : ix true 4 0 0 = 0 := by decide
theorem it4_0_1 : ix true 4 0 1 = 0 := by decide
theorem it4_0_2 : ix true 4 0 2 = 0 := by decide
theorem it4_0_3 : ix true 4 0 3 = 0 := by decide
theorem it4_1_0 : ix true 4 1 0 = 0 := by decide
theorem it4_1_1 : ix true 4 1 1 = 6 := by decide
theorem it4_1_2 : ix true 4 1 2 = 4 := by decide
theorem it4_1_3 : ix true 4 1 3 = 2 := by decide
theorem it4_2_0 : ix true 4 2 0 = 0 := by decide
theorem it4_2_1 : ix true 4 2 1 = 4 := by decide
theorem it4_2_2 : ix true 4 2 2 = 0 := by decide
theorem it4_2_3 : ix true 4 2 3 = 4 := by decide
theorem it4_3_0 : ix true 4 3 0 = 0 := by decide
theorem it4_3_1 : ix true 4 3 1 = 2 := by decide
theorem it4_3_2 : ix true 4 3 2 = 4 := by decide
theorem it4_3_3 : ix true 4 3 3 = 6 := by decide
theorem it8_0_0 : ix true 8 0 0 = 0 := by decide
theorem it8_0_1 : ix true 8 0 1 = 0 := by decide
theorem it8_0_2 : ix true 8 0 2 = 0 := by decide
theorem it8_0_3 : ix true 8 0 3 = 0 := by decide
theorem it8_0_4 : ix true 8 0 4 = 0 := by decide
theorem it8_0_5 : ix true 8 0 5 = 0 := by decide
theorem it8_0_6 : ix true 8 0 6 = 0 := by decide
theorem it8_0_7 : ix true 8 0 7 = 0 := by decide
theorem it8_1_0 : ix true 8 1 0 = 0 := by decide
theorem it8_1_1 : ix true 8 1 1 = 7 := by decide
theorem it8_1_2 : ix true 8 1 2 = 6 := by decide
theorem it8_1_3 : ix true 8 1 3 = 5 := by decide
theorem it8_1_4 : ix true 8 1 4 = 4 := by decide
theorem it8_1_5 : ix true 8 1 5 = 3 := by decide
theorem it8_1_6 : ix true 8 1 6 = 2 := by decide
theorem it8_1_7 : ix true 8 1 7 = 1 := by decide
theorem it8_2_0 : ix true 8 2 0 = 0 := by decide
theorem it8_2_1 : ix true 8 2 1 = 6 := by decide
theorem it8_2_2 : ix true 8 2 2 = 4 := by decide
theorem it8_2_3 : ix true 8 2 3 = 2 := by decide
theorem it8_2_4 : ix true 8 2 4 = 0 := by decide
theorem it8_2_5 : ix true 8 2 5 = 6 := by decide
theorem it8_2_6 : ix true 8 2 6 = 4 := by decide
theorem it8_2_7 : ix true 8 2 7 = 2 := by decide
theorem it8_3_0 : ix true 8 3 0 = 0 := by decide
theorem it8_3_1 : ix true 8 3 1 = 5 := by decide
theorem it8_3_2 : ix true 8 3 2 = 2 := by decide
theorem it8_3_3 : ix true 8 3 3 = 7 := by decide
theorem it8_3_4 : ix true 8 3 4 = 4 := by decide
theorem it8_3_5 : ix true 8 3 5 = 1 := by decide
theorem it8_3_6 : ix true 8 3 6 = 6 := by decide
theorem it8_3_7 : ix true 8 3 7 = 3 := by decide
theorem it8_4_0 : ix true 8 4 0 = 0 := by decide
theorem it8_4_1 : ix true 8 4 1 = 4 := by decide
theorem it8_4_2 : ix true 8 4 2 = 0 := by decide
theorem it8_4_3 : ix true 8 4 3 = 4 := by decide
theorem it8_4_4 : ix true 8 4 4 = 0 := by decide
theorem it8_4_5 : ix true 8 4 5 = 4 := by decide
theorem it8_4_6 : ix true 8 4 6 = 0 := by decide
theorem it8_4_7 : ix true 8 4 7 = 4 := by decide
theorem it8_5_0 : ix true 8 5 0 = 0 := by decide
theorem it8_5_1 : ix true 8 5 1 = 3 := by decide
theorem it8_5_2 : ix true 8 5 2 = 6 := by decide
theorem it8_5_3 : ix true 8 5 3 = 1 := by decide
theorem it8_5_4 : ix true 8 5 4 = 4 := by decide
theorem it8_5_5 : ix true 8 5 5 = 7 := by decide
theorem it8_5_6 : ix true 8 5 6 = 2 := by decide
theorem it8_5_7 : ix true 8 5 7 = 5 := by decide
theorem it8_6_0 : ix true 8 6 0 = 0 := by decide
theorem it8_6_1 : ix true 8 6 1 = 2 := by decide
theorem it8_6_2 : ix true 8 6 2 = 4 := by decide
theorem it8_6_3 : ix true 8 6 3 = 6 := by decide
theorem it8_6_4 : ix true 8 6 4 = 0 := by decide
theorem it8_6_5 : ix true 8 6 5 = 2 := by decide
theorem it8_6_6 : ix true 8 6 6 = 4 := by decide
theorem it8_6_7 : ix true 8 6 7 = 6 := by decide
theorem it8_7_0 : ix true 8 7 0 = 0 := by decide
theorem it8_7_1 : ix true 8 7 1 = 1 := by decide
theorem it8_7_2 : ix true 8 7 2 = 2 := by decide
theorem it8_7_3 : ix true 8 7 3 = 3 := by decide
theorem it8_7_4 : ix true 8 7 4 = 4 := by decide
theorem it8_7_5 : ix true 8 7 5 = 5 := by decide
theorem it8_7_6 : ix true 8 7 6 = 6 := by decide
theorem it8_7_7 : ix true 8 7 7 = 7 := by decide
theorem back1_0 (A B : Nat → Int) (a0 : -(1000 * (4294967296 * E)) ≤ A 0 ∧ A 0 ≤ 1000 * (4294967296 * E)) (b0 : -(1000 * (4294967296 * E)) ≤ B 0 ∧ B 0 ≤ 1000 * (4294967296 * E)) :
    (-(E * 81129638414606681695789005144064) ≤ SR true 1 0 (fun j => SR false 1 j A B 1) (fun j => SI false 1 j A B 1) 1 - 1 * 81129638414606681695789005144064 * A 0 ∧ SR true 1 0 (fun j => SR false 1 j A B 1) (fun j => SI false 1 j A B 1) 1 - 1 * 81129638414606681695789005144064 * A 0 ≤ E * 81129638414606681695789005144064) ∧
    (-(E * 81129638414606681695789005144064) ≤ SI true 1 0 (fun j => SR false 1 j A B 1) (fun j => SI false 1 j A B 1) 1 - 1 * 81129638414606681695789005144064 * B 0 ∧ SI true 1 0 (fun j => SR false 1 j A B 1) (fun j => SI false 1 j A B 1) 1 - 1 * 81129638414606681695789005144064 * B 0 ≤ E * 81129638414606681695789005144064) := by
  have hE := E_pos
  simp only [SR, SI, if1_0_0, it1_0_0, c0, s0, c1, s1, c2, s2, c3, s3, c4, s4, c5, s5, c6, s6, c7, s7]
  omega
theorem back2_0 (A B : Nat → Int) (a0 : -(1000 * (4294967296 * E)) ≤ A 0 ∧ A 0 ≤ 1000 * (4294967296 * E)) (b0 : -(1000 * (4294967296 * E)) ≤ B 0 ∧ B 0 ≤ 1000 * (4294967296 * E)) (a1 : -(1000 * (4294967296 * E)) ≤ A 1 ∧ A 1 ≤ 1000 * (4294967296 * E)) (b1 : -(1000 * (4294967296 * E)) ≤ B 1 ∧ B 1 ≤ 1000 * (4294967296 * E)) :
    (-(E * 81129638414606681695789005144064) ≤ SR true 2 0 (fun j => SR false 2 j A B 2) (fun j => SI false 2 j A B 2) 2 - 2 * 81129638414606681695789005144064 * A 0 ∧ SR true 2 0 (fun j => SR false 2 j A B 2) (fun j => SI false 2 j A B 2) 2 - 2 * 81129638414606681695789005144064 * A 0 ≤ E * 81129638414606681695789005144064) ∧
    (-(E * 81129638414606681695789005144064) ≤ SI true 2 0 (fun j => SR false 2 j A B 2) (fun j => SI false 2 j A B 2) 2 - 2 * 81129638414606681695789005144064 * B 0 ∧ SI true 2 0 (fun j => SR false 2 j A B 2) (fun j => SI false 2 j A B 2) 2 - 2 * 81129638414606681695789005144064 * B 0 ≤ E * 81129638414606681695789005144064) := by
  have hE := E_pos
  simp only [SR, SI, if2_0_0, if2_0_1, if2_1_0, if2_1_1, it2_0_0, it2_0_1, c0, s0, c1, s1, c2, s2, c3, s3, c4, s4, c5, s5, c6, s6, c7, s7]
  omega
theorem back2_1 (A B : Nat → Int) (a0 : -(1000 * (4294967296 * E)) ≤ A 0 ∧ A 0 ≤ 1000 * (4294967296 * E)) (b0 : -(1000 * (4294967296 * E)) ≤ B 0 ∧ B 0 ≤ 1000 * (4294967296 * E)) (a1 : -(1000 * (4294967296 * E)) ≤ A 1 ∧ A 1 ≤ 1000 * (4294967296 * E)) (b1 : -(1000 * (4294967296 * E)) ≤ B 1 ∧ B 1 ≤ 1000 * (4294967296 * E)) :
    (-(E * 81129638414606681695789005144064) ≤ SR true 2 1 (fun j => SR false 2 j A B 2) (fun j => SI false 2 j A B 2) 2 - 2 * 81129638414606681695789005144064 * A 1 ∧ SR true 2 1 (fun j => SR false 2 j A B 2) (fun j => SI false 2 j A B 2) 2 - 2 * 81129638414606681695789005144064 * A 1 ≤ E * 81129638414606681695789005144064) ∧
    (-(E * 81129638414606681695789005144064) ≤ SI true 2 1 (fun j => SR false 2 j A B 2) (fun j => SI false 2 j A B 2) 2 - 2 * 81129638414606681695789005144064 * B 1 ∧ SI true 2 1 (fun j => SR false 2 j A B 2) (fun j => SI false 2 j A B 2) 2 - 2 * 81129638414606681695789005144064 * B 1 ≤ E * 81129638414606681695789005144064) := by
  have hE := E_pos
  simp only [SR, SI, if2_0_0, if2_0_1, if2_1_0, if2_1_1, it2_1_0, it2_1_1, c0, s0, c1, s1, c2, s2, c3, s3, c4, s4, c5, s5, c6, s6, c7, s7]
  omega
theorem back4_0 (A B : Nat → Int) (a0 : -(1000 * (4294967296 * E)) ≤ A 0 ∧ A 0 ≤ 1000 * (4294967296 * E)) (b0 : -(1000 * (4294967296 * E)) ≤ B 0 ∧ B 0 ≤ 1000 * (4294967296 * E)) (a1 : -(1000 * (4294967296 * E)) ≤ A 1 ∧ A 1 ≤ 1000 * (4294967296 * E)) (b1 : -(1000 * (4294967296 * E)) ≤ B 1 ∧ B 1 ≤ 1000 * (4294967296 * E)) (a2 : -(1000 * (4294967296 * E)) ≤ A 2 ∧ A 2 ≤ 1000 * (4294967296 * E)) (b2 : -(1000 * (4294967296 * E)) ≤ B 2 ∧ B 2 ≤ 1000 * (4294967296 * E)) (a3 : -(1000 * (4294967296 * E)) ≤ A 3 ∧ A 3 ≤ 1000 * (4294967296 * E)) (b3 : -(1000 * (4294967296 * E)) ≤ B 3 ∧ B 3 ≤ 1000 * (4294967296 * E)) :
    (-(E * 81129638414606681695789005144064) ≤ SR true 4 0 (fun j => SR false 4 j A B 4) (fun j => SI false 4 j A B 4) 4 - 4 * 81129638414606681695789005144064 * A 0 ∧ SR true 4 0 (fun j => SR false 4 j A B 4) (fun j => SI false 4 j A B 4) 4 - 4 * 81129638414606681695789005144064 * A 0 ≤ E * 81129638414606681695789005144064) ∧
    (-(E * 81129638414606681695789005144064) ≤ SI true 4 0 (fun j => SR false 4 j A B 4) (fun j => SI false 4 j A B 4) 4 - 4 * 81129638414606681695789005144064 * B 0 ∧ SI true 4 0 (fun j => SR false 4 j A B 4) (fun j => SI false 4 j A B 4) 4 - 4 * 81129638414606681695789005144064 * B 0 ≤ E * 81129638414606681695789005144064) := by
  have hE := E_pos
  simp only [SR, SI, if4_0_0, if4_0_1, if4_0_2, if4_0_3, if4_1_0, if4_1_1, if4_1_2, if4_1_3, if4_2_0, if4_2_1, if4_2_2, if4_2_3, if4_3_0, if4_3_1, if4_3_2, if4_3_3, it4_0_0, it4_0_1, it4_0_2, it4_0_3, c0, s0, c1, s1, c2, s2, c3, s3, c4, s4, c5, s5, c6, s6, c7, s7]
  omega
theorem back4_1 (A B : Nat → Int) (a0 : -(1000 * (4294967296 * E)) ≤ A 0 ∧ A 0 ≤ 1000 * (4294967296 * E)) (b0 : -(1000 * (4294967296 * E)) ≤ B 0 ∧ B 0 ≤ 1000 * (4294967296 * E)) (a1 : -(1000 * (4294967296 * E)) ≤ A 1 ∧ A 1 ≤ 1000 * (4294967296 * E)) (b1 : -(1000 * (4294967296 * E)) ≤ B 1 ∧ B 1 ≤ 1000 * (4294967296 * E)) (a2 : -(1000 * (4294967296 * E)) ≤ A 2 ∧ A 2 ≤ 1000 * (4294967296 * E)) (b2 : -(1000 * (4294967296 * E)) ≤ B 2 ∧ B 2 ≤ 1000 * (4294967296 * E)) (a3 : -(1000 * (4294967296 * E)) ≤ A 3 ∧ A 3 ≤ 1000 * (4294967296 * E)) (b3 : -(1000 * (4294967296 * E)) ≤ B 3 ∧ B 3 ≤ 1000 * (4294967296 * E)) :
    (-(E * 81129638414606681695789005144064) ≤ SR true 4 1 (fun j => SR false 4 j A B 4) (fun j => SI false 4 j A B 4) 4 - 4 * 81129638414606681695789005144064 * A 1 ∧ SR true 4 1 (fun j => SR false 4 j A B 4) (fun j => SI false 4 j A B 4) 4 - 4 * 81129638414606681695789005144064 * A 1 ≤ E * 81129638414606681695789005144064) ∧
    (-(E * 81129638414606681695789005144064) ≤ SI true 4 1 (fun j => SR false 4 j A B 4) (fun j => SI false 4 j A B 4) 4 - 4 * 81129638414606681695789005144064 * B 1 ∧ SI true 4 1 (fun j => SR false 4 j A B 4) (fun j => SI false 4 j A B 4) 4 - 4 * 81129638414606681695789005144064 * B 1 ≤ E * 81129638414606681695789005144064) := by
  have hE := E_pos
  simp only [SR, SI, if4_0_0, if4_0_1, if4_0_2, if4_0_3, if4_1_0, if4_1_1, if4_1_2, if4_1_3, if4_2_0, if4_2_1, if4_2_2, if4_2_3, if4_3_0, if4_3_1, if4_3_2, if4_3_3, it4_1_0, it4_1_1, it4_1_2, it4_1_3, c0, s0, c1, s1, c2, s2, c3, s3, c4, s4, c5, s5, c6, s6, c7, s7]
  omega
theorem back4_2 (A B : Nat → Int) (a0 : -(1000 * (4294967296 * E)) ≤ A 0 ∧ A 0 ≤ 1000 * (4294967296 * E)) (b0 : -(1000 * (4294967296 * E)) ≤ B 0 ∧ B 0 ≤ 1000 * (4294967296 * E)) (a1 : -(1000 * (4294967296 * E)) ≤ A 1 ∧ A 1 ≤ 1000 * (4294967296 * E)) (b1 : -(1000 * (4294967296 * E)) ≤ B 1 ∧ B 1 ≤ 1000 * (4294967296 * E)) (a2 : -(1000 * (4294967296 * E)) ≤ A 2 ∧ A 2 ≤ 1000 * (4294967296 * E)) (b2 : -(1000 * (4294967296 * E)) ≤ B 2 ∧ B 2 ≤ 1000 * (4294967296 * E)) (a3 : -(1000 * (4294967296 * E)) ≤ A 3 ∧ A 3 ≤ 1000 * (4294967296 * E)) (b3 : -(1000 * (4294967296 * E)) ≤ B 3 ∧ B 3 ≤ 1000 * (4294967296 * E)) :
    (-(E * 81129638414606681695789005144064) ≤ SR true 4 2 (fun j => SR false 4 j A B 4) (fun j => SI false 4 j A B 4) 4 - 4 * 81129638414606681695789005144064 * A 2 ∧ SR true 4 2 (fun j => SR false 4 j A B 4) (fun j => SI false 4 j A B 4) 4 - 4 * 81129638414606681695789005144064 * A 2 ≤ E * 81129638414606681695789005144064) ∧
    (-(E * 81129638414606681695789005144064) ≤ SI true 4 2 (fun j => SR false 4 j A B 4) (fun j => SI false 4 j A B 4) 4 - 4 * 81129638414606681695789005144064 * B 2 ∧ SI true 4 2 (fun j => SR false 4 j A B 4) (fun j => SI false 4 j A B 4) 4 - 4 * 81129638414606681695789005144064 * B 2 ≤ E * 81129638414606681695789005144064) := by
  have hE := E_pos
  simp only [SR, SI, if4_0_0, if4_0_1, if4_0_2, if4_0_3, if4_1_0, if4_1_1, if4_1_2, if4_1_3, if4_2_0, if4_2_1, if4_2_2, if4_2_3, if4_3_0, if4_3_1, if4_3_2, if4_3_3, it4_2_0, it4_2_1, it4_2_2, it4_2_3, c0, s0, c1, s1, c2, s2, c3, s3, c4, s4, c5, s5, c6, s6, c7, s7]
  omega
theorem back4_3 (A B : Nat → Int) (a0 : -(1000 * (4294967296 * E)) ≤ A 0 ∧ A 0 ≤ 1000 * (4294967296 * E)) (b0 : -(1000 * (4294967296 * E)) ≤ B 0 ∧ B 0 ≤ 1000 * (4294967296 * E)) (a1 : -(1000 * (4294967296 * E)) ≤ A 1 ∧ A 1 ≤ 1000 * (4294967296 * E)) (b1 : -(1000 * (4294967296 * E)) ≤ B 1 ∧ B 1 ≤ 1000 * (4294967296 * E)) (a2 : -(1000 * (4294967296 * E)) ≤ A 2 ∧ A 2 ≤ 1000 * (4294967296 * E)) (b2 : -(1000 * (4294967296 * E)) ≤ B 2 ∧ B 2 ≤ 1000 * (4294967296 * E)) (a3 : -(1000 * (4294967296 * E)) ≤ A 3 ∧ A 3 ≤ 1000 * (4294967296 * E)) (b3 : -(1000 * (4294967296 * E)) ≤ B 3 ∧ B 3 ≤ 1000 * (4294967296 * E)) :
    (-(E * 81129638414606681695789005144064) ≤ SR true 4 3 (fun j => SR false 4 j A B 4) (fun j => SI false 4 j A B 4) 4 - 4 * 81129638414606681695789005144064 * A 3 ∧ SR true 4 3 (fun j => SR false 4 j A B 4) (fun j => SI false 4 j A B 4) 4 - 4 * 81129638414606681695789005144064 * A 3 ≤ E * 81129638414606681695789005144064) ∧
    (-(E * 81129638414606681695789005144064) ≤ SI true 4 3 (fun j => SR false 4 j A B 4) (fun j => SI false 4 j A B 4) 4 - 4 * 81129638414606681695789005144064 * B 3 ∧ SI true 4 3 (fun j => SR false 4 j A B 4) (fun j => SI false 4 j A B 4) 4 - 4 * 81129638414606681695789005144064 * B 3 ≤ E * 81129638414606681695789005144064) := by
  have hE := E_pos
  simp only [SR, SI, if4_0_0, if4_0_1, if4_0_2, if4_0_3, if4_1_0, if4_1_1, if4_1_2, if4_1_3, if4_2_0, if4_2_1, if4_2_2, if4_2_3, if4_3_0, if4_3_1, if4_3_2, if4_3_3, it4_3_0, it4_3_1, it4_3_2, it4_3_3, c0, s0, c1, s1, c2, s2, c3, s3, c4, s4, c5, s5, c6, s6, c7, s7]
  omega
theorem back8_0 (A B : Nat → Int) (a0 : -(1000 * (4294967296 * E)) ≤ A 0 ∧ A 0 ≤ 1000 * (4294967296 * E)) (b0 : -(1000 * (4294967296 * E)) ≤ B 0 ∧ B 0 ≤ 1000 * (4294967296 * E)) (a1 : -(1000 * (4294967296 * E)) ≤ A 1 ∧ A 1 ≤ 1000 * (4294967296 * E)) (b1 : -(1000 * (4294967296 * E)) ≤ B 1 ∧ B 1 ≤ 1000 * (4294967296 * E)) (a2 : -(1000 * (4294967296 * E)) ≤ A 2 ∧ A 2 ≤ 1000 * (4294967296 * E)) (b2 : -(1000 * (4294967296 * E)) ≤ B 2 ∧ B 2 ≤ 1000 * (4294967296 * E)) (a3 : -(1000 * (4294967296 * E)) ≤ A 3 ∧ A 3 ≤ 1000 * (4294967296 * E)) (b3 : -(1000 * (4294967296 * E)) ≤ B 3 ∧ B 3 ≤ 1000 * (4294967296 * E)) (a4 : -(1000 * (4294967296 * E)) ≤ A 4 ∧ A 4 ≤ 1000 * (4294967296 * E)) (b4 : -(1000 * (4294967296 * E)) ≤ B 4 ∧ B 4 ≤ 1000 * (4294967296 * E)) (a5 : -(1000 * (4294967296 * E)) ≤ A 5 ∧ A 5 ≤ 1000 * (4294967296 * E)) (b5 : -(1000 * (4294967296 * E)) ≤ B 5 ∧ B 5 ≤ 1000 * (4294967296 * E)) (a6 : -(1000 * (4294967296 * E)) ≤ A 6 ∧ A 6 ≤ 1000 * (4294967296 * E)) (b6 : -(1000 * (4294967296 * E)) ≤ B 6 ∧ B 6 ≤ 1000 * (4294967296 * E)) (a7 : -(1000 * (4294967296 * E)) ≤ A 7 ∧ A 7 ≤ 1000 * (4294967296 * E)) (b7 : -(1000 * (4294967296 * E)) ≤ B 7 ∧ B 7 ≤ 1000 * (4294967296 * E)) :
    (-(E * 81129638414606681695789005144064) ≤ SR true 8 0 (fun j => SR false 8 j A B 8) (fun j => SI false 8 j A B 8) 8 - 8 * 81129638414606681695789005144064 * A 0 ∧ SR true 8 0 (fun j => SR false 8 j A B 8) (fun j => SI false 8 j A B 8) 8 - 8 * 81129638414606681695789005144064 * A 0 ≤ E * 81129638414606681695789005144064) ∧
    (-(E * 81129638414606681695789005144064) ≤ SI true 8 0 (fun j => SR false 8 j A B 8) (fun j => SI false 8 j A B 8) 8 - 8 * 81129638414606681695789005144064 * B 0 ∧ SI true 8 0 (fun j => SR false 8 j A B 8) (fun j => SI false 8 j A B 8) 8 - 8 * 81129638414606681695789005144064 * B 0 ≤ E * 81129638414606681695789005144064) := by
  have hE := E_pos
  simp only [SR, SI, if8_0_0, if8_0_1, if8_0_2, if8_0_3, if8_0_4, if8_0_5, if8_0_6, if8_0_7, if8_1_0, if8_1_1, if8_1_2, if8_1_3, if8_1_4, if8_1_5, if8_1_6, if8_1_7, if8_2_0, if8_2_1, if8_2_2, if8_2_3, if8_2_4, if8_2_5, if8_2_6, if8_2_7, if8_3_0, if8_3_1, if8_3_2, if8_3_3, if8_3_4, if8_3_5, if8_3_6, if8_3_7, if8_4_0, if8_4_1, if8_4_2, if8_4_3, if8_4_4, if8_4_5, if8_4_6, if8_4_7, if8_5_0, if8_5_1, if8_5_2, if8_5_3, if8_5_4, if8_5_5, if8_5_6, if8_5_7, if8_6_0, if8_6_1, if8_6_2, if8_6_3, if8_6_4, if8_6_5, if8_6_6, if8_6_7, if8_7_0, if8_7_1, if8_7_2, if8_7_3, if8_7_4, if8_7_5, if8_7_6, if8_7_7, it8_0_0, it8_0_1, it8_0_2, it8_0_3, it8_0_4, it8_0_5, it8_0_6, it8_0_7, c0, s0, c1, s1, c2, s2, c3, s3, c4, s4, c5, s5, c6, s6, c7, s7]
  omega
theorem back8_1 (A B : Nat → Int) (a0 : -(1000 * (4294967296 * E)) ≤ A 0 ∧ A 0 ≤ 1000 * (4294967296 * E)) (b0 : -(1000 * (4294967296 * E)) ≤ B 0 ∧ B 0 ≤ 1000 * (4294967296 * E)) (a1 : -(1000 * (4294967296 * E)) ≤ A 1 ∧ A 1 ≤ 1000 * (4294967296 * E)) (b1 : -(1000 * (4294967296 * E)) ≤ B 1 ∧ B 1 ≤ 1000 * (4294967296 * E)) (a2 : -(1000 * (4294967296 * E)) ≤ A 2 ∧ A 2 ≤ 1000 * (4294967296 * E)) (b2 : -(1000 * (4294967296 * E)) ≤ B 2 ∧ B 2 ≤ 1000 * (4294967296 * E)) (a3 : -(1000 * (4294967296 * E)) ≤ A 3 ∧ A 3 ≤ 1000 * (4294967296 * E)) (b3 : -(1000 * (4294967296 * E)) ≤ B 3 ∧ B 3 ≤ 1000 * (4294967296 * E)) (a4 : -(1000 * (4294967296 * E)) ≤ A 4 ∧ A 4 ≤ 1000 * (4294967296 * E)) (b4 : -(1000 * (4294967296 * E)) ≤ B 4 ∧ B 4 ≤ 1000 * (4294967296 * E)) (a5 : -(1000 * (4294967296 * E)) ≤ A 5 ∧ A 5 ≤ 1000 * (4294967296 * E)) (b5 : -(1000 * (4294967296 * E)) ≤ B 5 ∧ B 5 ≤ 1000 * (4294967296 * E)) (a6 : -(1000 * (4294967296 * E)) ≤ A 6 ∧ A 6 ≤ 1000 * (4294967296 * E)) (b6 : -(1000 * (4294967296 * E)) ≤ B 6 ∧ B 6 ≤ 1000 * (4294967296 * E)) (a7 : -(1000 * (4294967296 * E)) ≤ A 7 ∧ A 7 ≤ 1000 * (4294967296 * E)) (b7 : -(1000 * (4294967296 * E)) ≤ B 7 ∧ B 7 ≤ 1000 * (4294967296 * E)) :
    (-(E * 81129638414606681695789005144064) ≤ SR true 8 1 (fun j => SR false 8 j A B 8) (fun j => SI false 8 j A B 8) 8 - 8 * 81129638414606681695789005144064 * A 1 ∧ SR true 8 1 (fun j => SR false 8 j A B 8) (fun j => SI false 8 j A B 8) 8 - 8 * 81129638414606681695789005144064 * A 1 ≤ E * 81129638414606681695789005144064) ∧
    (-(E * 81129638414606681695789005144064) ≤ SI true 8 1 (fun j => SR false 8 j A B 8) (fun j => SI false 8 j A B 8) 8 - 8 * 81129638414606681695789005144064 * B 1 ∧ SI true 8 1 (fun j => SR false 8 j A B 8) (fun j => SI false 8 j A B 8) 8 - 8 * 81129638414606681695789005144064 * B 1 ≤ E * 81129638414606681695789005144064) := by
  have hE := E_pos
  simp only [SR, SI, if8_0_0, if8_0_1, if8_0_2, if8_0_3, if8_0_4, if8_0_5, if8_0_6, if8_0_7, if8_1_0, if8_1_1, if8_1_2, if8_1_3, if8_1_4, if8_1_5, if8_1_6, if8_1_7, if8_2_0, if8_2_1, if8_2_2, if8_2_3, if8_2_4, if8_2_5, if8_2_6, if8_2_7, if8_3_0, if8_3_1, if8_3_2, if8_3_3, if8_3_4, if8_3_5, if8_3_6, if8_3_7, if8_4_0, if8_4_1, if8_4_2, if8_4_3, if8_4_4, if8_4_5, if8_4_6, if8_4_7, if8_5_0, if8_5_1, if8_5_2, if8_5_3, if8_5_4, if8_5_5, if8_5_6, if8_5_7, if8_6_0, if8_6_1, if8_6_2, if8_6_3, if8_6_4, if8_6_5, if8_6_6, if8_6_7, if8_7_0, if8_7_1, if8_7_2, if8_7_3, if8_7_4, if8_7_5, if8_7_6, if8_7_7, it8_1_0, it8_1_1, it8_1_2, it8_1_3, it8_1_4, it8_1_5, it8_1_6, it8_1_7, c0, s0, c1, s1, c2, s2, c3, s3, c4, s4, c5, s5, c6, s6, c7, s7]
  omega
theorem back8_2 (A B : Nat → Int) (a0 : -(1000 * (4294967296 * E)) ≤ A 0 ∧ A 0 ≤ 1000 * (4294967296 * E)) (b0 : -(1000 * (4294967296 * E)) ≤ B 0 ∧ B 0 ≤ 1000 * (4294967296 * E)) (a1 : -(1000 * (4294967296 * E)) ≤ A 1 ∧ A 1 ≤ 1000 * (4294967296 * E)) (b1 : -(1000 * (4294967296 * E)) ≤ B 1 ∧ B 1 ≤ 1000 * (4294967296 * E)) (a2 : -(1000 * (4294967296 * E)) ≤ A 2 ∧ A 2 ≤ 1000 * (4294967296 * E)) (b2 : -(1000 * (4294967296 * E)) ≤ B 2 ∧ B 2 ≤ 1000 * (4294967296 * E)) (a3 : -(1000 * (4294967296 * E)) ≤ A 3 ∧ A 3 ≤ 1000 * (4294967296 * E)) (b3 : -(1000 * (4294967296 * E)) ≤ B 3 ∧ B 3 ≤ 1000 * (4294967296 * E)) (a4 : -(1000 * (4294967296 * E)) ≤ A 4 ∧ A 4 ≤ 1000 * (4294967296 * E)) (b4 : -(1000 * (4294967296 * E)) ≤ B 4 ∧ B 4 ≤ 1000 * (4294967296 * E)) (a5 : -(1000 * (4294967296 * E)) ≤ A 5 ∧ A 5 ≤ 1000 * (4294967296 * E)) (b5 : -(1000 * (4294967296 * E)) ≤ B 5 ∧ B 5 ≤ 1000 * (4294967296 * E)) (a6 : -(1000 * (4294967296 * E)) ≤ A 6 ∧ A 6 ≤ 1000 * (4294967296 * E)) (b6 : -(1000 * (4294967296 * E)) ≤ B 6 ∧ B 6 ≤ 1000 * (4294967296 * E)) (a7 : -(1000 * (4294967296 * E)) ≤ A 7 ∧ A 7 ≤ 1000 * (4294967296 * E)) (b7 : -(1000 * (4294967296 * E)) ≤ B 7 ∧ B 7 ≤ 1000 * (4294967296 * E)) :
    (-(E * 81129638414606681695789005144064) ≤ SR true 8 2 (fun j => SR false 8 j A B 8) (fun j => SI false 8 j A B 8) 8 - 8 * 81129638414606681695789005144064 * A 2 ∧ SR true 8 2 (fun j => SR false 8 j A B 8) (fun j => SI false 8 j A B 8) 8 - 8 * 81129638414606681695789005144064 * A 2 ≤ E * 81129638414606681695789005144064) ∧
    (-(E * 81129638414606681695789005144064) ≤ SI true 8 2 (fun j => SR false 8 j A B 8) (fun j => SI false 8 j A B 8) 8 - 8 * 81129638414606681695789005144064 * B 2 ∧ SI true 8 2 (fun j => SR false 8 j A B 8) (fun j => SI false 8 j A B 8) 8 - 8 * 81129638414606681695789005144064 * B 2 ≤ E * 81129638414606681695789005144064) := by
  have hE := E_pos
  simp only [SR, SI, if8_0_0, if8_0_1, if8_0_2, if8_0_3, if8_0_4, if8_0_5, if8_0_6, if8_0_7, if8_1_0, if8_1_1, if8_1_2, if8_1_3, if8_1_4, if8_1_5, if8_1_6, if8_1_7, if8_2_0, if8_2_1, if8_2_2, if8_2_3, if8_2_4, if8_2_5, if8_2_6, if8_2_7, if8_3_0, if8_3_1, if8_3_2, if8_3_3, if8_3_4, if8_3_5, if8_3_6, if8_3_7, if8_4_0, if8_4_1, if8_4_2, if8_4_3, if8_4_4, if8_4_5, if8_4_6, if8_4_7, if8_5_0, if8_5_1, if8_5_2, if8_5_3, if8_5_4, if8_5_5, if8_5_6, if8_5_7, if8_6_0, if8_6_1, if8_6_2, if8_6_3, if8_6_4, if8_6_5, if8_6_6, if8_6_7, if8_7_0, if8_7_1, if8_7_2, if8_7_3, if8_7_4, if8_7_5, if8_7_6, if8_7_7, it8_2_0, it8_2_1, it8_2_2, it8_2_3, it8_2_4, it8_2_5, it8_2_6, it8_2_7, c0, s0, c1, s1, c2, s2, c3, s3, c4, s4, c5, s5, c6, s6, c7, s7]
  omega
theorem back8_3 (A B : Nat → Int) (a0 : -(1000 * (4294967296 * E)) ≤ A 0 ∧ A 0 ≤ 1000 * (4294967296 * E)) (b0 : -(1000 * (4294967296 * E)) ≤ B 0 ∧ B 0 ≤ 1000 * (4294967296 * E)) (a1 : -(1000 * (4294967296 * E)) ≤ A 1 ∧ A 1 ≤ 1000 * (4294967296 * E)) (b1 : -(1000 * (4294967296 * E)) ≤ B 1 ∧ B 1 ≤ 1000 * (4294967296 * E)) (a2 : -(1000 * (4294967296 * E)) ≤ A 2 ∧ A 2 ≤ 1000 * (4294967296 * E)) (b2 : -(1000 * (4294967296 * E)) ≤ B 2 ∧ B 2 ≤ 1000 * (4294967296 * E)) (a3 : -(1000 * (4294967296 * E)) ≤ A 3 ∧ A 3 ≤ 1000 * (4294967296 * E)) (b3 : -(1000 * (4294967296 * E)) ≤ B 3 ∧ B 3 ≤ 1000 * (4294967296 * E)) (a4 : -(1000 * (4294967296 * E)) ≤ A 4 ∧ A 4 ≤ 1000 * (4294967296 * E)) (b4 : -(1000 * (4294967296 * E)) ≤ B 4 ∧ B 4 ≤ 1000 * (4294967296 * E)) (a5 : -(1000 * (4294967296 * E)) ≤ A 5 ∧ A 5 ≤ 1000 * (4294967296 * E)) (b5 : -(1000 * (4294967296 * E)) ≤ B 5 ∧ B 5 ≤ 1000 * (4294967296 * E)) (a6 : -(1000 * (4294967296 * E)) ≤ A 6 ∧ A 6 ≤ 1000 * (4294967296 * E)) (b6 : -(1000 * (4294967296 * E)) ≤ B 6 ∧ B 6 ≤ 1000 * (4294967296 * E)) (a7 : -(1000 * (4294967296 * E)) ≤ A 7 ∧ A 7 ≤ 1000 * (4294967296 * E)) (b7 : -(1000 * (4294967296 * E)) ≤ B 7 ∧ B 7 ≤ 1000 * (4294967296 * E)) :
    (-(E * 81129638414606681695789005144064) ≤ SR true 8 3 (fun j => SR false 8 j A B 8) (fun j => SI false 8 j A B 8) 8 - 8 * 81129638414606681695789005144064 * A 3 ∧ SR true 8 3 (fun j => SR false 8 j A B 8) (fun j => SI false 8 j A B 8) 8 - 8 * 81129638414606681695789005144064 * A 3 ≤ E * 81129638414606681695789005144064) ∧
    (-(E * 81129638414606681695789005144064) ≤ SI true 8 3 (fun j => SR false 8 j A B 8) (fun j => SI false 8 j A B 8) 8 - 8 * 81129638414606681695789005144064 * B 3 ∧ SI true 8 3 (fun j => SR false 8 j A B 8) (fun j => SI false 8 j A B 8) 8 - 8 * 81129638414606681695789005144064 * B 3 ≤ E * 81129638414606681695789005144064) := by
  have hE := E_pos
  simp only [SR, SI, if8_0_0, if8_0_1, if8_0_2, if8_0_3, if8_0_4, if8_0_5, if8_0_6, if8_0_7, if8_1_0, if8_1_1, if8_1_2, if8_1_3, if8_1_4, if8_1_5, if8_1_6, if8_1_7, if8_2_0, if8_2_1, if8_2_2, if8_2_3, if8_2_4, if8_2_5, if8_2_6, if8_2_7, if8_3_0, if8_3_1, if8_3_2, if8_3_3, if8_3_4, if8_3_5, if8_3_6, if8_3_7, if8_4_0, if8_4_1, if8_4_2, if8_4_3, if8_4_4, if8_4_5, if8_4_6, if8_4_7, if8_5_0, if8_5_1, if8_5_2, if8_5_3, if8_5_4, if8_5_5, if8_5_6, if8_5_7, if8_6_0, if8_6_1, if8_6_2, if8_6_3, if8_6_4, if8_6_5, if8_6_6, if8_6_7, if8_7_0, if8_7_1, if8_7_2, if8_7_3, if8_7_4, if8_7_5, if8_7_6, if8_7_7, it8_3_0, it8_3_1, it8_3_2, it8_3_3, it8_3_4, it8_3_5, it8_3_6, it8_3_7, c0, s0, c1, s1, c2, s2, c3, s3, c4, s4, c5, s5, c6, s6, c7, s7]
  omega
theorem back8_4 (A B : Nat → Int) (a0 : -(1000 * (4294967296 * E)) ≤ A 0 ∧ A 0 ≤ 1000 * (4294967296 * E)) (b0 : -(1000 * (4294967296 * E)) ≤ B 0 ∧ B 0 ≤ 1000 * (4294967296 * E)) (a1 : -(1000 * (4294967296 * E)) ≤ A 1 ∧ A 1 ≤ 1000 * (4294967296 * E)) (b1 : -(1000 * (4294967296 * E)) ≤ B 1 ∧ B 1 ≤ 1000 * (4294967296 * E)) (a2 : -(1000 * (4294967296 * E)) ≤ A 2 ∧ A 2 ≤ 1000 * (4294967296 * E)) (b2 : -(1000 * (4294967296 * E)) ≤ B 2 ∧ B 2 ≤ 1000 * (4294967296 * E)) (a3 : -(1000 * (4294967296 * E)) ≤ A 3 ∧ A 3 ≤ 1000 * (4294967296 * E)) (b3 : -(1000 * (4294967296 * E)) ≤ B 3 ∧ B 3 ≤ 1000 * (4294967296 * E)) (a4 : -(1000 * (4294967296 * E)) ≤ A 4 ∧ A 4 ≤ 1000 * (4294967296 * E)) (b4 : -(1000 * (4294967296 * E)) ≤ B 4 ∧ B 4 ≤ 1000 * (4294967296 * E)) (a5 : -(1000 * (4294967296 * E)) ≤ A 5 ∧ A 5 ≤ 1000 * (4294967296 * E)) (b5 : -(1000 * (4294967296 * E)) ≤ B 5 ∧ B 5 ≤ 1000 * (4294967296 * E)) (a6 : -(1000 * (4294967296 * E)) ≤ A 6 ∧ A 6 ≤ 1000 * (4294967296 * E)) (b6 : -(1000 * (4294967296 * E)) ≤ B 6 ∧ B 6 ≤ 1000 * (4294967296 * E)) (a7 : -(1000 * (4294967296 * E)) ≤ A 7 ∧ A 7 ≤ 1000 * (4294967296 * E)) (b7 : -(1000 * (4294967296 * E)) ≤ B 7 ∧ B 7 ≤ 1000 * (4294967296 * E)) :
    (-(E * 81129638414606681695789005144064) ≤ SR true 8 4 (fun j => SR false 8 j A B 8) (fun j => SI false 8 j A B 8) 8 - 8 * 81129638414606681695789005144064 * A 4 ∧ SR true 8 4 (fun j => SR false 8 j A B 8) (fun j => SI false 8 j A B 8) 8 - 8 * 81129638414606681695789005144064 * A 4 ≤ E * 81129638414606681695789005144064) ∧
    (-(E * 81129638414606681695789005144064) ≤ SI true 8 4 (fun j => SR false 8 j A B 8) (fun j => SI false 8 j A B 8) 8 - 8 * 81129638414606681695789005144064 * B 4 ∧ SI true 8 4 (fun j => SR false 8 j A B 8) (fun j => SI false 8 j A B 8) 8 - 8 * 81129638414606681695789005144064 * B 4 ≤ E * 81129638414606681695789005144064) := by
  have hE := E_pos
  simp only [SR, SI, if8_0_0, if8_0_1, if8_0_2, if8_0_3, if8_0_4, if8_0_5, if8_0_6, if8_0_7, if8_1_0, if8_1_1, if8_1_2, if8_1_3, if8_1_4, if8_1_5, if8_1_6, if8_1_7, if8_2_0, if8_2_1, if8_2_2, if8_2_3, if8_2_4, if8_2_5, if8_2_6, if8_2_7, if8_3_0, if8_3_1, if8_3_2, if8_3_3, if8_3_4, if8_3_5, if8_3_6, if8_3_7, if8_4_0, if8_4_1, if8_4_2, if8_4_3, if8_4_4, if8_4_5, if8_4_6, if8_4_7, if8_5_0, if8_5_1, if8_5_2, if8_5_3, if8_5_4, if8_5_5, if8_5_6, if8_5_7, if8_6_0, if8_6_1, if8_6_2, if8_6_3, if8_6_4, if8_6_5, if8_6_6, if8_6_7, if8_7_0, if8_7_1, if8_7_2, if8_7_3, if8_7_4, if8_7_5, if8_7_6, if8_7_7, it8_4_0, it8_4_1, it8_4_2, it8_4_3, it8_4_4, it8_4_5, it8_4_6, it8_4_7, c0, s0, c1, s1, c2, s2, c3, s3, c4, s4, c5, s5, c6, s6, c7, s7]
  omega
theorem back8_5 (A B : Nat → Int) (a0 : -(1000 * (4294967296 * E)) ≤ A 0 ∧ A 0 ≤ 1000 * (4294967296 * E)) (b0 : -(1000 * (4294967296 * E)) ≤ B 0 ∧ B 0 ≤ 1000 * (4294967296 * E)) (a1 : -(1000 * (4294967296 * E)) ≤ A 1 ∧ A 1 ≤ 1000 * (4294967296 * E)) (b1 : -(1000 * (4294967296 * E)) ≤ B 1 ∧ B 1 ≤ 1000 * (4294967296 * E)) (a2 : -(1000 * (4294967296 * E)) ≤ A 2 ∧ A 2 ≤ 1000 * (4294967296 * E)) (b2 : -(1000 * (4294967296 * E)) ≤ B 2 ∧ B 2 ≤ 1000 * (4294967296 * E)) (a3 : -(1000 * (4294967296 * E)) ≤ A 3 ∧ A 3 ≤ 1000 * (4294967296 * E)) (b3 : -(1000 * (4294967296 * E)) ≤ B 3 ∧ B 3 ≤ 1000 * (4294967296 * E)) (a4 : -(1000 * (4294967296 * E)) ≤ A 4 ∧ A 4 ≤ 1000 * (4294967296 * E)) (b4 : -(1000 * (4294967296 * E)) ≤ B 4 ∧ B 4 ≤ 1000 * (4294967296 * E)) (a5 : -(1000 * (4294967296 * E)) ≤ A 5 ∧ A 5 ≤ 1000 * (4294967296 * E)) (b5 : -(1000 * (4294967296 * E)) ≤ B 5 ∧ B 5 ≤ 1000 * (4294967296 * E)) (a6 : -(1000 * (4294967296 * E)) ≤ A 6 ∧ A 6 ≤ 1000 * (4294967296 * E)) (b6 : -(1000 * (4294967296 * E)) ≤ B 6 ∧ B 6 ≤ 1000 * (4294967296 * E)) (a7 : -(1000 * (4294967296 * E)) ≤ A 7 ∧ A 7 ≤ 1000 * (4294967296 * E)) (b7 : -(1000 * (4294967296 * E)) ≤ B 7 ∧ B 7 ≤ 1000 * (4294967296 * E)) :
    (-(E * 81129638414606681695789005144064) ≤ SR true 8 5 (fun j => SR false 8 j A B 8) (fun j => SI false 8 j A B 8) 8 - 8 * 81129638414606681695789005144064 * A 5 ∧ SR true 8 5 (fun j => SR false 8 j A B 8) (fun j => SI false 8 j A B 8) 8 - 8 * 81129638414606681695789005144064 * A 5 ≤ E * 81129638414606681695789005144064) ∧
    (-(E * 81129638414606681695789005144064) ≤ SI true 8 5 (fun j => SR false 8 j A B 8) (fun j => SI false 8 j A B 8) 8 - 8 * 81129638414606681695789005144064 * B 5 ∧ SI true 8 5 (fun j => SR false 8 j A B 8) (fun j => SI false 8 j A B 8) 8 - 8 * 81129638414606681695789005144064 * B 5 ≤ E * 81129638414606681695789005144064) := by
  have hE := E_pos
  simp only [SR, SI, if8_0_0, if8_0_1, if8_0_2, if8_0_3, if8_0_4, if8_0_5, if8_0_6, if8_0_7, if8_1_0, if8_1_1, if8_1_2, if8_1_3, if8_1_4, if8_1_5, if8_1_6, if8_1_7, if8_2_0, if8_2_1, if8_2_2, if8_2_3, if8_2_4, if8_2_5, if8_2_6, if8_2_7, if8_3_0, if8_3_1, if8_3_2, if8_3_3, if8_3_4, if8_3_5, if8_3_6, if8_3_7, if8_4_0, if8_4_1, if8_4_2, if8_4_3, if8_4_4, if8_4_5, if8_4_6, if8_4_7, if8_5_0, if8_5_1, if8_5_2, if8_5_3, if8_5_4, if8_5_5, if8_5_6, if8_5_7, if8_6_0, if8_6_1, if8_6_2, if8_6_3, if8_6_4, if8_6_5, if8_6_6, if8_6_7, if8_7_0, if8_7_1, if8_7_2, if8_7_3, if8_7_4, if8_7_5, if8_7_6, if8_7_7, it8_5_0, it8_5_1, it8_5_2, it8_5_3, it8_5_4, it8_5_5, it8_5_6, it8_5_7, c0, s0, c1, s1, c2, s2, c3, s3, c4, s4, c5, s5, c6, s6, c7, s7]
  omega
theorem back8_6 (A B : Nat → Int) (a0 : -(1000 * (4294967296 * E)) ≤ A 0 ∧ A 0 ≤ 1000 * (4294967296 * E)) (b0 : -(1000 * (4294967296 * E)) ≤ B 0 ∧ B 0 ≤ 1000 * (4294967296 * E)) (a1 : -(1000 * (4294967296 * E)) ≤ A 1 ∧ A 1 ≤ 1000 * (4294967296 * E)) (b1 : -(1000 * (4294967296 * E)) ≤ B 1 ∧ B 1 ≤ 1000 * (4294967296 * E)) (a2 : -(1000 * (4294967296 * E)) ≤ A 2 ∧ A 2 ≤ 1000 * (4294967296 * E)) (b2 : -(1000 * (4294967296 * E)) ≤ B 2 ∧ B 2 ≤ 1000 * (4294967296 * E)) (a3 : -(1000 * (4294967296 * E)) ≤ A 3 ∧ A 3 ≤ 1000 * (4294967296 * E)) (b3 : -(1000 * (4294967296 * E)) ≤ B 3 ∧ B 3 ≤ 1000 * (4294967296 * E)) (a4 : -(1000 * (4294967296 * E)) ≤ A 4 ∧ A 4 ≤ 1000 * (4294967296 * E)) (b4 : -(1000 * (4294967296 * E)) ≤ B 4 ∧ B 4 ≤ 1000 * (4294967296 * E)) (a5 : -(1000 * (4294967296 * E)) ≤ A 5 ∧ A 5 ≤ 1000 * (4294967296 * E)) (b5 : -(1000 * (4294967296 * E)) ≤ B 5 ∧ B 5 ≤ 1000 * (4294967296 * E)) (a6 : -(1000 * (4294967296 * E)) ≤ A 6 ∧ A 6 ≤ 1000 * (4294967296 * E)) (b6 : -(1000 * (4294967296 * E)) ≤ B 6 ∧ B 6 ≤ 1000 * (4294967296 * E)) (a7 : -(1000 * (4294967296 * E)) ≤ A 7 ∧ A 7 ≤ 1000 * (4294967296 * E)) (b7 : -(1000 * (4294967296 * E)) ≤ B 7 ∧ B 7 ≤ 1000 * (4294967296 * E)) :
    (-(E * 81129638414606681695789005144064) ≤ SR true 8 6 (fun j => SR false 8 j A B 8) (fun j => SI false 8 j A B 8) 8 - 8 * 81129638414606681695789005144064 * A 6 ∧ SR true 8 6 (fun j => SR false 8 j A B 8) (fun j => SI false 8 j A B 8) 8 - 8 * 81129638414606681695789005144064 * A 6 ≤ E * 81129638414606681695789005144064) ∧
    (-(E * 81129638414606681695789005144064) ≤ SI true 8 6 (fun j => SR false 8 j A B 8) (fun j => SI false 8 j A B 8) 8 - 8 * 81129638414606681695789005144064 * B 6 ∧ SI true 8 6 (fun j => SR false 8 j A B 8) (fun j => SI false 8 j A B 8) 8 - 8 * 81129638414606681695789005144064 * B 6 ≤ E * 81129638414606681695789005144064) := by
  have hE := E_pos
  simp only [SR, SI, if8_0_0, if8_0_1, if8_0_2, if8_0_3, if8_0_4, if8_0_5, if8_0_6, if8_0_7, if8_1_0, if8_1_1, if8_1_2, if8_1_3, if8_1_4, if8_1_5, if8_1_6, if8_1_7, if8_2_0, if8_2_1, if8_2_2, if8_2_3, if8_2_4, if8_2_5, if8_2_6, if8_2_7, if8_3_0, if8_3_1, if8_3_2, if8_3_3, if8_3_4, if8_3_5, if8_3_6, if8_3_7, if8_4_0, if8_4_1, if8_4_2, if8_4_3, if8_4_4, if8_4_5, if8_4_6, if8_4_7, if8_5_0, if8_5_1, if8_5_2, if8_5_3, if8_5_4, if8_5_5, if8_5_6, if8_5_7, if8_6_0, if8_6_1, if8_6_2, if8_6_3, if8_6_4, if8_6_5, if8_6_6, if8_6_7, if8_7_0, if8_7_1, if8_7_2, if8_7_3, if8_7_4, if8_7_5, if8_7_6, if8_7_7, it8_6_0, it8_6_1, it8_6_2, it8_6_3, it8_6_4, it8_6_5, it8_6_6, it8_6_7, c0, s0, c1, s1, c2, s2, c3, s3, c4, s4, c5, s5, c6, s6, c7, s7]
  omega
theorem back8_7 (A B : Nat → Int) (a0 : -(1000 * (4294967296 * E)) ≤ A 0 ∧ A 0 ≤ 1000 * (4294967296 * E)) (b0 : -(1000 * (4294967296 * E)) ≤ B 0 ∧ B 0 ≤ 1000 * (4294967296 * E)) (a1 : -(1000 * (4294967296 * E)) ≤ A 1 ∧ A 1 ≤ 1000 * (4294967296 * E)) (b1 : -(1000 * (4294967296 * E)) ≤ B 1 ∧ B 1 ≤ 1000 * (4294967296 * E)) (a2 : -(1000 * (4294967296 * E)) ≤ A 2 ∧ A 2 ≤ 1000 * (4294967296 * E)) (b2 : -(1000 * (4294967296 * E)) ≤ B 2 ∧ B 2 ≤ 1000 * (4294967296 * E)) (a3 : -(1000 * (4294967296 * E)) ≤ A 3 ∧ A 3 ≤ 1000 * (4294967296 * E)) (b3 : -(1000 * (4294967296 * E)) ≤ B 3 ∧ B 3 ≤ 1000 * (4294967296 * E)) (a4 : -(1000 * (4294967296 * E)) ≤ A 4 ∧ A 4 ≤ 1000 * (4294967296 * E)) (b4 : -(1000 * (4294967296 * E)) ≤ B 4 ∧ B 4 ≤ 1000 * (4294967296 * E)) (a5 : -(1000 * (4294967296 * E)) ≤ A 5 ∧ A 5 ≤ 1000 * (4294967296 * E)) (b5 : -(1000 * (4294967296 * E)) ≤ B 5 ∧ B 5 ≤ 1000 * (4294967296 * E)) (a6 : -(1000 * (4294967296 * E)) ≤ A 6 ∧ A 6 ≤ 1000 * (4294967296 * E)) (b6 : -(1000 * (4294967296 * E)) ≤ B 6 ∧ B 6 ≤ 1000 * (4294967296 * E)) (a7 : -(1000 * (4294967296 * E)) ≤ A 7 ∧ A 7 ≤ 1000 * (4294967296 * E)) (b7 : -(1000 * (4294967296 * E)) ≤ B 7 ∧ B 7 ≤ 1000 * (4294967296 * E)) :
    (-(E * 81129638414606681695789005144064) ≤ SR true 8 7 (fun j => SR false 8 j A B 8) (fun j => SI false 8 j A B 8) 8 - 8 * 81129638414606681695789005144064 * A 7 ∧ SR true 8 7 (fun j => SR false 8 j A B 8) (fun j => SI false 8 j A B 8) 8 - 8 * 81129638414606681695789005144064 * A 7 ≤ E * 81129638414606681695789005144064) ∧
    (-(E * 81129638414606681695789005144064) ≤ SI true 8 7 (fun j => SR false 8 j A B 8) (fun j => SI false 8 j A B 8) 8 - 8 * 81129638414606681695789005144064 * B 7 ∧ SI true 8 7 (fun j => SR false 8 j A B 8) (fun j => SI false 8 j A B 8) 8 - 8 * 81129638414606681695789005144064 * B 7 ≤ E * 81129638414606681695789005144064) := by
  have hE := E_pos
  simp only [SR, SI, if8_0_0, if8_0_1, if8_0_2, if8_0_3, if8_0_4, if8_0_5, if8_0_6, if8_0_7, if8_1_0, if8_1_1, if8_1_2, if8_1_3, if8_1_4, if8_1_5, if8_1_6, if8_1_7, if8_2_0, if8_2_1, if8_2_2, if8_2_3, if8_2_4, if8_2_5, if8_2_6, if8_2_7, if8_3_0, if8_3_1, if8_3_2, if8_3_3, if8_3_4, if8_3_5, if8_3_6, if8_3_7, if8_4_0, if8_4_1, if8_4_2, if8_4_3, if8_4_4, if8_4_5, if8_4_6, if8_4_7, if8_5_0, if8_5_1, if8_5_2, if8_5_3, if8_5_4, if8_5_5, if8_5_6, if8_5_7, if8_6_0, if8_6_1, if8_6_2, if8_6_3, if8_6_4, if8_6_5, if8_6_6, if8_6_7, if8_7_0, if8_7_1, if8_7_2, if8_7_3, if8_7_4, if8_7_5, if8_7_6, if8_7_7, it8_7_0, it8_7_1, it8_7_2, it8_7_3, it8_7_4, it8_7_5, it8_7_6, it8_7_7, c0, s0, c1, s1, c2, s2, c3, s3, c4, s4, c5, s5, c6, s6, c7, s7]
  omega
end Go.Proofs.YtnldjdpophkkcaaDoor.WavesPure
