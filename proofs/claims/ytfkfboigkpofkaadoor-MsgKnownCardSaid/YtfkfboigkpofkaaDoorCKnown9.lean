/- Parts of a proof, pruned and joined by flat.py out of: KA, KB, KC. -/
import Derived.Test.YtfkfboigkpofkaaDoorCKnown8
section
namespace Go.Proofs.YtfkfboigkpofkaaDoor.M
open Go.RowKit Go.Proofs.YtfkfboigkpofkaaDoorW.PrintWords Go.Proofs.YtfkfboigkpofkaaDoorW.PrintLast Go.Proofs.YtfkfboigkpofkaaDoorW.PrintMore Go.Proofs.YtfkfboigkpofkaaDoor.PMsgPuts
set_option linter.unusedVariables false
set_option linter.unusedSimpArgs false
def rowM : Nat → Mg
  | 0 => ⟨1, 2, 1, 0, 0, 0, [], [], []⟩
  | 1 => ⟨2, 2, 1, 0, 0, 0, [], [], []⟩
  | 2 => ⟨3, 2, 1, 0, 0, 0, [], [], []⟩
  | 3 => ⟨4, 2, 1, 1, 0, 0, [], [], []⟩
  | 4 => ⟨5, 2, 1, 5, 7, 0, [], [], []⟩
  | 5 => ⟨6, 0, 0, 3, 0, 0, [], [], []⟩
  | 6 => ⟨7, 0, 0, 3, 0, 0, [], [[120]], []⟩
  | 7 => ⟨8, 0, 0, 3, 0, 0, [], [], [115]⟩
  | 8 => ⟨2, 1, 0, 0, 0, 4, [⟨6, ⟨1, 2⟩, [121]⟩], [], []⟩
  | 9 => ⟨7, 0, 0, 18446744073709551615, 0, 0, [], [[120]], []⟩
  | 10 => ⟨5, 0, 0, 5, 5, 0, [], [], []⟩
  | 11 => ⟨0, 0, 0, 0, 0, 0, [], [], []⟩
  | 12 => ⟨9, 0, 0, 0, 0, 0, [], [], []⟩
  | 13 => ⟨1, 0, 7, 0, 0, 0, [], [], []⟩
  | 14 => ⟨1, 0, -1, 0, 0, 0, [], [], []⟩
  | 15 => ⟨6, 0, 0, 0, 0, 0, [], [], []⟩
  | 16 => ⟨6, 2, 1, 1, 0, 0, [], [], []⟩
  | 17 => ⟨6, 0, 0, 1, 1, 0, [], [], []⟩
  | 18 => ⟨6, 0, 0, 1, 0, 1, [], [], []⟩
  | 19 => ⟨5, 0, 0, 5, 4, 0, [], [], []⟩
  | 20 => ⟨7, 0, 0, 1, 0, 0, [], [], []⟩
  | 21 => ⟨7, 0, 0, 18446744073709551615, 0, 0, [], [[], []], []⟩
  | 22 => ⟨1, 0, 0, 1, 0, 0, [], [], []⟩
  | 23 => ⟨1, 0, 0, 0, 0, 0, [], [], [115]⟩
  | 24 => ⟨1, 0, 0, 0, 0, 0, [], [[120]], []⟩
  | 25 => ⟨1, 0, 0, 0, 0, 0, [⟨0, ⟨0, 0⟩, []⟩], [], []⟩
  | 26 => ⟨2, 0, 0, 0, 0, 6, [⟨6, ⟨0, 0⟩, []⟩], [], []⟩
  | 27 => ⟨2, 0, 0, 0, 0, 0, [⟨6, ⟨0, 0⟩, []⟩, ⟨6, ⟨0, 0⟩, []⟩], [], []⟩
  | 28 => ⟨2, 0, 0, 0, 0, 0, [⟨6, ⟨0, 7⟩, []⟩], [], []⟩
  | 29 => ⟨4, 0, 0, 1, 0, 0, [], List.replicate 17 [], []⟩
  | _ => m0 0
def rowK : Nat → Nat
  | 0 => 1
  | 1 => 2
  | 2 => 3
  | 3 => 4
  | 4 => 5
  | 5 => 6
  | 6 => 7
  | 7 => 8
  | 8 => 2
  | 9 => 7
  | 10 => 5
  | 11 => 0
  | 12 => 9
  | 13 => 1
  | 14 => 1
  | 15 => 6
  | 16 => 6
  | 17 => 6
  | 18 => 6
  | 19 => 5
  | 20 => 7
  | 21 => 7
  | 22 => 1
  | 23 => 1
  | 24 => 1
  | 25 => 1
  | 26 => 2
  | 27 => 2
  | 28 => 2
  | 29 => 4
  | _ => 0
def rowI : Nat → List Int
  | 0 => [1, 2, 1]
  | 1 => [2, 2, 1, 0, 0]
  | 2 => [3, 2, 1]
  | 3 => [4, 2, 1, 0, 1, 0]
  | 4 => [5, 2, 1, 5, 7]
  | 5 => [6, 3]
  | 6 => [7, 3, 1, 1, 120]
  | 7 => [8, 3, 1, 115]
  | 8 => [2, 1, 0, 4, 1, 6, 1, 2, 1, 121]
  | 9 => [7, 255, 255, 255, 255, 255, 255, 255, 255, 255, 1, 1, 1, 120]
  | 10 => [5, 0, 0, 5, 5]
  | _ => []
theorem uv_big {n : Nat} (h : ¬ n < 128) : uv n = ((n % 128 + 128 : Nat) : Int) :: uv (n / 128) := by rw [uv, if_neg h]
theorem uv_far : uv 18446744073709551615 = [255, 255, 255, 255, 255, 255, 255, 255, 255, 1] := by
  rw [uv_big (by decide), show (18446744073709551615 / 128 : Nat) = 144115188075855871 from rfl, uv_big (by decide), show (144115188075855871 / 128 : Nat) = 1125899906842623 from rfl, uv_big (by decide), show (1125899906842623 / 128 : Nat) = 8796093022207 from rfl, uv_big (by decide), show (8796093022207 / 128 : Nat) = 68719476735 from rfl, uv_big (by decide), show (68719476735 / 128 : Nat) = 536870911 from rfl, uv_big (by decide), show (536870911 / 128 : Nat) = 4194303 from rfl, uv_big (by decide), show (4194303 / 128 : Nat) = 32767 from rfl, uv_big (by decide), show (32767 / 128 : Nat) = 255 from rfl, uv_big (by decide), show (255 / 128 : Nat) = 1 from rfl, uv_small (by decide)]
  rfl
theorem uvI_far : uvI 18446744073709551615 = [255, 255, 255, 255, 255, 255, 255, 255, 255, 1] := uv_far
theorem fld1 : fldI 1 = [98] := rfl
theorem fld2 : fldI 2 = [98, 99, 118] := rfl
theorem fld3 : fldI 3 = [98] := rfl
theorem fld4 : fldI 4 = [98, 99, 102, 115] := rfl
theorem fld5 : fldI 5 = [98, 102, 108] := rfl
theorem fld6 : fldI 6 = [102] := rfl
theorem fld7 : fldI 7 = [102, 115] := rfl
theorem fld8 : fldI 8 = [102, 112] := rfl
theorem sz1 : (strOfNums [120]).size = 1 := rfl
theorem sz2 : (strOfNums [115]).size = 1 := rfl
theorem sz3 : (strOfNums [121]).size = 1 := rfl
theorem by1 : bytesOf (strOfNums [120]) = [120] := rfl
theorem by2 : bytesOf (strOfNums [115]) = [115] := rfl
theorem by3 : bytesOf (strOfNums [121]) = [121] := rfl
theorem wr64_0 : IntKind.u64.wrap 0 = 0 := rfl
theorem wr64_1 : IntKind.u64.wrap 1 = 1 := rfl
theorem wr64_2 : IntKind.u64.wrap 2 = 2 := rfl
theorem uvI_0 : uvI 0 = [0] := uvI_small (by decide) (by decide)
theorem uvI_1 : uvI 1 = [1] := uvI_small (by decide) (by decide)
theorem uvI_2 : uvI 2 = [2] := uvI_small (by decide) (by decide)
theorem uvI_3 : uvI 3 = [3] := uvI_small (by decide) (by decide)
theorem uvI_4 : uvI 4 = [4] := uvI_small (by decide) (by decide)
theorem uvI_5 : uvI 5 = [5] := uvI_small (by decide) (by decide)
theorem uvI_6 : uvI 6 = [6] := uvI_small (by decide) (by decide)
theorem uvI_7 : uvI 7 = [7] := uvI_small (by decide) (by decide)
theorem uvI_8 : uvI 8 = [8] := uvI_small (by decide) (by decide)
theorem chk0 : checkM (rowM 0) (rowK 0) = true := by kernel_rfl
theorem chk1 : checkM (rowM 1) (rowK 1) = true := by kernel_rfl
theorem chk2 : checkM (rowM 2) (rowK 2) = true := by kernel_rfl
theorem chk3 : checkM (rowM 3) (rowK 3) = true := by kernel_rfl
theorem chk4 : checkM (rowM 4) (rowK 4) = true := by kernel_rfl
theorem chk5 : checkM (rowM 5) (rowK 5) = true := by kernel_rfl
theorem chk6 : checkM (rowM 6) (rowK 6) = true := by kernel_rfl
theorem chk7 : checkM (rowM 7) (rowK 7) = true := by kernel_rfl
theorem chk8 : checkM (rowM 8) (rowK 8) = true := by kernel_rfl
theorem chk9 : checkM (rowM 9) (rowK 9) = true := by kernel_rfl
theorem chk10 : checkM (rowM 10) (rowK 10) = true := by kernel_rfl
theorem chk11 : checkM (rowM 11) (rowK 11) = false := by kernel_rfl
theorem chk12 : checkM (rowM 12) (rowK 12) = false := by kernel_rfl
theorem chk13 : checkM (rowM 13) (rowK 13) = false := by kernel_rfl
theorem chk14 : checkM (rowM 14) (rowK 14) = false := by kernel_rfl
theorem chk15 : checkM (rowM 15) (rowK 15) = false := by kernel_rfl
theorem chk16 : checkM (rowM 16) (rowK 16) = false := by kernel_rfl
theorem chk17 : checkM (rowM 17) (rowK 17) = false := by kernel_rfl
theorem chk18 : checkM (rowM 18) (rowK 18) = false := by kernel_rfl
theorem chk19 : checkM (rowM 19) (rowK 19) = false := by kernel_rfl
theorem chk20 : checkM (rowM 20) (rowK 20) = false := by kernel_rfl
theorem chk21 : checkM (rowM 21) (rowK 21) = false := by kernel_rfl
theorem chk22 : checkM (rowM 22) (rowK 22) = false := by kernel_rfl
theorem chk23 : checkM (rowM 23) (rowK 23) = false := by kernel_rfl
theorem chk24 : checkM (rowM 24) (rowK 24) = false := by kernel_rfl
theorem chk25 : checkM (rowM 25) (rowK 25) = false := by kernel_rfl
theorem chk26 : checkM (rowM 26) (rowK 26) = false := by kernel_rfl
theorem chk27 : checkM (rowM 27) (rowK 27) = false := by kernel_rfl
theorem chk28 : checkM (rowM 28) (rowK 28) = false := by kernel_rfl
theorem chk29 : checkM (rowM 29) (rowK 29) = false := by kernel_rfl
theorem bod0 : bodyB (rowM 0) (rowK 0) = rowI 0 := by
  unfold bodyB layB
  rw [show rowK 0 = 1 from rfl, fld1]
  simp only [List.flatMap_cons, List.flatMap_nil, layF, rowB, rowV, voteB, textL, textB, rowM, rowI]
  simp [uvI_far, sz1, sz2, sz3, by1, by2, by3, wr64_0, wr64_1, wr64_2, uvI_0, uvI_1, uvI_2, uvI_3, uvI_4, uvI_5, uvI_6, uvI_7, uvI_8]
theorem bod1 : bodyB (rowM 1) (rowK 1) = rowI 1 := by
  unfold bodyB layB
  rw [show rowK 1 = 2 from rfl, fld2]
  simp only [List.flatMap_cons, List.flatMap_nil, layF, rowB, rowV, voteB, textL, textB, rowM, rowI]
  simp [uvI_far, sz1, sz2, sz3, by1, by2, by3, wr64_0, wr64_1, wr64_2, uvI_0, uvI_1, uvI_2, uvI_3, uvI_4, uvI_5, uvI_6, uvI_7, uvI_8]
theorem bod2 : bodyB (rowM 2) (rowK 2) = rowI 2 := by
  unfold bodyB layB
  rw [show rowK 2 = 3 from rfl, fld3]
  simp only [List.flatMap_cons, List.flatMap_nil, layF, rowB, rowV, voteB, textL, textB, rowM, rowI]
  simp [uvI_far, sz1, sz2, sz3, by1, by2, by3, wr64_0, wr64_1, wr64_2, uvI_0, uvI_1, uvI_2, uvI_3, uvI_4, uvI_5, uvI_6, uvI_7, uvI_8]
theorem bod3 : bodyB (rowM 3) (rowK 3) = rowI 3 := by
  unfold bodyB layB
  rw [show rowK 3 = 4 from rfl, fld4]
  simp only [List.flatMap_cons, List.flatMap_nil, layF, rowB, rowV, voteB, textL, textB, rowM, rowI]
  simp [uvI_far, sz1, sz2, sz3, by1, by2, by3, wr64_0, wr64_1, wr64_2, uvI_0, uvI_1, uvI_2, uvI_3, uvI_4, uvI_5, uvI_6, uvI_7, uvI_8]
theorem bod4 : bodyB (rowM 4) (rowK 4) = rowI 4 := by
  unfold bodyB layB
  rw [show rowK 4 = 5 from rfl, fld5]
  simp only [List.flatMap_cons, List.flatMap_nil, layF, rowB, rowV, voteB, textL, textB, rowM, rowI]
  simp [uvI_far, sz1, sz2, sz3, by1, by2, by3, wr64_0, wr64_1, wr64_2, uvI_0, uvI_1, uvI_2, uvI_3, uvI_4, uvI_5, uvI_6, uvI_7, uvI_8]
theorem bod5 : bodyB (rowM 5) (rowK 5) = rowI 5 := by
  unfold bodyB layB
  rw [show rowK 5 = 6 from rfl, fld6]
  simp only [List.flatMap_cons, List.flatMap_nil, layF, rowB, rowV, voteB, textL, textB, rowM, rowI]
  simp [uvI_far, sz1, sz2, sz3, by1, by2, by3, wr64_0, wr64_1, wr64_2, uvI_0, uvI_1, uvI_2, uvI_3, uvI_4, uvI_5, uvI_6, uvI_7, uvI_8]
theorem bod6 : bodyB (rowM 6) (rowK 6) = rowI 6 := by
  unfold bodyB layB
  rw [show rowK 6 = 7 from rfl, fld7]
  simp only [List.flatMap_cons, List.flatMap_nil, layF, rowB, rowV, voteB, textL, textB, rowM, rowI]
  simp [uvI_far, sz1, sz2, sz3, by1, by2, by3, wr64_0, wr64_1, wr64_2, uvI_0, uvI_1, uvI_2, uvI_3, uvI_4, uvI_5, uvI_6, uvI_7, uvI_8]
theorem bod7 : bodyB (rowM 7) (rowK 7) = rowI 7 := by
  unfold bodyB layB
  rw [show rowK 7 = 8 from rfl, fld8]
  simp only [List.flatMap_cons, List.flatMap_nil, layF, rowB, rowV, voteB, textL, textB, rowM, rowI]
  simp [uvI_far, sz1, sz2, sz3, by1, by2, by3, wr64_0, wr64_1, wr64_2, uvI_0, uvI_1, uvI_2, uvI_3, uvI_4, uvI_5, uvI_6, uvI_7, uvI_8]
theorem bod8 : bodyB (rowM 8) (rowK 8) = rowI 8 := by
  unfold bodyB layB
  rw [show rowK 8 = 2 from rfl, fld2]
  simp only [List.flatMap_cons, List.flatMap_nil, layF, rowB, rowV, voteB, textL, textB, rowM, rowI]
  simp [uvI_far, sz1, sz2, sz3, by1, by2, by3, wr64_0, wr64_1, wr64_2, uvI_0, uvI_1, uvI_2, uvI_3, uvI_4, uvI_5, uvI_6, uvI_7, uvI_8]
theorem bod9 : bodyB (rowM 9) (rowK 9) = rowI 9 := by
  unfold bodyB layB
  rw [show rowK 9 = 7 from rfl, fld7]
  simp only [List.flatMap_cons, List.flatMap_nil, layF, rowB, rowV, voteB, textL, textB, rowM, rowI]
  simp [uvI_far, sz1, sz2, sz3, by1, by2, by3, wr64_0, wr64_1, wr64_2, uvI_0, uvI_1, uvI_2, uvI_3, uvI_4, uvI_5, uvI_6, uvI_7, uvI_8]
theorem bod10 : bodyB (rowM 10) (rowK 10) = rowI 10 := by
  unfold bodyB layB
  rw [show rowK 10 = 5 from rfl, fld5]
  simp only [List.flatMap_cons, List.flatMap_nil, layF, rowB, rowV, voteB, textL, textB, rowM, rowI]
  simp [uvI_far, sz1, sz2, sz3, by1, by2, by3, wr64_0, wr64_1, wr64_2, uvI_0, uvI_1, uvI_2, uvI_3, uvI_4, uvI_5, uvI_6, uvI_7, uvI_8]
theorem row_chk : ∀ j : Nat, j < 30 → checkM (rowM j) (rowK j) = !(rowI j).isEmpty := by
  intro j hj
  match j, hj with
  | 0, _ => exact chk0
  | 1, _ => exact chk1
  | 2, _ => exact chk2
  | 3, _ => exact chk3
  | 4, _ => exact chk4
  | 5, _ => exact chk5
  | 6, _ => exact chk6
  | 7, _ => exact chk7
  | 8, _ => exact chk8
  | 9, _ => exact chk9
  | 10, _ => exact chk10
  | 11, _ => exact chk11
  | 12, _ => exact chk12
  | 13, _ => exact chk13
  | 14, _ => exact chk14
  | 15, _ => exact chk15
  | 16, _ => exact chk16
  | 17, _ => exact chk17
  | 18, _ => exact chk18
  | 19, _ => exact chk19
  | 20, _ => exact chk20
  | 21, _ => exact chk21
  | 22, _ => exact chk22
  | 23, _ => exact chk23
  | 24, _ => exact chk24
  | 25, _ => exact chk25
  | 26, _ => exact chk26
  | 27, _ => exact chk27
  | 28, _ => exact chk28
  | 29, _ => exact chk29
  | n + 30, h => exact absurd h (by omega)
theorem row_bod : ∀ j : Nat, j < 30 → (rowI j).isEmpty = false → bodyB (rowM j) (rowK j) = rowI j := by
  intro j hj h
  match j, hj, h with
  | 0, _, _ => exact bod0
  | 1, _, _ => exact bod1
  | 2, _, _ => exact bod2
  | 3, _, _ => exact bod3
  | 4, _, _ => exact bod4
  | 5, _, _ => exact bod5
  | 6, _, _ => exact bod6
  | 7, _, _ => exact bod7
  | 8, _, _ => exact bod8
  | 9, _, _ => exact bod9
  | 10, _, _ => exact bod10
  | 11, _, h => exact absurd h (by decide)
  | 12, _, h => exact absurd h (by decide)
  | 13, _, h => exact absurd h (by decide)
  | 14, _, h => exact absurd h (by decide)
  | 15, _, h => exact absurd h (by decide)
  | 16, _, h => exact absurd h (by decide)
  | 17, _, h => exact absurd h (by decide)
  | 18, _, h => exact absurd h (by decide)
  | 19, _, h => exact absurd h (by decide)
  | 20, _, h => exact absurd h (by decide)
  | 21, _, h => exact absurd h (by decide)
  | 22, _, h => exact absurd h (by decide)
  | 23, _, h => exact absurd h (by decide)
  | 24, _, h => exact absurd h (by decide)
  | 25, _, h => exact absurd h (by decide)
  | 26, _, h => exact absurd h (by decide)
  | 27, _, h => exact absurd h (by decide)
  | 28, _, h => exact absurd h (by decide)
  | 29, _, h => exact absurd h (by decide)
  | n + 30, h, _ => exact absurd h (by omega)
theorem row_k : ∀ j : Nat, j < 30 → (rowM j).k = (rowK j : Int) ∧ rowK j < 10 := by
  intro j hj
  match j, hj with
  | 0, _ => exact ⟨rfl, by decide⟩
  | 1, _ => exact ⟨rfl, by decide⟩
  | 2, _ => exact ⟨rfl, by decide⟩
  | 3, _ => exact ⟨rfl, by decide⟩
  | 4, _ => exact ⟨rfl, by decide⟩
  | 5, _ => exact ⟨rfl, by decide⟩
  | 6, _ => exact ⟨rfl, by decide⟩
  | 7, _ => exact ⟨rfl, by decide⟩
  | 8, _ => exact ⟨rfl, by decide⟩
  | 9, _ => exact ⟨rfl, by decide⟩
  | 10, _ => exact ⟨rfl, by decide⟩
  | 11, _ => exact ⟨rfl, by decide⟩
  | 12, _ => exact ⟨rfl, by decide⟩
  | 13, _ => exact ⟨rfl, by decide⟩
  | 14, _ => exact ⟨rfl, by decide⟩
  | 15, _ => exact ⟨rfl, by decide⟩
  | 16, _ => exact ⟨rfl, by decide⟩
  | 17, _ => exact ⟨rfl, by decide⟩
  | 18, _ => exact ⟨rfl, by decide⟩
  | 19, _ => exact ⟨rfl, by decide⟩
  | 20, _ => exact ⟨rfl, by decide⟩
  | 21, _ => exact ⟨rfl, by decide⟩
  | 22, _ => exact ⟨rfl, by decide⟩
  | 23, _ => exact ⟨rfl, by decide⟩
  | 24, _ => exact ⟨rfl, by decide⟩
  | 25, _ => exact ⟨rfl, by decide⟩
  | 26, _ => exact ⟨rfl, by decide⟩
  | 27, _ => exact ⟨rfl, by decide⟩
  | 28, _ => exact ⟨rfl, by decide⟩
  | 29, _ => exact ⟨rfl, by decide⟩
  | n + 30, h => exact absurd h (by omega)
theorem row_ok : ∀ j : Nat, j < 30 → (rowM j).Ok := by
  intro j hj
  match j, hj with
  | 0, _ => exact ⟨by unfold U rowM; decide, by unfold U rowM; decide, by unfold U rowM; decide, by unfold U rowM; decide, by simp [rowM, UV, U], by unfold Fits rowM; decide, by unfold Fits rowM; decide⟩
  | 1, _ => exact ⟨by unfold U rowM; decide, by unfold U rowM; decide, by unfold U rowM; decide, by unfold U rowM; decide, by simp [rowM, UV, U], by unfold Fits rowM; decide, by unfold Fits rowM; decide⟩
  | 2, _ => exact ⟨by unfold U rowM; decide, by unfold U rowM; decide, by unfold U rowM; decide, by unfold U rowM; decide, by simp [rowM, UV, U], by unfold Fits rowM; decide, by unfold Fits rowM; decide⟩
  | 3, _ => exact ⟨by unfold U rowM; decide, by unfold U rowM; decide, by unfold U rowM; decide, by unfold U rowM; decide, by simp [rowM, UV, U], by unfold Fits rowM; decide, by unfold Fits rowM; decide⟩
  | 4, _ => exact ⟨by unfold U rowM; decide, by unfold U rowM; decide, by unfold U rowM; decide, by unfold U rowM; decide, by simp [rowM, UV, U], by unfold Fits rowM; decide, by unfold Fits rowM; decide⟩
  | 5, _ => exact ⟨by unfold U rowM; decide, by unfold U rowM; decide, by unfold U rowM; decide, by unfold U rowM; decide, by simp [rowM, UV, U], by unfold Fits rowM; decide, by unfold Fits rowM; decide⟩
  | 6, _ => exact ⟨by unfold U rowM; decide, by unfold U rowM; decide, by unfold U rowM; decide, by unfold U rowM; decide, by simp [rowM, UV, U], by unfold Fits rowM; decide, by unfold Fits rowM; decide⟩
  | 7, _ => exact ⟨by unfold U rowM; decide, by unfold U rowM; decide, by unfold U rowM; decide, by unfold U rowM; decide, by simp [rowM, UV, U], by unfold Fits rowM; decide, by unfold Fits rowM; decide⟩
  | 8, _ => exact ⟨by unfold U rowM; decide, by unfold U rowM; decide, by unfold U rowM; decide, by unfold U rowM; decide, by simp [rowM, UV, U], by unfold Fits rowM; decide, by unfold Fits rowM; decide⟩
  | 9, _ => exact ⟨by unfold U rowM; decide, by unfold U rowM; decide, by unfold U rowM; decide, by unfold U rowM; decide, by simp [rowM, UV, U], by unfold Fits rowM; decide, by unfold Fits rowM; decide⟩
  | 10, _ => exact ⟨by unfold U rowM; decide, by unfold U rowM; decide, by unfold U rowM; decide, by unfold U rowM; decide, by simp [rowM, UV, U], by unfold Fits rowM; decide, by unfold Fits rowM; decide⟩
  | 11, _ => exact ⟨by unfold U rowM; decide, by unfold U rowM; decide, by unfold U rowM; decide, by unfold U rowM; decide, by simp [rowM, UV, U], by unfold Fits rowM; decide, by unfold Fits rowM; decide⟩
  | 12, _ => exact ⟨by unfold U rowM; decide, by unfold U rowM; decide, by unfold U rowM; decide, by unfold U rowM; decide, by simp [rowM, UV, U], by unfold Fits rowM; decide, by unfold Fits rowM; decide⟩
  | 13, _ => exact ⟨by unfold U rowM; decide, by unfold U rowM; decide, by unfold U rowM; decide, by unfold U rowM; decide, by simp [rowM, UV, U], by unfold Fits rowM; decide, by unfold Fits rowM; decide⟩
  | 14, _ => exact ⟨by unfold U rowM; decide, by unfold U rowM; decide, by unfold U rowM; decide, by unfold U rowM; decide, by simp [rowM, UV, U], by unfold Fits rowM; decide, by unfold Fits rowM; decide⟩
  | 15, _ => exact ⟨by unfold U rowM; decide, by unfold U rowM; decide, by unfold U rowM; decide, by unfold U rowM; decide, by simp [rowM, UV, U], by unfold Fits rowM; decide, by unfold Fits rowM; decide⟩
  | 16, _ => exact ⟨by unfold U rowM; decide, by unfold U rowM; decide, by unfold U rowM; decide, by unfold U rowM; decide, by simp [rowM, UV, U], by unfold Fits rowM; decide, by unfold Fits rowM; decide⟩
  | 17, _ => exact ⟨by unfold U rowM; decide, by unfold U rowM; decide, by unfold U rowM; decide, by unfold U rowM; decide, by simp [rowM, UV, U], by unfold Fits rowM; decide, by unfold Fits rowM; decide⟩
  | 18, _ => exact ⟨by unfold U rowM; decide, by unfold U rowM; decide, by unfold U rowM; decide, by unfold U rowM; decide, by simp [rowM, UV, U], by unfold Fits rowM; decide, by unfold Fits rowM; decide⟩
  | 19, _ => exact ⟨by unfold U rowM; decide, by unfold U rowM; decide, by unfold U rowM; decide, by unfold U rowM; decide, by simp [rowM, UV, U], by unfold Fits rowM; decide, by unfold Fits rowM; decide⟩
  | 20, _ => exact ⟨by unfold U rowM; decide, by unfold U rowM; decide, by unfold U rowM; decide, by unfold U rowM; decide, by simp [rowM, UV, U], by unfold Fits rowM; decide, by unfold Fits rowM; decide⟩
  | 21, _ => exact ⟨by unfold U rowM; decide, by unfold U rowM; decide, by unfold U rowM; decide, by unfold U rowM; decide, by simp [rowM, UV, U], by unfold Fits rowM; decide, by unfold Fits rowM; decide⟩
  | 22, _ => exact ⟨by unfold U rowM; decide, by unfold U rowM; decide, by unfold U rowM; decide, by unfold U rowM; decide, by simp [rowM, UV, U], by unfold Fits rowM; decide, by unfold Fits rowM; decide⟩
  | 23, _ => exact ⟨by unfold U rowM; decide, by unfold U rowM; decide, by unfold U rowM; decide, by unfold U rowM; decide, by simp [rowM, UV, U], by unfold Fits rowM; decide, by unfold Fits rowM; decide⟩
  | 24, _ => exact ⟨by unfold U rowM; decide, by unfold U rowM; decide, by unfold U rowM; decide, by unfold U rowM; decide, by simp [rowM, UV, U], by unfold Fits rowM; decide, by unfold Fits rowM; decide⟩
  | 25, _ => exact ⟨by unfold U rowM; decide, by unfold U rowM; decide, by unfold U rowM; decide, by unfold U rowM; decide, by simp [rowM, UV, U], by unfold Fits rowM; decide, by unfold Fits rowM; decide⟩
  | 26, _ => exact ⟨by unfold U rowM; decide, by unfold U rowM; decide, by unfold U rowM; decide, by unfold U rowM; decide, by simp [rowM, UV, U], by unfold Fits rowM; decide, by unfold Fits rowM; decide⟩
  | 27, _ => exact ⟨by unfold U rowM; decide, by unfold U rowM; decide, by unfold U rowM; decide, by unfold U rowM; decide, by simp [rowM, UV, U], by unfold Fits rowM; decide, by unfold Fits rowM; decide⟩
  | 28, _ => exact ⟨by unfold U rowM; decide, by unfold U rowM; decide, by unfold U rowM; decide, by unfold U rowM; decide, by simp [rowM, UV, U], by unfold Fits rowM; decide, by unfold Fits rowM; decide⟩
  | 29, _ => exact ⟨by unfold U rowM; decide, by unfold U rowM; decide, by unfold U rowM; decide, by unfold U rowM; decide, by simp [rowM, UV, U], by unfold Fits rowM; decide, by unfold Fits rowM; decide⟩
  | n + 30, h => exact absurd h (by omega)
theorem row_small : ∀ j : Nat, j < 30 → Small (rowM j) := by
  intro j hj
  match j, hj with
  | 0, _ => exact ⟨by unfold rowM; decide, by unfold rowM; decide, by unfold rowM; decide, by simp [rowM], by simp [rowM]⟩
  | 1, _ => exact ⟨by unfold rowM; decide, by unfold rowM; decide, by unfold rowM; decide, by simp [rowM], by simp [rowM]⟩
  | 2, _ => exact ⟨by unfold rowM; decide, by unfold rowM; decide, by unfold rowM; decide, by simp [rowM], by simp [rowM]⟩
  | 3, _ => exact ⟨by unfold rowM; decide, by unfold rowM; decide, by unfold rowM; decide, by simp [rowM], by simp [rowM]⟩
  | 4, _ => exact ⟨by unfold rowM; decide, by unfold rowM; decide, by unfold rowM; decide, by simp [rowM], by simp [rowM]⟩
  | 5, _ => exact ⟨by unfold rowM; decide, by unfold rowM; decide, by unfold rowM; decide, by simp [rowM], by simp [rowM]⟩
  | 6, _ => exact ⟨by unfold rowM; decide, by unfold rowM; decide, by unfold rowM; decide, by simp [rowM], by simp [rowM]⟩
  | 7, _ => exact ⟨by unfold rowM; decide, by unfold rowM; decide, by unfold rowM; decide, by simp [rowM], by simp [rowM]⟩
  | 8, _ => exact ⟨by unfold rowM; decide, by unfold rowM; decide, by unfold rowM; decide, by simp [rowM], by simp [rowM]⟩
  | 9, _ => exact ⟨by unfold rowM; decide, by unfold rowM; decide, by unfold rowM; decide, by simp [rowM], by simp [rowM]⟩
  | 10, _ => exact ⟨by unfold rowM; decide, by unfold rowM; decide, by unfold rowM; decide, by simp [rowM], by simp [rowM]⟩
  | 11, _ => exact ⟨by unfold rowM; decide, by unfold rowM; decide, by unfold rowM; decide, by simp [rowM], by simp [rowM]⟩
  | 12, _ => exact ⟨by unfold rowM; decide, by unfold rowM; decide, by unfold rowM; decide, by simp [rowM], by simp [rowM]⟩
  | 13, _ => exact ⟨by unfold rowM; decide, by unfold rowM; decide, by unfold rowM; decide, by simp [rowM], by simp [rowM]⟩
  | 14, _ => exact ⟨by unfold rowM; decide, by unfold rowM; decide, by unfold rowM; decide, by simp [rowM], by simp [rowM]⟩
  | 15, _ => exact ⟨by unfold rowM; decide, by unfold rowM; decide, by unfold rowM; decide, by simp [rowM], by simp [rowM]⟩
  | 16, _ => exact ⟨by unfold rowM; decide, by unfold rowM; decide, by unfold rowM; decide, by simp [rowM], by simp [rowM]⟩
  | 17, _ => exact ⟨by unfold rowM; decide, by unfold rowM; decide, by unfold rowM; decide, by simp [rowM], by simp [rowM]⟩
  | 18, _ => exact ⟨by unfold rowM; decide, by unfold rowM; decide, by unfold rowM; decide, by simp [rowM], by simp [rowM]⟩
  | 19, _ => exact ⟨by unfold rowM; decide, by unfold rowM; decide, by unfold rowM; decide, by simp [rowM], by simp [rowM]⟩
  | 20, _ => exact ⟨by unfold rowM; decide, by unfold rowM; decide, by unfold rowM; decide, by simp [rowM], by simp [rowM]⟩
  | 21, _ => exact ⟨by unfold rowM; decide, by unfold rowM; decide, by unfold rowM; decide, by simp [rowM], by simp [rowM]⟩
  | 22, _ => exact ⟨by unfold rowM; decide, by unfold rowM; decide, by unfold rowM; decide, by simp [rowM], by simp [rowM]⟩
  | 23, _ => exact ⟨by unfold rowM; decide, by unfold rowM; decide, by unfold rowM; decide, by simp [rowM], by simp [rowM]⟩
  | 24, _ => exact ⟨by unfold rowM; decide, by unfold rowM; decide, by unfold rowM; decide, by simp [rowM], by simp [rowM]⟩
  | 25, _ => exact ⟨by unfold rowM; decide, by unfold rowM; decide, by unfold rowM; decide, by simp [rowM], by simp [rowM]⟩
  | 26, _ => exact ⟨by unfold rowM; decide, by unfold rowM; decide, by unfold rowM; decide, by simp [rowM], by simp [rowM]⟩
  | 27, _ => exact ⟨by unfold rowM; decide, by unfold rowM; decide, by unfold rowM; decide, by simp [rowM], by simp [rowM]⟩
  | 28, _ => exact ⟨by unfold rowM; decide, by unfold rowM; decide, by unfold rowM; decide, by simp [rowM], by simp [rowM]⟩
  | 29, _ => exact ⟨by unfold rowM; decide, by unfold rowM; decide, by unfold rowM; decide, by simp [rowM], by simp [rowM]⟩
  | n + 30, h => exact absurd h (by omega)
theorem row_whole (j : Nat) (hj : j < 30) : Whole (rowM j) (rowK j) := ⟨row_ok j hj, (row_k j hj).1, by have := (row_k j hj).2; omega⟩
end Go.Proofs.YtfkfboigkpofkaaDoor.M
end
section
namespace Go.Proofs.YtfkfboigkpofkaaDoor.M
open Go.RowKit Go.Proofs.YtfkfboigkpofkaaDoorW.PrintWords Go.Proofs.YtfkfboigkpofkaaDoorW.PrintLast Go.Proofs.YtfkfboigkpofkaaDoorW.PrintMore Go.Proofs.YtfkfboigkpofkaaDoor.PMsgPuts
set_option linter.unusedVariables false
set_option linter.unusedSimpArgs false
structure Grow (base : Nat) (w w' : World) : Prop where
  os : w'.os = w.os
  tape : w'.tape = w.tape
  output : w'.output = w.output
  size : w.heap.size ≤ w'.heap.size
  low : ∀ k, k < base → w'.heap[k]? = w.heap[k]?
  cells : ∀ (k : Nat) (c : Array Value) (t : TypeId) (fr : Nat × Nat), w.heap[k]? = some (.cells c t fr) → ∃ fr', w'.heap[k]? = some (.cells c t fr')
theorem Grow.refl (base : Nat) (w : World) : Grow base w w := ⟨rfl, rfl, rfl, Nat.le_refl _, fun _ _ => rfl, fun _ _ _ fr h => ⟨fr, h⟩⟩
theorem Grow.trans {base : Nat} {a b c : World} (h : Grow base a b) (k : Grow base b c) : Grow base a c :=
  ⟨k.os.trans h.os, k.tape.trans h.tape, k.output.trans h.output, Nat.le_trans h.size k.size, fun i hi => (k.low i hi).trans (h.low i hi), fun i cs t fr h1 => by
    obtain ⟨f2, h2⟩ := h.cells i cs t fr h1
    exact k.cells i cs t f2 h2⟩
theorem Grow.alloc {base : Nat} {w : World} (hb : base ≤ w.heap.size) (o : Obj) : Grow base w (w.alloc o) := by
  have h := bel1 w o
  exact ⟨h.os, h.tape, h.output, h.size, fun k hk => h.block k (Nat.lt_of_lt_of_le hk hb), fun k c t fr h1 => ⟨fr, blk_alloc h1 o⟩⟩
theorem Grow.below {w w' : World} (h : Grow w.heap.size w w') : Below w.heap.size w w' := ⟨h.os, h.tape, h.output, h.size, h.low⟩
theorem Grow.cell {base : Nat} {w w' : World} (h : Grow base w w') {ad : Addr} {u : Value} (hc : w.cell? ad = some u) : w'.cell? ad = some u := by
  unfold World.cell? at hc ⊢
  cases hb : w.heap[ad.block]? with
  | none => rw [hb] at hc; cases hc
  | some o =>
    rw [hb] at hc
    cases o with
    | cells c t fr =>
      obtain ⟨f2, h2⟩ := h.cells _ _ _ _ hb
      rw [h2]
      exact hc
    | _ => cases hc
theorem ReadsRow.grow {α : Type} {R R' : α → List Value → Prop} {sz n : Nat} {base : Nat} {w w' : World} {A : Option Addr} {xs : List α} (h : ReadsRow R sz w A n xs) (hg : Grow base w w') (hr : ∀ x c, R x c → R' x c) : ReadsRow R' sz w' A n xs := by
  refine ⟨h.1, h.2.1, fun hp => ?_⟩
  obtain ⟨ad, e, hc⟩ := h.2.2 hp
  refine ⟨ad, e, fun j p hj => ?_⟩
  obtain ⟨c, h1, h2, h3⟩ := hc j p hj
  exact ⟨c, h1, hr _ _ h2, fun i u hu => hg.cell (h3 i u hu)⟩
theorem C_grow {base n : Nat} {w w' : World} {A : Option Addr} {l : List Int} (h : Kd.C (Kd.int .u8) w A n l) (hg : Grow base w w') : Kd.C (Kd.int .u8) w' A n l := ReadsRow.grow h hg (fun _ _ h => h)
theorem Cs_grow {base n : Nat} {w w' : World} {A : Option Addr} {l : List (List Int)} (h : Kd.C (Kd.slice 5 (Kd.int .u8)) w A n l) (hg : Grow base w w') : Kd.C (Kd.slice 5 (Kd.int .u8)) w' A n l :=
  ReadsRow.grow h hg (fun _ _ ⟨A', c', e, hl, hC⟩ => ⟨A', c', e, hl, C_grow hC hg⟩)
theorem Cv_grow {base n : Nat} {w w' : World} {A : Option Addr} {l : List S52} (h : Kd.C k52 w A n l) (hg : Grow base w w') : Kd.C k52 w' A n l :=
  ReadsRow.grow h hg (fun _ _ ⟨c0, c1, e, h0, c2, c3, e1, h1, A', c', e2, hl, hC⟩ => ⟨c0, c1, e, h0, c2, c3, e1, h1, A', c', e2, hl, C_grow hC hg⟩)
theorem Lies.grow {base : Nat} {m : Mg} {W W' : World} {A6 A7 A8 : Option Addr} {c6 c7 c8 : Nat} (h : Lies m W A6 A7 A8 c6 c7 c8) (hg : Grow base W W') : Lies m W' A6 A7 A8 c6 c7 c8 :=
  ⟨⟨Cv_grow h.at_.V hg, Cs_grow h.at_.B hg, C_grow h.at_.S hg⟩, h.h6, h.h7, h.h8⟩
theorem C_block {α : Type} (d : Kd α) {W : World} {g e : Nat} {fr : Nat × Nat} {cells : Array Value} (xs : List α) (hb : W.heap[g]? = some (.cells cells e fr)) (hm : xs.length ≤ 9223372036854775807)
    (h : ∀ (j : Nat) (x : α), xs[j]? = some x → ∃ c, c.length = d.sz ∧ d.K W x c ∧ ∀ i u, c[i]? = some u → cells[j * d.sz + i]? = some u) : Kd.C d W (some ⟨g, 0, none⟩) xs.length xs := by
  refine ⟨rfl, hm, fun _ => ⟨⟨g, 0, none⟩, rfl, fun j p hj => ?_⟩⟩
  obtain ⟨c, h1, h2, h3⟩ := h j p hj
  refine ⟨c, h1, h2, fun i u hu => ?_⟩
  have h4 := h3 i u hu
  rw [add_plain]
  simp only [World.cell?, hb, Nat.zero_add]
  exact h4
def tm4 (i : Nat) : Nat := if i = 95 then 4 else i + 24
theorem tm4_inj {i j : Nat} (hi : i < 96) (hj : j < 96) (h : tm4 i = tm4 j) : i = j := by
  unfold tm4 at h
  split at h <;> split at h <;> omega
def rows4 (vs : Nat → Value) : List (Nat × Tmp × Value) := (List.range 96).map fun j => (j, tm4 j, vs j)
theorem rows4_at (vs : Nat → Value) {i : Nat} (hi : i < 96) : (rows4 vs)[i]? = some (i, tm4 i, vs i) := by simp [rows4, hi]
theorem rows4_set (vs : Nat → Value) {i : Nat} (hi : i < 96) (v : Value) : (rows4 vs).set i (i, tm4 i, v) = rows4 (fun j => if j = i then v else vs j) := by
  apply List.ext_getElem?
  intro j
  by_cases hij : i = j
  · subst hij
    have hl : i < (rows4 vs).length := by simp [rows4, hi]
    rw [List.getElem?_set_self hl, rows4_at _ hi]
    simp
  · rw [List.getElem?_set_ne hij]
    by_cases hj : j < 96
    · rw [rows4_at _ hj, rows4_at _ hj, if_neg (Ne.symm hij)]
    · rw [List.getElem?_eq_none (by simp [rows4]; omega), List.getElem?_eq_none (by simp [rows4]; omega)]
theorem rows4_mem {vs : Nat → Value} {i : Nat} (hi : i < 96) {k : Nat} {e : Nat × Tmp × Value} (he : (rows4 vs)[k]? = some e) (hk : k ≠ i) : e.1 ≠ i ∧ e.2.1 ≠ tm4 i := by
  have hk96 : k < 96 := by have := (List.getElem?_eq_some_iff.1 he).1; simpa [rows4] using this
  rw [rows4_at _ hk96] at he
  obtain rfl := Option.some.inj he
  exact ⟨hk, fun h => hk (tm4_inj hk96 hi h)⟩
theorem rows4_else (vs : Nat → Value) {i : Nat} (hi : i < 96) : (((rows4 vs).take i ++ (rows4 vs).drop (i + 1)).all fun e => !(e.1 == i) && !(e.2.1 == tm4 i)) = true := by
  rw [List.all_eq_true]
  intro e he
  rcases List.mem_append.1 he with he | he
  · obtain ⟨k, hk⟩ := List.mem_iff_getElem?.1 he
    rw [List.getElem?_take] at hk
    split at hk
    · rename_i hlt
      obtain ⟨h1, h2⟩ := rows4_mem hi hk (by omega)
      simp [h1, h2]
    · cases hk
  · obtain ⟨k, hk⟩ := List.mem_iff_getElem?.1 he
    rw [List.getElem?_drop] at hk
    obtain ⟨h1, h2⟩ := rows4_mem hi hk (by omega)
    simp [h1, h2]
theorem rows4_behind (vs : Nat → Value) {i : Nat} (hi : i < 96) : (((rows4 vs).drop (i + 1)).all fun e => !(e.2.1 == tm4 i)) = true := by
  rw [List.all_eq_true]
  intro e he
  obtain ⟨k, hk⟩ := List.mem_iff_getElem?.1 he
  rw [List.getElem?_drop] at hk
  obtain ⟨_, h2⟩ := rows4_mem hi hk (by omega)
  simp [h2]
theorem rows4_free (vs : Nat → Value) {t : Tmp} (h : ∀ i, i < 96 → tm4 i ≠ t) : ((rows4 vs).all fun e => !(e.2.1 == t)) = true := by
  rw [List.all_eq_true]
  intro e he
  obtain ⟨k, hk⟩ := List.mem_iff_getElem?.1 he
  have hk96 : k < 96 := by have := (List.getElem?_eq_some_iff.1 hk).1; simpa [rows4] using this
  rw [rows4_at _ hk96] at hk
  obtain rfl := Option.some.inj hk
  simpa using h k hk96
def GI (G : Nat → Value → World → Prop) (w0 : World) (a0 : Act) (b : Nat → Bool) (a : Act) (w : World) : Prop :=
  ∃ vs : Nat → Value, a = putSel a0 b (rows4 vs) ∧ (∀ i, i < 96 → b i = true → G i (vs i) w) ∧ Grow w0.heap.size w0 w
theorem gstep {G : Nat → Value → World → Prop} {w0 : World} {a0 : Act} {ops : Array Oper} {Q : Exit → Act → World → Prop} {B : List Nat} (hst : ∀ i v w w', G i v w → Grow w0.heap.size w w' → G i v w') (hsz : a0.tmps.size = 244)
    (i : Nat) (hi : i < 96) {oi : Oper} (hoi0 : ops.toList[i]? = some oi) (hd : oi.dst = some (tm4 i)) (hg : oi.guard = none) (deps : List Nat) (hdeps : (deps.all fun j => (B.getD i 0).testBit j && decide (j < 96)) = true)
    (H : ∀ (vs : Nat → Value) (a : Act) (W : World), (∀ j ∈ deps, a.tmps[tm4 j]? = some (vs j) ∧ G j (vs j) W) → (∀ t : Nat, (∀ i, i < 96 → tm4 i ≠ t) → a.tmps[t]? = a0.tmps[t]?) → Grow w0.heap.size w0 W → ∃ v W', (execOp a.eval oi).run Tryd.prog W = .ok (.value v) W' ∧ G i v W' ∧ Grow w0.heap.size W W') :
    StepAt Tryd.prog ops Q B (List.range 96) (GI G w0 a0) i := by
  have hoi : ops[i]? = some oi := by rw [← hoi0, Array.getElem?_toList]
  rintro b a w ⟨vs, ha, hG, hR⟩ hb hon hoff
  refine ⟨oi, hoi, fun K hK => ?_⟩
  have hdep : ∀ j ∈ deps, a.tmps[tm4 j]? = some (vs j) ∧ G j (vs j) w := by
    intro j hj
    have h1 := List.all_eq_true.1 hdeps j hj
    simp only [Bool.and_eq_true, decide_eq_true_eq] at h1
    have hbj : b j = true := hon j (by rw [Bool.and_eq_true]; exact ⟨by simpa using h1.2, h1.1⟩)
    refine ⟨?_, hG j h1.2 hbj⟩
    have hs : Nat.ble (tm4 j + 1) a0.tmps.size = true := by
      rw [hsz]
      unfold tm4
      have := h1.2
      split <;> (apply Nat.ble_eq_true_of_le; omega)
    have h2 := putSel_on (b := b) (e := (j, tm4 j, vs j)) (L := rows4 vs) (a := a0) j (rows4_at vs h1.2) (rows4_behind vs h1.2) hbj hs
    rw [← ha] at h2
    exact h2
  have hfree : ∀ t : Nat, (∀ i, i < 96 → tm4 i ≠ t) → a.tmps[t]? = a0.tmps[t]? := by
    intro t ht
    have h1 := putSel_off (b := b) (t := t) (L := rows4 vs) (a := a0) (rows4_free vs ht)
    rw [← ha] at h1
    exact h1
  obtain ⟨v, W', hrun, hGv, hgr⟩ := H vs a w hdep hfree hR
  refine value_ (by simp [Region.wanted, hg]) rfl hrun ?_
  refine hK.out _ _ ⟨fun j => if j = i then v else vs j, ?_, ?_, hR.trans hgr⟩
  · rw [ha, hd]
    exact putSel_upk i hb (rows4_at vs hi) (rows4_set vs hi v) (rows4_else vs hi)
  · intro j hj hbj
    by_cases hji : j = i
    · subst hji
      simp only [if_true]
      exact hGv
    · rw [up_ne hji] at hbj
      simp only [if_neg hji]
      exact hst j _ _ _ (hG j hj hbj) hgr
end Go.Proofs.YtfkfboigkpofkaaDoor.M
end
section
namespace Go.Proofs.YtfkfboigkpofkaaDoor.M
open Go.RowKit Go.Proofs.YtfkfboigkpofkaaDoorW.PrintWords Go.Proofs.YtfkfboigkpofkaaDoorW.PrintLast Go.Proofs.YtfkfboigkpofkaaDoorW.PrintMore Go.Proofs.YtfkfboigkpofkaaDoor.PMsgPuts
set_option linter.unusedVariables false
set_option linter.unusedSimpArgs false
def PB (n r : Int) (v : Value) (_W : World) : Prop := v = .agg #[.int .u64 n, .int .i64 r]
def FAR (v : Value) (_W : World) : Prop := v = .int .u64 18446744073709551615
def BYTE (base : Nat) (x : Int) (v : Value) (W : World) : Prop := ∃ g fr, base ≤ g ∧ v = .slice (some ⟨g, 0, none⟩) 1 1 ∧ W.heap[g]? = some (.cells #[.int .u8 x] 5 fr)
def BS (l : List Int) (v : Value) (W : World) : Prop := ∃ A c, v = .slice A l.length c ∧ l.length ≤ c ∧ Kd.C (Kd.int .u8) W A l.length l
def RW (l : List (List Int)) (v : Value) (W : World) : Prop := ∃ A c, v = .slice A l.length c ∧ l.length ≤ c ∧ Kd.C (Kd.slice 5 (Kd.int .u8)) W A l.length l
def VW (l : List S52) (v : Value) (W : World) : Prop := ∃ A c, v = .slice A l.length c ∧ l.length ≤ c ∧ Kd.C k52 W A l.length l
def VOTE (x : S52) (v : Value) (W : World) : Prop := ∃ A c, v = .agg #[.int .u64 x.f0, .int .u64 x.f1.f0, .int .i64 x.f1.f1, .slice A x.f2.length c] ∧ x.f2.length ≤ c ∧ Kd.C (Kd.int .u8) W A x.f2.length x.f2
def MSG (r : Nat) (v : Value) (W : World) : Prop := ∃ A6 A7 A8 c6 c7 c8, v = .agg ((rowM r).cells A6 A7 A8 c6 c7 c8) ∧ Lies (rowM r) W A6 A7 A8 c6 c7 c8
def rowC (r : Nat) (A6 A7 A8 : Option Addr) (c6 c7 c8 : Nat) : List Value := [.int .u8 (rowM r).k, .int .u64 (rowM r).n, .int .i64 (rowM r).r, .int .u64 (rowM r).first, .int .u64 (rowM r).last, .int .u64 (rowM r).commit, .slice A6 (rowM r).V.length c6, .slice A7 (rowM r).B.length c7, .slice A8 (rowM r).S.length c8, .string (strOfNums (rowI r))]
def ROW (r : Nat) (v : Value) (W : World) : Prop := ∃ A6 A7 A8 c6 c7 c8, v = .agg (rowC r A6 A7 A8 c6 c7 c8).toArray ∧ Lies (rowM r) W A6 A7 A8 c6 c7 c8
def LITAT (g : Nat) (W : World) : Prop := ∀ r, r < 30 → ∃ A6 A7 A8 c6 c7 c8, Lies (rowM r) W A6 A7 A8 c6 c7 c8 ∧ ∀ q u, (rowC r A6 A7 A8 c6 c7 c8)[q]? = some u → W.cell? ⟨g, r * 10 + q, none⟩ = some u
def LIT (base : Nat) (v : Value) (W : World) : Prop := ∃ g, base ≤ g ∧ v = .slice (some ⟨g, 0, none⟩) 30 30 ∧ LITAT g W
section
variable {base : Nat} {W W' : World} {v : Value}
theorem BYTE.grow {x : Int} (h : BYTE base x v W) (hg : Grow base W W') : BYTE base x v W' := by
  obtain ⟨g, fr, hb, rfl, h1⟩ := h
  obtain ⟨f2, h2⟩ := hg.cells _ _ _ _ h1
  exact ⟨g, f2, hb, rfl, h2⟩
theorem BS.grow {l : List Int} (h : BS l v W) (hg : Grow base W W') : BS l v W' := by
  obtain ⟨A, c, rfl, h1, h2⟩ := h
  exact ⟨A, c, rfl, h1, C_grow h2 hg⟩
theorem RW.grow {l : List (List Int)} (h : RW l v W) (hg : Grow base W W') : RW l v W' := by
  obtain ⟨A, c, rfl, h1, h2⟩ := h
  exact ⟨A, c, rfl, h1, Cs_grow h2 hg⟩
theorem VW.grow {l : List S52} (h : VW l v W) (hg : Grow base W W') : VW l v W' := by
  obtain ⟨A, c, rfl, h1, h2⟩ := h
  exact ⟨A, c, rfl, h1, Cv_grow h2 hg⟩
theorem VOTE.grow {x : S52} (h : VOTE x v W) (hg : Grow base W W') : VOTE x v W' := by
  obtain ⟨A, c, rfl, h1, h2⟩ := h
  exact ⟨A, c, rfl, h1, C_grow h2 hg⟩
theorem MSG.grow {r : Nat} (h : MSG r v W) (hg : Grow base W W') : MSG r v W' := by
  obtain ⟨A6, A7, A8, c6, c7, c8, rfl, h⟩ := h
  exact ⟨A6, A7, A8, c6, c7, c8, rfl, h.grow hg⟩
theorem ROW.grow {r : Nat} (h : ROW r v W) (hg : Grow base W W') : ROW r v W' := by
  obtain ⟨A6, A7, A8, c6, c7, c8, rfl, h⟩ := h
  exact ⟨A6, A7, A8, c6, c7, c8, rfl, h.grow hg⟩
theorem LITAT.grow {g : Nat} (h : LITAT g W) (hg : Grow base W W') : LITAT g W' := by
  intro r hr
  obtain ⟨A6, A7, A8, c6, c7, c8, h1, h2⟩ := h r hr
  exact ⟨A6, A7, A8, c6, c7, c8, h1.grow hg, fun q u hu => hg.cell (h2 q u hu)⟩
theorem LIT.grow (h : LIT base v W) (hg : Grow base W W') : LIT base v W' := by
  obtain ⟨g, hb, rfl, h⟩ := h
  exact ⟨g, hb, rfl, h.grow hg⟩
end
def G4 (base : Nat) : Nat → Value → World → Prop
  | 0 => PB 2 1
  | 1 => MSG 0
  | 2 => ROW 0
  | 3 => PB 2 1
  | 4 => MSG 1
  | 5 => ROW 1
  | 6 => PB 2 1
  | 7 => MSG 2
  | 8 => ROW 2
  | 9 => PB 2 1
  | 10 => MSG 3
  | 11 => ROW 3
  | 12 => PB 2 1
  | 13 => MSG 4
  | 14 => ROW 4
  | 15 => MSG 5
  | 16 => ROW 5
  | 17 => RW [[120]]
  | 18 => MSG 6
  | 19 => ROW 6
  | 20 => BYTE base 115
  | 21 => BS [115]
  | 22 => MSG 7
  | 23 => ROW 7
  | 24 => PB 1 0
  | 25 => PB 1 2
  | 26 => BYTE base 121
  | 27 => BS [121]
  | 28 => VOTE ⟨6, ⟨1, 2⟩, [121]⟩
  | 29 => VW [⟨6, ⟨1, 2⟩, [121]⟩]
  | 30 => MSG 8
  | 31 => ROW 8
  | 32 => FAR
  | 33 => RW [[120]]
  | 34 => MSG 9
  | 35 => ROW 9
  | 36 => MSG 10
  | 37 => ROW 10
  | 38 => MSG 11
  | 39 => ROW 11
  | 40 => MSG 12
  | 41 => ROW 12
  | 42 => PB 0 7
  | 43 => MSG 13
  | 44 => ROW 13
  | 45 => PB 0 (-1)
  | 46 => MSG 14
  | 47 => ROW 14
  | 48 => MSG 15
  | 49 => ROW 15
  | 50 => PB 2 1
  | 51 => MSG 16
  | 52 => ROW 16
  | 53 => MSG 17
  | 54 => ROW 17
  | 55 => MSG 18
  | 56 => ROW 18
  | 57 => MSG 19
  | 58 => ROW 19
  | 59 => MSG 20
  | 60 => ROW 20
  | 61 => FAR
  | 62 => RW [[], []]
  | 63 => MSG 21
  | 64 => ROW 21
  | 65 => MSG 22
  | 66 => ROW 22
  | 67 => BYTE base 115
  | 68 => BS [115]
  | 69 => MSG 23
  | 70 => ROW 23
  | 71 => RW [[120]]
  | 72 => MSG 24
  | 73 => ROW 24
  | 74 => VW [⟨0, ⟨0, 0⟩, []⟩]
  | 75 => MSG 25
  | 76 => ROW 25
  | 77 => VOTE ⟨6, ⟨0, 0⟩, []⟩
  | 78 => VW [⟨6, ⟨0, 0⟩, []⟩]
  | 79 => MSG 26
  | 80 => ROW 26
  | 81 => VOTE ⟨6, ⟨0, 0⟩, []⟩
  | 82 => VOTE ⟨6, ⟨0, 0⟩, []⟩
  | 83 => VW [⟨6, ⟨0, 0⟩, []⟩, ⟨6, ⟨0, 0⟩, []⟩]
  | 84 => MSG 27
  | 85 => ROW 27
  | 86 => PB 0 7
  | 87 => VOTE ⟨6, ⟨0, 7⟩, []⟩
  | 88 => VW [⟨6, ⟨0, 7⟩, []⟩]
  | 89 => MSG 28
  | 90 => ROW 28
  | 91 => RW (List.replicate 17 [])
  | 92 => MSG 29
  | 93 => ROW 29
  | 94 => LIT base
  | 95 => LIT base
  | _ => fun _ _ => True
theorem G4_grow (base : Nat) : ∀ (i : Nat) (v : Value) (w w' : World), G4 base i v w → Grow base w w' → G4 base i v w' := by
  intro i v w w' h hg
  match i, h with
  | 0, h => exact h
  | 1, h => exact MSG.grow (base := base) h hg
  | 2, h => exact ROW.grow (base := base) h hg
  | 3, h => exact h
  | 4, h => exact MSG.grow (base := base) h hg
  | 5, h => exact ROW.grow (base := base) h hg
  | 6, h => exact h
  | 7, h => exact MSG.grow (base := base) h hg
  | 8, h => exact ROW.grow (base := base) h hg
  | 9, h => exact h
  | 10, h => exact MSG.grow (base := base) h hg
  | 11, h => exact ROW.grow (base := base) h hg
  | 12, h => exact h
  | 13, h => exact MSG.grow (base := base) h hg
  | 14, h => exact ROW.grow (base := base) h hg
  | 15, h => exact MSG.grow (base := base) h hg
  | 16, h => exact ROW.grow (base := base) h hg
  | 17, h => exact RW.grow (base := base) h hg
  | 18, h => exact MSG.grow (base := base) h hg
  | 19, h => exact ROW.grow (base := base) h hg
  | 20, h => exact BYTE.grow (base := base) h hg
  | 21, h => exact BS.grow (base := base) h hg
  | 22, h => exact MSG.grow (base := base) h hg
  | 23, h => exact ROW.grow (base := base) h hg
  | 24, h => exact h
  | 25, h => exact h
  | 26, h => exact BYTE.grow (base := base) h hg
  | 27, h => exact BS.grow (base := base) h hg
  | 28, h => exact VOTE.grow (base := base) h hg
  | 29, h => exact VW.grow (base := base) h hg
  | 30, h => exact MSG.grow (base := base) h hg
  | 31, h => exact ROW.grow (base := base) h hg
  | 32, h => exact h
  | 33, h => exact RW.grow (base := base) h hg
  | 34, h => exact MSG.grow (base := base) h hg
  | 35, h => exact ROW.grow (base := base) h hg
  | 36, h => exact MSG.grow (base := base) h hg
  | 37, h => exact ROW.grow (base := base) h hg
  | 38, h => exact MSG.grow (base := base) h hg
  | 39, h => exact ROW.grow (base := base) h hg
  | 40, h => exact MSG.grow (base := base) h hg
  | 41, h => exact ROW.grow (base := base) h hg
  | 42, h => exact h
  | 43, h => exact MSG.grow (base := base) h hg
  | 44, h => exact ROW.grow (base := base) h hg
  | 45, h => exact h
  | 46, h => exact MSG.grow (base := base) h hg
  | 47, h => exact ROW.grow (base := base) h hg
  | 48, h => exact MSG.grow (base := base) h hg
  | 49, h => exact ROW.grow (base := base) h hg
  | 50, h => exact h
  | 51, h => exact MSG.grow (base := base) h hg
  | 52, h => exact ROW.grow (base := base) h hg
  | 53, h => exact MSG.grow (base := base) h hg
  | 54, h => exact ROW.grow (base := base) h hg
  | 55, h => exact MSG.grow (base := base) h hg
  | 56, h => exact ROW.grow (base := base) h hg
  | 57, h => exact MSG.grow (base := base) h hg
  | 58, h => exact ROW.grow (base := base) h hg
  | 59, h => exact MSG.grow (base := base) h hg
  | 60, h => exact ROW.grow (base := base) h hg
  | 61, h => exact h
  | 62, h => exact RW.grow (base := base) h hg
  | 63, h => exact MSG.grow (base := base) h hg
  | 64, h => exact ROW.grow (base := base) h hg
  | 65, h => exact MSG.grow (base := base) h hg
  | 66, h => exact ROW.grow (base := base) h hg
  | 67, h => exact BYTE.grow (base := base) h hg
  | 68, h => exact BS.grow (base := base) h hg
  | 69, h => exact MSG.grow (base := base) h hg
  | 70, h => exact ROW.grow (base := base) h hg
  | 71, h => exact RW.grow (base := base) h hg
  | 72, h => exact MSG.grow (base := base) h hg
  | 73, h => exact ROW.grow (base := base) h hg
  | 74, h => exact VW.grow (base := base) h hg
  | 75, h => exact MSG.grow (base := base) h hg
  | 76, h => exact ROW.grow (base := base) h hg
  | 77, h => exact VOTE.grow (base := base) h hg
  | 78, h => exact VW.grow (base := base) h hg
  | 79, h => exact MSG.grow (base := base) h hg
  | 80, h => exact ROW.grow (base := base) h hg
  | 81, h => exact VOTE.grow (base := base) h hg
  | 82, h => exact VOTE.grow (base := base) h hg
  | 83, h => exact VW.grow (base := base) h hg
  | 84, h => exact MSG.grow (base := base) h hg
  | 85, h => exact ROW.grow (base := base) h hg
  | 86, h => exact h
  | 87, h => exact VOTE.grow (base := base) h hg
  | 88, h => exact VW.grow (base := base) h hg
  | 89, h => exact MSG.grow (base := base) h hg
  | 90, h => exact ROW.grow (base := base) h hg
  | 91, h => exact RW.grow (base := base) h hg
  | 92, h => exact MSG.grow (base := base) h hg
  | 93, h => exact ROW.grow (base := base) h hg
  | 94, h => exact LIT.grow (base := base) h hg
  | 95, h => exact LIT.grow (base := base) h hg
  | n + 96, h => exact trivial
noncomputable def ops4 : Array Oper := match Tryd.f5.body with
  | some (.seq _ (.seq _ (.seq _ (.seq _ (.seq (.region _ ops _) _))))) => ops
  | _ => #[]
noncomputable def rest4 : Code := match Tryd.f5.body with
  | some (.seq _ (.seq _ (.seq _ (.seq _ (.seq _ rest))))) => rest
  | _ => .skip
end Go.Proofs.YtfkfboigkpofkaaDoor.M
end
