/- Parts of a proof, pruned and joined by flat.py out of: KE, KA2, KF, MZ. -/
import Derived.Test.YtfkfboigkpofkaaDoorCKnown10
import Derived.Test.YtfkfboigkpofkaaDoorRows
import Derived.ProofKit
import Derived.LaidMore
import Derived.OpenShut
import Derived.Stop.Joined
import Derived.Deep.Slices
import Derived.Lib.LaidTab
section
namespace Go.Proofs.YtfkfboigkpofkaaDoor.M
open Go.RowKit Go.Proofs.YtfkfboigkpofkaaDoorW.PrintWords Go.Proofs.YtfkfboigkpofkaaDoorW.PrintLast Go.Proofs.YtfkfboigkpofkaaDoorW.PrintMore Go.Proofs.YtfkfboigkpofkaaDoor.PMsgPuts
set_option linter.unusedVariables false
set_option linter.unusedSimpArgs false
def B4 : List Nat := [0, 1, 3, 0, 8, 24, 0, 64, 192, 0, 512, 1536, 0, 4096, 12288, 0, 32768, 0, 131072, 393216, 0, 1048576, 3145728, 7340032, 0, 0, 0, 67108864, 234881024, 503316480, 1056964608, 2130706432, 0, 0, 12884901888, 30064771072, 0, 68719476736, 0, 274877906944, 0, 1099511627776, 0, 4398046511104, 13194139533312, 0, 35184372088832, 105553116266496, 0, 281474976710656, 0, 1125899906842624, 3377699720527872, 0, 9007199254740992, 0, 36028797018963968, 0, 144115188075855872, 0, 576460752303423488, 0, 0, 6917529027641081856, 16140901064495857664, 0, 36893488147419103232, 0, 147573952589676412928, 442721857769029238784, 1033017668127734890496, 0, 2361183241434822606848, 7083549724304467820544, 0, 18889465931478580854784, 56668397794435742564352, 0, 151115727451828646838272, 453347182355485940514816, 1057810092162800527867904, 0, 0, 7253554917687775048237056, 16924961474604808445886464, 36267774588438875241185280, 0, 77371252455336267181195264, 232113757366008801543585792, 541598767187353870268366848, 1160568786830044007717928960, 0, 2475880078570760549798248448, 7427640235712281649394745344, 19807040628566084398385987583, 39614081257132168796771975167]
theorem waits4 : waitsOk (rtab .any ops4).2 B4 = true := by kernel_rfl
theorem base4 : baseOk (rtab .any ops4).2 (List.range 96) = true := by kernel_rfl
theorem lof4 : (lof (rtab .any ops4).2.length (List.range 96) (fun _ => false) == (Array.replicate 96 false).toList && (List.range 96).length == 96) = true := by kernel_rfl
theorem size4 : ops4.size = 96 := by kernel_rfl
theorem mixed4 : Tryd.prog.follows .mixedOrders = true := by kernel_rfl
theorem putSel_no (a : Act) : ∀ L : List (Nat × Tmp × Value), putSel a (fun _ => false) L = a
  | [] => rfl
  | e :: r => by
    unfold putSel
    rw [if_neg (by decide)]
    exact putSel_no a r
theorem putSel_yes {b : Nat → Bool} : ∀ (L : List (Nat × Tmp × Value)) (a : Act), (∀ e ∈ L, b e.1 = true) → putSel a b L = L.foldl (fun a e => a.put (some e.2.1) e.2.2) a
  | [], _, _ => rfl
  | e :: r, a, h => by
    unfold putSel
    rw [if_pos (h e List.mem_cons_self)]
    exact putSel_yes r _ (fun x hx => h x (List.mem_cons_of_mem _ hx))
def fin4 (a0 : Act) (vs : Nat → Value) : Act := (rows4 vs).foldl (fun a e => a.put (some e.2.1) e.2.2) a0
theorem Base4.drew {w0 : World} {a0 : Act} (h : Base4 w0 a0) : Base4 w0.drew a0 := by
  obtain ⟨h0, h1, h2, v, h3, h4⟩ := h
  exact ⟨h0, h1, h2, v, h3, h4.grow (base := 0) ⟨rfl, rfl, rfl, Nat.le_refl _, fun _ _ => rfl, fun _ _ _ fr h => ⟨fr, h⟩⟩⟩
set_option maxRecDepth 100000 in
theorem steps4 {w0 : World} {a0 : Act} {Q : Exit → Act → World → Prop} (hB : Base4 w0 a0) : ∀ i ∈ List.range 96, StepAt Tryd.prog ops4 Q B4 (List.range 96) (GI (G4 w0.heap.size) w0 a0) i := by
  intro i hi
  have hi96 : i < 96 := List.mem_range.1 hi
  clear hi
  match i, hi96 with
  | 0, _ => exact s4_0 hB (by kernel_rfl)
  | 1, _ => exact s4_1 hB (by kernel_rfl)
  | 2, _ => exact s4_2 hB (by kernel_rfl)
  | 3, _ => exact s4_3 hB (by kernel_rfl)
  | 4, _ => exact s4_4 hB (by kernel_rfl)
  | 5, _ => exact s4_5 hB (by kernel_rfl)
  | 6, _ => exact s4_6 hB (by kernel_rfl)
  | 7, _ => exact s4_7 hB (by kernel_rfl)
  | 8, _ => exact s4_8 hB (by kernel_rfl)
  | 9, _ => exact s4_9 hB (by kernel_rfl)
  | 10, _ => exact s4_10 hB (by kernel_rfl)
  | 11, _ => exact s4_11 hB (by kernel_rfl)
  | 12, _ => exact s4_12 hB (by kernel_rfl)
  | 13, _ => exact s4_13 hB (by kernel_rfl)
  | 14, _ => exact s4_14 hB (by kernel_rfl)
  | 15, _ => exact s4_15 hB (by kernel_rfl)
  | 16, _ => exact s4_16 hB (by kernel_rfl)
  | 17, _ => exact s4_17 hB (by kernel_rfl)
  | 18, _ => exact s4_18 hB (by kernel_rfl)
  | 19, _ => exact s4_19 hB (by kernel_rfl)
  | 20, _ => exact s4_20 hB (by kernel_rfl)
  | 21, _ => exact s4_21 hB (by kernel_rfl)
  | 22, _ => exact s4_22 hB (by kernel_rfl)
  | 23, _ => exact s4_23 hB (by kernel_rfl)
  | 24, _ => exact s4_24 hB (by kernel_rfl)
  | 25, _ => exact s4_25 hB (by kernel_rfl)
  | 26, _ => exact s4_26 hB (by kernel_rfl)
  | 27, _ => exact s4_27 hB (by kernel_rfl)
  | 28, _ => exact s4_28 hB (by kernel_rfl)
  | 29, _ => exact s4_29 hB (by kernel_rfl)
  | 30, _ => exact s4_30 hB (by kernel_rfl)
  | 31, _ => exact s4_31 hB (by kernel_rfl)
  | 32, _ => exact s4_32 hB (by kernel_rfl)
  | 33, _ => exact s4_33 hB (by kernel_rfl)
  | 34, _ => exact s4_34 hB (by kernel_rfl)
  | 35, _ => exact s4_35 hB (by kernel_rfl)
  | 36, _ => exact s4_36 hB (by kernel_rfl)
  | 37, _ => exact s4_37 hB (by kernel_rfl)
  | 38, _ => exact s4_38 hB (by kernel_rfl)
  | 39, _ => exact s4_39 hB (by kernel_rfl)
  | 40, _ => exact s4_40 hB (by kernel_rfl)
  | 41, _ => exact s4_41 hB (by kernel_rfl)
  | 42, _ => exact s4_42 hB (by kernel_rfl)
  | 43, _ => exact s4_43 hB (by kernel_rfl)
  | 44, _ => exact s4_44 hB (by kernel_rfl)
  | 45, _ => exact s4_45 hB (by kernel_rfl)
  | 46, _ => exact s4_46 hB (by kernel_rfl)
  | 47, _ => exact s4_47 hB (by kernel_rfl)
  | 48, _ => exact s4_48 hB (by kernel_rfl)
  | 49, _ => exact s4_49 hB (by kernel_rfl)
  | 50, _ => exact s4_50 hB (by kernel_rfl)
  | 51, _ => exact s4_51 hB (by kernel_rfl)
  | 52, _ => exact s4_52 hB (by kernel_rfl)
  | 53, _ => exact s4_53 hB (by kernel_rfl)
  | 54, _ => exact s4_54 hB (by kernel_rfl)
  | 55, _ => exact s4_55 hB (by kernel_rfl)
  | 56, _ => exact s4_56 hB (by kernel_rfl)
  | 57, _ => exact s4_57 hB (by kernel_rfl)
  | 58, _ => exact s4_58 hB (by kernel_rfl)
  | 59, _ => exact s4_59 hB (by kernel_rfl)
  | 60, _ => exact s4_60 hB (by kernel_rfl)
  | 61, _ => exact s4_61 hB (by kernel_rfl)
  | 62, _ => exact s4_62 hB (by kernel_rfl)
  | 63, _ => exact s4_63 hB (by kernel_rfl)
  | 64, _ => exact s4_64 hB (by kernel_rfl)
  | 65, _ => exact s4_65 hB (by kernel_rfl)
  | 66, _ => exact s4_66 hB (by kernel_rfl)
  | 67, _ => exact s4_67 hB (by kernel_rfl)
  | 68, _ => exact s4_68 hB (by kernel_rfl)
  | 69, _ => exact s4_69 hB (by kernel_rfl)
  | 70, _ => exact s4_70 hB (by kernel_rfl)
  | 71, _ => exact s4_71 hB (by kernel_rfl)
  | 72, _ => exact s4_72 hB (by kernel_rfl)
  | 73, _ => exact s4_73 hB (by kernel_rfl)
  | 74, _ => exact s4_74 hB (by kernel_rfl)
  | 75, _ => exact s4_75 hB (by kernel_rfl)
  | 76, _ => exact s4_76 hB (by kernel_rfl)
  | 77, _ => exact s4_77 hB (by kernel_rfl)
  | 78, _ => exact s4_78 hB (by kernel_rfl)
  | 79, _ => exact s4_79 hB (by kernel_rfl)
  | 80, _ => exact s4_80 hB (by kernel_rfl)
  | 81, _ => exact s4_81 hB (by kernel_rfl)
  | 82, _ => exact s4_82 hB (by kernel_rfl)
  | 83, _ => exact s4_83 hB (by kernel_rfl)
  | 84, _ => exact s4_84 hB (by kernel_rfl)
  | 85, _ => exact s4_85 hB (by kernel_rfl)
  | 86, _ => exact s4_86 hB (by kernel_rfl)
  | 87, _ => exact s4_87 hB (by kernel_rfl)
  | 88, _ => exact s4_88 hB (by kernel_rfl)
  | 89, _ => exact s4_89 hB (by kernel_rfl)
  | 90, _ => exact s4_90 hB (by kernel_rfl)
  | 91, _ => exact s4_91 hB (by kernel_rfl)
  | 92, _ => exact s4_92 hB (by kernel_rfl)
  | 93, _ => exact s4_93 hB (by kernel_rfl)
  | 94, _ => exact s4_94 hB (by kernel_rfl)
  | 95, _ => exact s4_95 hB (by kernel_rfl)
  | n + 96, h => exact absurd h (by omega)
theorem lit_region {w0 : World} {a0 : Act} {Q : Exit → Act → World → Prop} (hB : Base4 w0 a0)
    (h : ∀ (vs : Nat → Value) (w1 : World), LIT w0.heap.size (vs 95) w1 → Below w0.heap.size w0 w1 → Q .normal (fin4 a0 vs) w1) : (Code.region 4 ops4 true).wp Tryd.prog Q a0 w0 := by
  refine start_ (n := 96) (S := fun _ => True) (ds := []) (Array.replicate 96 false) mixed4 size4 rfl trivial (fun _ => ?_)
  refine inv_ (List.range 96) (GI (G4 w0.drew.heap.size) w0.drew a0) rfl waits4 base4 lof4 ⟨fun _ => undef, (putSel_no _ _).symm, (fun i _ hi => by cases hi), Grow.refl _ _⟩ (steps4 hB.drew) ?_
  rintro b a w hall ⟨vs, ha, hG, hR⟩
  have hall' : ∀ i, i < 96 → b i = true := fun i hi => hall i (by simpa using hi)
  have h1 : a = fin4 a0 vs := by
    rw [ha]
    refine putSel_yes _ _ (fun e he => ?_)
    obtain ⟨k, hk⟩ := List.mem_iff_getElem?.1 he
    have hk96 : k < 96 := by have := (List.getElem?_eq_some_iff.1 hk).1; simpa [rows4] using this
    rw [rows4_at _ hk96] at hk
    obtain rfl := Option.some.inj hk
    exact hall' k hk96
  rw [h1]
  have hb := hR.below
  exact h vs w (hG 95 (by decide) (hall' 95 (by decide))) ⟨hb.os, hb.tape, hb.output, hb.size, hb.block⟩
theorem conv_at (V : World) (s : Nat) (hs : V.heap.size = s) (b : Int) : ∃ W', (convert 27 27 (.slice (some ⟨s, 0, none⟩) 1 1)).run Tryd.prog (V.alloc (.cells #[.int .u8 b] 5)) = .ok (.slice (some ⟨s, 0, none⟩) 1 1) W' ∧ Below s V W' ∧ W'.heap.size = s + 1 ∧ ∃ fr, W'.heap[s]? = some (.cells #[.int .u8 b] 5 fr) := by
  subst hs
  exact conv_mark V b
def fr4 (w : World) (v4 : Value) (vs : Nat → Value) : Act := ⟨#[.bool false, .pointer (some ⟨w.heap.size, 0, none⟩), .int .u64 18446744073709551615, .slice (some ⟨w.heap.size + 1 + 1, 0, none⟩) 1 1, v4, undef, undef, undef, undef, undef, undef, undef, undef, undef, undef, undef, undef, undef, undef, undef, .agg #[.int .u64 2, .int .i64 1], .slice (some ⟨w.heap.size + 1, 0, none⟩) 1 1, .slice (some ⟨w.heap.size + 1, 0, none⟩) 1 1, .slice (some ⟨w.heap.size + 1 + 1, 0, none⟩) 1 1, vs 0, vs 1, vs 2, vs 3, vs 4, vs 5, vs 6, vs 7, vs 8, vs 9, vs 10, vs 11, vs 12, vs 13, vs 14, vs 15, vs 16, vs 17, vs 18, vs 19, vs 20, vs 21, vs 22, vs 23, vs 24, vs 25, vs 26, vs 27, vs 28, vs 29, vs 30, vs 31, vs 32, vs 33, vs 34, vs 35, vs 36, vs 37, vs 38, vs 39, vs 40, vs 41, vs 42, vs 43, vs 44, vs 45, vs 46, vs 47, vs 48, vs 49, vs 50, vs 51, vs 52, vs 53, vs 54, vs 55, vs 56, vs 57, vs 58, vs 59, vs 60, vs 61, vs 62, vs 63, vs 64, vs 65, vs 66, vs 67, vs 68, vs 69, vs 70, vs 71, vs 72, vs 73, vs 74, vs 75, vs 76, vs 77, vs 78, vs 79, vs 80, vs 81, vs 82, vs 83, vs 84, vs 85, vs 86, vs 87, vs 88, vs 89, vs 90, vs 91, vs 92, vs 93, vs 94, undef, undef, undef, undef, undef, undef, undef, undef, undef, undef, undef, undef, undef, undef, undef, undef, undef, undef, undef, undef, undef, undef, undef, undef, undef, undef, undef, undef, undef, undef, undef, undef, undef, undef, undef, undef, undef, undef, undef, undef, undef, undef, undef, undef, undef, undef, undef, undef, undef, undef, undef, undef, undef, undef, undef, undef, undef, undef, undef, undef, undef, undef, undef, undef, undef, undef, undef, undef, undef, undef, undef, undef, undef, undef, undef, undef, undef, undef, undef, undef, undef, undef, undef, undef, undef, undef, undef, undef, undef, undef, undef, undef, undef, undef, undef, undef, undef, undef, undef, undef, undef, undef, undef, undef, undef, undef, undef, undef, undef, undef, undef, undef, undef, undef, undef, undef, undef, undef, undef, undef, undef, undef, undef, undef, undef], []⟩
theorem fr4_eq (w : World) (v4 : Value) (vs : Nat → Value) (h : vs 95 = v4) : fin4 ⟨#[.bool false, .pointer (some ⟨w.heap.size, 0, none⟩), .int .u64 18446744073709551615, .slice (some ⟨w.heap.size + 1 + 1, 0, none⟩) 1 1, undef, undef, undef, undef, undef, undef, undef, undef, undef, undef, undef, undef, undef, undef, undef, undef, .agg #[.int .u64 2, .int .i64 1], .slice (some ⟨w.heap.size + 1, 0, none⟩) 1 1, .slice (some ⟨w.heap.size + 1, 0, none⟩) 1 1, .slice (some ⟨w.heap.size + 1 + 1, 0, none⟩) 1 1, undef, undef, undef, undef, undef, undef, undef, undef, undef, undef, undef, undef, undef, undef, undef, undef, undef, undef, undef, undef, undef, undef, undef, undef, undef, undef, undef, undef, undef, undef, undef, undef, undef, undef, undef, undef, undef, undef, undef, undef, undef, undef, undef, undef, undef, undef, undef, undef, undef, undef, undef, undef, undef, undef, undef, undef, undef, undef, undef, undef, undef, undef, undef, undef, undef, undef, undef, undef, undef, undef, undef, undef, undef, undef, undef, undef, undef, undef, undef, undef, undef, undef, undef, undef, undef, undef, undef, undef, undef, undef, undef, undef, undef, undef, undef, undef, undef, undef, undef, undef, undef, undef, undef, undef, undef, undef, undef, undef, undef, undef, undef, undef, undef, undef, undef, undef, undef, undef, undef, undef, undef, undef, undef, undef, undef, undef, undef, undef, undef, undef, undef, undef, undef, undef, undef, undef, undef, undef, undef, undef, undef, undef, undef, undef, undef, undef, undef, undef, undef, undef, undef, undef, undef, undef, undef, undef, undef, undef, undef, undef, undef, undef, undef, undef, undef, undef, undef, undef, undef, undef, undef, undef, undef, undef, undef, undef, undef, undef, undef, undef, undef, undef, undef, undef, undef, undef, undef, undef, undef, undef, undef, undef, undef, undef, undef, undef, undef, undef, undef, undef, undef, undef, undef, undef, undef, undef, undef, undef, undef, undef, undef, undef, undef, undef, undef, undef, undef, undef, undef, undef], []⟩ vs = fr4 w v4 vs := by
  subst h
  kernel_rfl
set_option maxHeartbeats 1000000 in
set_option maxRecDepth 100000 in
theorem known_head (w : World) (hrest : ∀ (g : Nat) (vs : Nat → Value) (W : World), LITAT g W → Below w.heap.size w W → rest4.wp Tryd.prog (bodyPost Tryd.prog Tryd.f5 fun e w' => e = Ending.returned (Value.bool true) ∧ Below w.heap.size w w') (fr4 w (.slice (some ⟨g, 0, none⟩) 30 30) vs) W) : Calls Tryd.prog 5 #[] w fun e w' => e = .returned (.bool true) ∧ Below w.heap.size w w' := by
  obtain ⟨W1, hv1, hb1, hs1, fr1, hh1⟩ := conv_at (w.alloc (.cells #[.int .u64 2, .int .i64 1] 24)) (w.heap.size + 1) (by simp) 120
  have hB0 := Aside0.mk (below_alloc (Below.trans (bel1 w (.cells #[.int .u64 2, .int .i64 1] 24)) (hb1.mono (by omega))) (.cells #[.slice (some ⟨w.heap.size + 1, 0, none⟩) 1 1] 27))
  have hX0 := Aside0.mk (blk_alloc ((hb1.block w.heap.size (by omega)).trans (heap_alloc_new w (.cells #[.int .u64 2, .int .i64 1] 24))) (.cells #[.slice (some ⟨w.heap.size + 1, 0, none⟩) 1 1] 27))
  have hC0 := Aside0.mk (C_one W1 _ 120 hh1)
  have hrest' := Aside0.mk hrest
  have hs1' := Aside0.mk hs1
  clear hb1 hh1 hrest
  go_enter Tryd.func5, Tryd.ntmps5
  repeat go_step
  rename_i hK
  refine lit_region ?_ (fun vs W hL hW => ?_)
  · refine ⟨rfl, ⟨w.heap.size, ?_, rfl, hX0.out⟩, rfl, ⟨_, rfl, some ⟨w.heap.size + 1 + 1, 0, none⟩, 1, rfl, Nat.le_refl _, ?_⟩⟩
    · exact blk_lt hX0.out
    · have h1 := heap_alloc_new W1 (.cells #[.slice (some ⟨w.heap.size + 1, 0, none⟩) 1 1] 27)
      rw [hs1'.out] at h1
      exact C_row1 _ _ (some ⟨w.heap.size + 1, 0, none⟩) [120] 1 (Nat.le_refl _) h1 (Kd.C_below hC0.out (bel1 _ _))
  · obtain ⟨g, hg, hv, hLA⟩ := hL
    refine hK _ _ ?_
    have h1 := hrest'.out g vs W hLA (below_step hB0.out hW)
    rw [← fr4_eq w _ vs hv] at h1
    exact h1
end Go.Proofs.YtfkfboigkpofkaaDoor.M
end
section
namespace Go.Proofs.YtfkfboigkpofkaaDoor.M
open Go.RowKit Go.Proofs.YtfkfboigkpofkaaDoorW.PrintWords Go.Proofs.YtfkfboigkpofkaaDoorW.PrintLast Go.Proofs.YtfkfboigkpofkaaDoorW.PrintMore Go.Proofs.YtfkfboigkpofkaaDoor.PMsgPuts
set_option linter.unusedVariables false
set_option linter.unusedSimpArgs false
def votesN (n : Nat) : List S52 := (List.range n).map fun j => ⟨((j : Nat) : Int) + 1, ⟨0, 0⟩, []⟩
theorem votesN_succ (n : Nat) : votesN (n + 1) = votesN n ++ [⟨(n : Int) + 1, ⟨0, 0⟩, []⟩] := by
  unfold votesN
  rw [List.range_succ, List.map_append]
  rfl
theorem votesN_len (n : Nat) : (votesN n).length = n := by simp [votesN]
theorem votesN_take (n k : Nat) (h : k ≤ n) : (votesN n).take k = votesN k := by
  unfold votesN
  rw [← List.map_take]
  congr 1
  rw [List.take_range, Nat.min_eq_left h]
def mV (n : Nat) : Mg := ⟨2, 0, 0, 0, 0, 0, votesN n, [], []⟩
def mB16 : Mg := ⟨4, 0, 0, 1, 0, 0, [], List.replicate 16 [], []⟩
theorem chkV256 : checkM (mV 256) 2 = true := by kernel_rfl
theorem chkV257 : checkM (mV 257) 2 = false := by kernel_rfl
theorem chkB16 : checkM mB16 4 = true := by kernel_rfl
theorem U_0 : U 0 := by unfold U; decide
theorem U_1 : U 1 := by unfold U; decide
theorem uv_votes (n : Nat) (hn : n < 1000) : ∀ x ∈ votesN n, UV x := by
  intro x hx
  unfold votesN at hx
  obtain ⟨j, hj, rfl⟩ := List.mem_map.1 hx
  have := List.mem_range.1 hj
  exact ⟨by unfold U; constructor <;> (show _ ; dsimp only; omega), U_0⟩
theorem whole_V (n : Nat) (hn : n < 1000) : Whole (mV n) 2 := ⟨⟨U_0, U_0, U_0, U_0, uv_votes n hn, by show (votesN n).length < _; rw [votesN_len]; omega, by show (0 : Nat) < _; decide⟩, rfl, by decide⟩
theorem small_V (n : Nat) (hn : n < 1000) : Small (mV n) := ⟨by show (votesN n).length ≤ _; rw [votesN_len]; omega, Nat.zero_le _, Nat.zero_le _, fun x hx => by
  have hx' : x ∈ votesN n := hx
  unfold votesN at hx'
  obtain ⟨j, hj, rfl⟩ := List.mem_map.1 hx'
  exact Nat.zero_le _, fun x hx => by cases hx⟩
theorem whole_B : Whole mB16 4 := ⟨⟨U_0, U_1, U_0, U_0, (fun x hx => by cases hx), by show (0 : Nat) < _; decide, by show (List.replicate 16 ([] : List Int)).length < _; decide⟩, rfl, by decide⟩
theorem small_B : Small mB16 := ⟨Nat.zero_le _, by show (List.replicate 16 ([] : List Int)).length ≤ _; decide, Nat.zero_le _, (fun x hx => by cases hx), fun x hx => by
  have hx' : x ∈ List.replicate 16 ([] : List Int) := hx
  rw [List.eq_of_mem_replicate hx']
  exact Nat.zero_le _⟩
theorem take_4 : takeM [1, 2, 3, 4] = (m0 0, 10) := by
  unfold takeM
  rw [if_pos (by decide)]
theorem sum_5 : sumOk [1, 2, 3, 4, 5] = false := by rw [sumOk_eq]; kernel_rfl
theorem take_5 : takeM [1, 2, 3, 4, 5] = (m0 0, 12) := by
  unfold takeM
  rw [if_neg (by decide), if_pos sum_5]
abbrev ZV (n : Nat) (A : Option Addr) (c : Nat) : Array Value := #[.agg #[.int .u8 2, .int .u64 0, .int .i64 0, .int .u64 0, .int .u64 0, .int .u64 0, .slice A n c, .slice none 0 0, .slice none 0 0]]
theorem lies_votes (n : Nat) (A : Option Addr) (c : Nat) (W : World) (hC : Kd.C k52 W A n (votesN n)) (hc : n ≤ c) : Lies (mV n) W A none none c 0 0 :=
  ⟨⟨by show Kd.C k52 W A (votesN n).length (votesN n); rw [votesN_len]; exact hC, C_none _ _, C_none _ _⟩, by show (votesN n).length ≤ c; rw [votesN_len]; exact hc, Nat.le_refl _, Nat.le_refl _⟩
theorem put_v256 (A : Option Addr) (c : Nat) (W : World) (T : Tabs W) (hC : Kd.C k52 W A 256 (votesN 256)) (hc : 256 ≤ c) : Calls Tryd.prog 11 (ZV 256 A c) W fun e w' => ∃ A c n, e = .returned (.tuple #[.slice A n c, .int .i64 0]) ∧ Below W.heap.size W w' := by
  have h := put_at (mV 256) 2 (whole_V 256 (by decide)) (small_V 256 (by decide)) chkV256 A none none c 0 0 W T (lies_votes 256 A c W hC hc)
  unfold Mg.cells at h
  rw [show (mV 256).V.length = 256 from votesN_len 256] at h
  refine (show Calls Tryd.prog 11 (ZV 256 A c) W _ from h).mono ?_
  rintro e w' ⟨A', c', h1, _, h2⟩
  exact ⟨A', c', _, h1, h2⟩
theorem put_v257 (A : Option Addr) (c : Nat) (W : World) (T : Tabs W) (hC : Kd.C k52 W A 257 (votesN 257)) (hc : 257 ≤ c) : Calls Tryd.prog 11 (ZV 257 A c) W fun e w' => e = .returned (.tuple #[.slice none 0 0, .int .i64 1]) ∧ Below W.heap.size W w' := by
  have h := put_at_no (mV 257) 2 (whole_V 257 (by decide)) chkV257 A none none c 0 0 W T (lies_votes 257 A c W hC hc)
  unfold Mg.cells at h
  rw [show (mV 257).V.length = 257 from votesN_len 257] at h
  exact h
theorem mk26_16 (W : World) : (Instr.makeSlice 26 (.int .i64 16) (.int .i64 16)).run Tryd.prog W = .ok (.slice (some ⟨W.heap.size, 0, none⟩) 16 16) (W.alloc (.cells (Array.replicate 16 (.slice none 0 0)) 27)) := by
  obtain ⟨i, hi, hz⟩ := Option.map_eq_some_iff.1 info27
  simp only [Prod.mk.injEq] at hz
  obtain ⟨h1, h2, h3⟩ := hz
  have := run_make (P := Tryd.prog) W 26 27 i _ Tryd.underlying26 hi h1 .i64 .i64 16 16 (by decide) (by decide) (by rw [h3]; decide) (by decide)
  rw [h2, show madeCells (Value.slice none 0 0).cells (Int.toNat 16 * 1) = Array.replicate 16 (.slice none 0 0) from by kernel_rfl] at this
  exact this
theorem put_b16 (g : Nat) (W : World) (T : Tabs W) (hb : W.heap[g]? = some (.cells (Array.replicate 16 (.slice none 0 0)) 27 (0, 0))) : Calls Tryd.prog 11 #[.agg #[.int .u8 4, .int .u64 0, .int .i64 0, .int .u64 1, .int .u64 0, .int .u64 0, .slice none 0 0, .slice (some ⟨g, 0, none⟩) 16 16, .slice none 0 0]] W fun e w' => ∃ A c n, e = .returned (.tuple #[.slice A n c, .int .i64 0]) ∧ Below W.heap.size W w' := by
  have h := put_at mB16 4 whole_B small_B chkB16 none (some ⟨g, 0, none⟩) none 0 16 0 W T ⟨⟨C_none _ _, C_nils 16 hb (by decide), C_none _ _⟩, Nat.le_refl _, by decide, Nat.le_refl _⟩
  refine (show Calls Tryd.prog 11 #[.agg #[.int .u8 4, .int .u64 0, .int .i64 0, .int .u64 1, .int .u64 0, .int .u64 0, .slice none 0 0, .slice (some ⟨g, 0, none⟩) 16 16, .slice none 0 0]] W _ from h).mono ?_
  rintro e w' ⟨A', c', h1, _, h2⟩
  exact ⟨A', c', _, h1, h2⟩
theorem C_ints {W : World} {g : Nat} {fr : Nat × Nat} (l : List Int) (hb : W.heap[g]? = some (.cells (l.map (Value.int .u8)).toArray 5 fr)) (hn : l.length ≤ 9223372036854775807) : Kd.C (Kd.int .u8) W (some ⟨g, 0, none⟩) l.length l := by
  refine C_block (Kd.int .u8) l hb hn (fun j x hj => ⟨[.int .u8 x], rfl, rfl, fun i u hu => ?_⟩)
  rcases i with _ | i
  · have hu' : u = .int .u8 x := by simpa using hu.symm
    subst hu'
    show ((l.map (Value.int .u8)).toArray)[j * 1 + 0]? = _
    simp [hj]
  · simp at hu
theorem take_to (l : List Int) (n : Nat) (hl : l.length = n) (e : Int) (h : takeM l = (m0 0, e)) (hb : Bys l) (g : Nat) (W : World) (T : Tabs W) (hn : n ≤ 100) (hh : W.heap[g]? = some (.cells (l.map (Value.int .u8)).toArray 5 (0, 0))) :
    Calls Tryd.prog 17 #[.slice (some ⟨g, 0, none⟩) n n] W fun e' w' => ∃ A6 A7 A8 n6 n7 n8 c6 c7 c8, e' = .returned (.tuple #[.agg #[.int .u8 0, .int .u64 0, .int .i64 0, .int .u64 0, .int .u64 0, .int .u64 0, .slice A6 n6 c6, .slice A7 n7 c7, .slice A8 n8 c8], .int .i64 e]) ∧ Below W.heap.size W w' := by
  subst hl
  have h1 := Take_calls (some ⟨g, 0, none⟩) l.length l (Nat.le_refl _) W T (C_ints l hh (by omega)) hb (by unfold Fits; omega)
  rw [h] at h1
  refine h1.mono ?_
  rintro e' w' ⟨vV, vB, vS, rfl, h6, h7, h8, hb⟩
  obtain ⟨A6, c6, rfl⟩ := Kd.V_slice h6
  obtain ⟨A7, c7, rfl⟩ := Kd.V_slice h7
  obtain ⟨A8, c8, rfl⟩ := Kd.V_slice h8
  exact ⟨A6, A7, A8, _, _, _, c6, c7, c8, rfl, hb⟩
end Go.Proofs.YtfkfboigkpofkaaDoor.M
end
section
namespace Go.Proofs.YtfkfboigkpofkaaDoor.M
open Go.RowKit Go.Proofs.YtfkfboigkpofkaaDoorW.PrintWords Go.Proofs.YtfkfboigkpofkaaDoorW.PrintLast Go.Proofs.YtfkfboigkpofkaaDoorW.PrintMore Go.Proofs.YtfkfboigkpofkaaDoor.PMsgPuts
set_option linter.unusedVariables false
set_option linter.unusedSimpArgs false
theorem putB_five (m : Mg) (k : Nat) : 5 ≤ (putB m k).length := by
  have h : 0 < (uvI (k : Int)).length := by
    unfold uvI
    rw [uv]
    split <;> simp
  unfold putB bodyB sumB
  simp only [List.length_append, List.length_cons, List.length_nil]
  omega
theorem str_ne {I : List Int} (h : I.isEmpty = false) : (!(strOfNums I).toList.isEmpty) = true := by
  rw [toL]
  cases I with
  | nil => cases h
  | cons x t => rfl
theorem put_at2 (m : Mg) (k : Nat) (hw : Whole m k) (hs : Small m) (hc : checkM m k = true) (A6 A7 A8 : Option Addr) (c6 c7 c8 : Nat) (W : World) (T : Tabs W) (h : Lies m W A6 A7 A8 c6 c7 c8) : Calls Tryd.prog 11 #[.agg (m.cells A6 A7 A8 c6 c7 c8)] W fun e w' => ∃ A c, e = .returned (.tuple #[.slice A (putB m k).length c, .int .i64 0]) ∧ (putB m k).length ≤ c ∧ Kd.C (Kd.int .u8) w' A (putB m k).length (putB m k) ∧ Below W.heap.size W w' := by
  have hC := checks_at m k hw A6 A7 A8 c6 c7 c8 W T h
  rw [hc] at hC
  have hk := known_of_check hc
  refine (put_yes m hw.ok k hw.hk hk.2 A6 A7 A8 c6 c7 c8 W T h.at_ hC (by have := putB_len m hs hw.ok k hk.2; unfold Fits; omega)).mono ?_
  rintro e w' ⟨v, rfl, hR, hb⟩
  obtain ⟨A, c, rfl, hl, hr⟩ := Kd.R_reads hR
  exact ⟨A, c, rfl, hl, hr, hb⟩
theorem LITAT.below {g : Nat} {W W' : World} (h : LITAT g W) (hb : Below W.heap.size W W') : LITAT g W' := by
  intro r hr
  obtain ⟨A6, A7, A8, c6, c7, c8, h1, h2⟩ := h r hr
  exact ⟨A6, A7, A8, c6, c7, c8, h1.below hb, fun q u hu => pw_cell_below hb (h2 q u hu)⟩
set_option maxHeartbeats 1000000 in
set_option maxRecDepth 100000 in
theorem known_rest (w : World) (T : Tabs w) (g : Nat) (vs : Nat → Value) (W : World) (hL : LITAT g W) (hB : Below w.heap.size w W) : rest4.wp Tryd.prog (bodyPost Tryd.prog Tryd.f5 fun e w' => e = Ending.returned (Value.bool true) ∧ Below w.heap.size w w') (fr4 w (.slice (some ⟨g, 0, none⟩) 30 30) vs) W := by
  have hT := Aside0.mk T
  have hL0 := Aside0.mk hL
  have hB0 := Aside0.mk hB
  clear T hL hB
  let Q : Exit → Act → World → Prop := (bodyPost Tryd.prog Tryd.f5 fun e w' => e = Ending.returned (Value.bool true) ∧ Below w.heap.size w w')
  show rest4.wp Tryd.prog Q (fr4 w (.slice (some ⟨g, 0, none⟩) 30 30) vs) W
  unfold rest4 fr4 Tryd.f5
  dsimp only
  repeat go_step
  go_loopg [5] 31 (fun kq v5 w' => ∃ (j : Nat), v5 = .int .i64 j ∧ Aside0 (kq + j = 31 ∧ j ≤ 30) ∧ Aside0 (LITAT g w') ∧ Aside0 (Below w.heap.size w w'))
  case atStart => exact ⟨0, rfl, ⟨by omega, by omega⟩, hL0, hB0⟩
  case round =>
    clear hL0 hB0
    obtain ⟨j, rfl, hj, hL, hB⟩ := hrel
    by_cases hj3 : j < 30
    · have hi : (j : Int) < 30 := by omega
      have hj' := Aside0.mk hj3
      obtain ⟨A6, A7, A8, c6, c7, c8, hLs, hcl⟩ := hL.out j hj3
      have hkm := (row_k j hj3).1
      obtain ⟨m, hm⟩ : ∃ m, rowM j = m := ⟨_, rfl⟩
      obtain ⟨k, hk⟩ : ∃ k, rowK j = k := ⟨_, rfl⟩
      obtain ⟨I, hI⟩ : ∃ I, rowI j = I := ⟨_, rfl⟩
      have hchk := row_chk j hj3
      have hbod := row_bod j hj3
      have hwh := row_whole j hj3
      have hsm := row_small j hj3
      unfold rowC at hcl
      rw [hm, hI] at hcl
      rw [hm] at hLs
      rw [hm, hk, hI] at hchk hbod
      rw [hm, hk] at hwh
      rw [hm] at hsm
      clear hm hk hI hkm
      have hw := Aside0.mk hwh
      have hs := Aside0.mk hsm
      have hLies := Aside0.mk hLs
      have hz0 : wr.cell? ⟨g, j * 10, none⟩ = some (.int .u8 m.k) := hcl 0 _ rfl
      have hz1 := hcl 1 _ rfl
      have hz2 := hcl 2 _ rfl
      have hz3 := hcl 3 _ rfl
      have hz4 := hcl 4 _ rfl
      have hz5 := hcl 5 _ rfl
      have hz6 := hcl 6 _ rfl
      have hz7 := hcl 7 _ rfl
      have hz8 := hcl 8 _ rfl
      have hz9 := hcl 9 _ rfl
      clear hcl hwh hsm hLs
      cases hI0 : I.isEmpty with
      | true =>
        have hIe : I = [] := List.isEmpty_iff.1 hI0
        subst hIe
        have hc : Aside0 (checkM m k = false) := ⟨hchk⟩
        have hPut : Aside0 (Calls Tryd.prog 11 #[.agg #[.int .u8 m.k, .int .u64 m.n, .int .i64 m.r, .int .u64 m.first, .int .u64 m.last, .int .u64 m.commit, .slice A6 m.V.length c6, .slice A7 m.B.length c7, .slice A8 m.S.length c8]] wr fun e w' => e = .returned (.tuple #[.slice none 0 0, .int .i64 1]) ∧ Below wr.heap.size wr w') := ⟨put_at_no m k hw.out hc.out A6 A7 A8 c6 c7 c8 _ (hT.out.below hB.out) hLies.out⟩
        have hChk : Aside0 (∀ W, Below wr.heap.size wr W → Calls Tryd.prog 10 #[.agg #[.int .u8 m.k, .int .u64 m.n, .int .i64 m.r, .int .u64 m.first, .int .u64 m.last, .int .u64 m.commit, .slice A6 m.V.length c6, .slice A7 m.B.length c7, .slice A8 m.S.length c8]] W fun e w' => e = .returned (.int .i64 1) ∧ Below W.heap.size W w') := ⟨fun W hW => by have := check_at m k hw.out A6 A7 A8 c6 c7 c8 W ((hT.out.below hB.out).below hW) (hLies.out.below hW); rwa [hc.out] at this⟩
        have hz9' : wr.cell? ⟨g, j * 10 + 9, none⟩ = some (.string ⟨#[]⟩) := hz9
        have hy0 := Aside0.mk hz0
        have hy1 := Aside0.mk hz1
        have hy2 := Aside0.mk hz2
        have hy3 := Aside0.mk hz3
        have hy4 := Aside0.mk hz4
        have hy5 := Aside0.mk hz5
        have hy6 := Aside0.mk hz6
        have hy7 := Aside0.mk hz7
        have hy8 := Aside0.mk hz8
        have hy9 := Aside0.mk hz9'
        clear hI0 hchk hbod hz9
        repeat (first
          | ((with_reducible refine gate_callee (f := 11) rfl ?_); (with_reducible refine gate_dst (N := 131) rfl ?_); refine goesL_ (some 131) rfl rfl Tryd.func11 (by kernel_rfl) rfl #[.agg #[.int .u8 m.k, .int .u64 m.n, .int .i64 m.r, .int .u64 m.first, .int .u64 m.last, .int .u64 m.commit, .slice A6 m.V.length c6, .slice A7 m.B.length c7, .slice A8 m.S.length c8]] rfl (by (try simp only [List.map_toArray, List.map_cons, List.map_nil]); first | done | rfl) ?_; refine (hPut.out).mono ?_; rintro e w4 ⟨rfl, HB4⟩; refine ⟨_, rfl, ?_⟩; have hB4 := Aside0.mk HB4; have hx0 := pw_cell_below HB4 hy0.out; have hx1 := pw_cell_below HB4 hy1.out; have hx2 := pw_cell_below HB4 hy2.out; have hx3 := pw_cell_below HB4 hy3.out; have hx4 := pw_cell_below HB4 hy4.out; have hx5 := pw_cell_below HB4 hy5.out; have hx6 := pw_cell_below HB4 hy6.out; have hx7 := pw_cell_below HB4 hy7.out; have hx8 := pw_cell_below HB4 hy8.out; have hx9 := pw_cell_below HB4 hy9.out; clear HB4; (try dsimp only))
          | ((with_reducible refine gate_callee (f := 10) rfl ?_); (with_reducible refine gate_dst (N := 153) rfl ?_); refine goesL_ (some 153) rfl rfl Tryd.func10 (by kernel_rfl) rfl #[.agg #[.int .u8 m.k, .int .u64 m.n, .int .i64 m.r, .int .u64 m.first, .int .u64 m.last, .int .u64 m.commit, .slice A6 m.V.length c6, .slice A7 m.B.length c7, .slice A8 m.S.length c8]] rfl (by (try simp only [List.map_toArray, List.map_cons, List.map_nil]); first | done | rfl) ?_; refine (hChk.out _ hB4.out).mono ?_; rintro e w5 ⟨rfl, HB5⟩; refine ⟨_, rfl, ?_⟩; have hB5 := Aside0.mk (below_step hB4.out HB5); clear HB5; (try dsimp only))
          | ((with_reducible refine Calls.mono (hChk.out _ hB4.out) ?_); rintro e w5 ⟨rfl, HB5⟩; have hB5 := Aside0.mk (below_step hB4.out HB5); clear HB5; (try dsimp only))
          | go_step)
        go_roundg (gk - 1)
        case measure => have := hj.out; omega
        case rel => exact ⟨j + 1, by go_num, ⟨by have := hj.out; omega, by have := hj'.out; omega⟩, ⟨hL.out.below hB5.out⟩, ⟨below_step hB.out hB5.out⟩⟩
      | false =>
        have hc : Aside0 (checkM m k = true) := ⟨by rw [hchk, hI0]; rfl⟩
        have hbd := Aside0.mk (hbod hI0)
        obtain ⟨n, hn⟩ : ∃ n, (putB m k).length = n := ⟨_, rfl⟩
        have hn5 : 5 ≤ n := by rw [← hn]; exact putB_five m k
        have hn9 : n < 200000010 := by rw [← hn]; exact putB_len m hs.out hw.out.ok k (known_of_check hc.out).2
        have hPut : Aside0 (Calls Tryd.prog 11 #[.agg #[.int .u8 m.k, .int .u64 m.n, .int .i64 m.r, .int .u64 m.first, .int .u64 m.last, .int .u64 m.commit, .slice A6 m.V.length c6, .slice A7 m.B.length c7, .slice A8 m.S.length c8]] wr fun e w' => ∃ A c, e = .returned (.tuple #[.slice A n c, .int .i64 0]) ∧ n ≤ c ∧ Kd.C (Kd.int .u8) w' A n (putB m k) ∧ Below wr.heap.size wr w') := by
          refine ⟨(put_at2 m k hw.out hs.out hc.out A6 A7 A8 c6 c7 c8 _ (hT.out.below hB.out) hLies.out).mono ?_⟩
          rintro e w' ⟨A, c, rfl, h1, h2, h3⟩
          rw [hn] at h1 h2 ⊢
          exact ⟨A, c, rfl, h1, h2, h3⟩
        have hn' := Aside0.mk hn
        have hne0 : (!(strOfNums I).toList.isEmpty) = true := str_ne hI0
        have hne1 : ((strOfNums I).toList.isEmpty) = false := by simpa using hne0
        have hm1 : (4 ≤ (n : Int)) = True := eq_true (by omega)
        have hd5 : decide ((n : Int) < 5) = false := decide_eq_false (by omega)
        have hy0 := Aside0.mk hz0
        have hy1 := Aside0.mk hz1
        have hy2 := Aside0.mk hz2
        have hy3 := Aside0.mk hz3
        have hy4 := Aside0.mk hz4
        have hy5 := Aside0.mk hz5
        have hy6 := Aside0.mk hz6
        have hy7 := Aside0.mk hz7
        have hy8 := Aside0.mk hz8
        have hy9 := Aside0.mk hz9
        clear hI0 hchk hbod hn
        repeat (first
          | ((with_reducible refine gate_callee (f := 11) rfl ?_); (with_reducible refine gate_dst (N := 131) rfl ?_); refine goesL_ (some 131) rfl rfl Tryd.func11 (by kernel_rfl) rfl #[.agg #[.int .u8 m.k, .int .u64 m.n, .int .i64 m.r, .int .u64 m.first, .int .u64 m.last, .int .u64 m.commit, .slice A6 m.V.length c6, .slice A7 m.B.length c7, .slice A8 m.S.length c8]] rfl (by (try simp only [List.map_toArray, List.map_cons, List.map_nil]); first | done | rfl) ?_; refine (hPut.out).mono ?_; rintro e w4 ⟨PA, pc, rfl, hpc, hPC, HB4⟩; refine ⟨_, rfl, ?_⟩; have hm2 : (4 ≤ (pc : Int)) = True := eq_true (by omega); have hB4 := Aside0.mk HB4; have hPC' := Aside0.mk hPC; have hpc' := Aside0.mk hpc; have hx0 := pw_cell_below HB4 hy0.out; have hx1 := pw_cell_below HB4 hy1.out; have hx2 := pw_cell_below HB4 hy2.out; have hx3 := pw_cell_below HB4 hy3.out; have hx4 := pw_cell_below HB4 hy4.out; have hx5 := pw_cell_below HB4 hy5.out; have hx6 := pw_cell_below HB4 hy6.out; have hx7 := pw_cell_below HB4 hy7.out; have hx8 := pw_cell_below HB4 hy8.out; have hx9 := pw_cell_below HB4 hy9.out; clear HB4 hPC hpc; (try dsimp only))
          | go_step)
        have hstr : Aside0 (∀ W, Below w4.heap.size w4 W → (convert 27 9 (.slice (if pc = 4 then PA else Option.map (fun x => (⟨x.block, x.off + 4, none⟩ : Addr)) PA) (n - 4) (pc - 4))).run Tryd.prog W = .ok (.string (strOfNums I)) W) := by
          refine ⟨fun W hW => ?_⟩
          have h1 := Kd.C_drop (m := 4) (c := pc) (xs := putB m k) (by rw [hn'.out]; exact Kd.C_below hPC'.out hW) (by rw [hn'.out]; omega) (by rw [hn'.out]; exact hpc'.out)
          have h2 := Kd.C_string (P := Tryd.prog) (c := pc - 4) Tryd.underlying27 Tryd.underlying5 Tryd.underlying9 h1
          have h3 : (putB m k).drop 4 = I := by rw [← hbd.out]; rfl
          rw [h3] at h2
          have h4 : I.length = n - 4 := by rw [← h3, List.length_drop, hn'.out]
          rw [h4] at h2
          exact h2
        have hChk : Aside0 (∀ W, Below w4.heap.size w4 W → Calls Tryd.prog 10 #[.agg #[.int .u8 m.k, .int .u64 m.n, .int .i64 m.r, .int .u64 m.first, .int .u64 m.last, .int .u64 m.commit, .slice A6 m.V.length c6, .slice A7 m.B.length c7, .slice A8 m.S.length c8]] W fun e w' => e = .returned (.int .i64 0) ∧ Below W.heap.size W w') := ⟨fun W hW => by have h9 := below_step hB4.out hW; have := check_at m k hw.out A6 A7 A8 c6 c7 c8 W ((hT.out.below hB.out).below h9) (hLies.out.below h9); rwa [hc.out] at this⟩
        clear hx0 hx1 hx2 hx3 hx4 hx5 hx6 hx7 hx8 hx9
        replace hy0 := Aside0.mk (pw_cell_below hB4.out hy0.out)
        replace hy1 := Aside0.mk (pw_cell_below hB4.out hy1.out)
        replace hy2 := Aside0.mk (pw_cell_below hB4.out hy2.out)
        replace hy3 := Aside0.mk (pw_cell_below hB4.out hy3.out)
        replace hy4 := Aside0.mk (pw_cell_below hB4.out hy4.out)
        replace hy5 := Aside0.mk (pw_cell_below hB4.out hy5.out)
        replace hy6 := Aside0.mk (pw_cell_below hB4.out hy6.out)
        replace hy7 := Aside0.mk (pw_cell_below hB4.out hy7.out)
        replace hy8 := Aside0.mk (pw_cell_below hB4.out hy8.out)
        replace hy9 := Aside0.mk (pw_cell_below hB4.out hy9.out)
        refine start_ (n := 27) (S := fun W => Below w4.heap.size w4 W) (ds := []) #[false, false, false, false, false, false, false, false, false, false, false, false, false, false, false, false, false, false, false, false, false, false, false, false, false, false, false] (by kernel_rfl) rfl rfl (below_drew1 (Below.refl _ _)) (fun hHeld => ?_)
        refine pure_ (i := 0) (N := some 156) (v := ?_) (a' := ?_) #[true, false, false, false, false, false, false, false, false, false, false, false, false, false, false, false, false, false, false, false, false, false, false, false, false, false, false] rfl rfl (by kernel_rfl) (fun _ _ _ h => h) (Or.inl ⟨by rfl, ?_⟩) ?_ ?_
        rotate_left
        · intro w'
          go_simp
          with_reducible rfl
        rotate_left
        · simp only [Act.put, List.setIfInBounds_toArray, List.set_cons_zero, List.set_cons_succ, i64_w, i32_w]
          rfl
        refine pure_ (i := 1) (N := some 157) (v := ?_) (a' := ?_) #[true, true, false, false, false, false, false, false, false, false, false, false, false, false, false, false, false, false, false, false, false, false, false, false, false, false, false] rfl rfl (by kernel_rfl) (fun _ _ _ h => h) (Or.inl ⟨by rfl, ?_⟩) ?_ ?_
        rotate_left
        · intro w'
          go_simp
          with_reducible rfl
        rotate_left
        · simp only [Act.put, List.setIfInBounds_toArray, List.set_cons_zero, List.set_cons_succ, i64_w, i32_w]
          rfl
        refine pure_ (i := 2) (N := some 158) (v := ?_) (a' := ?_) #[true, true, true, false, false, false, false, false, false, false, false, false, false, false, false, false, false, false, false, false, false, false, false, false, false, false, false] rfl rfl (by kernel_rfl) (fun _ _ _ h => h) (Or.inl ⟨by rfl, ?_⟩) ?_ ?_
        rotate_left
        · intro w'
          go_simp
          with_reducible rfl
        rotate_left
        · simp only [Act.put, List.setIfInBounds_toArray, List.set_cons_zero, List.set_cons_succ, i64_w, i32_w]
          rfl
        refine pure_ (i := 3) (N := some 159) (v := ?_) (a' := ?_) #[true, true, true, true, false, false, false, false, false, false, false, false, false, false, false, false, false, false, false, false, false, false, false, false, false, false, false] rfl rfl (by kernel_rfl) (fun _ _ _ h => h) (Or.inl ⟨by rfl, ?_⟩) ?_ ?_
        rotate_left
        · intro w'
          go_simp
          with_reducible rfl
        rotate_left
        · simp only [Act.put, List.setIfInBounds_toArray, List.set_cons_zero, List.set_cons_succ, i64_w, i32_w]
          rfl
        refine pure_ (i := 4) (N := some 160) (v := ?_) (a' := ?_) #[true, true, true, true, true, false, false, false, false, false, false, false, false, false, false, false, false, false, false, false, false, false, false, false, false, false, false] rfl rfl (by kernel_rfl) (fun _ _ _ h => h) (Or.inl ⟨by rfl, ?_⟩) ?_ ?_
        rotate_left
        · intro w'
          go_simp
          with_reducible rfl
        rotate_left
        · simp only [Act.put, List.setIfInBounds_toArray, List.set_cons_zero, List.set_cons_succ, i64_w, i32_w]
          rfl
        refine pure_ (i := 5) (N := some 161) (v := ?_) (a' := ?_) #[true, true, true, true, true, true, false, false, false, false, false, false, false, false, false, false, false, false, false, false, false, false, false, false, false, false, false] rfl rfl (by kernel_rfl) (fun _ _ _ h => h) (Or.inl ⟨by rfl, ?_⟩) ?_ ?_
        rotate_left
        · intro w'
          go_simp
          with_reducible rfl
        rotate_left
        · simp only [Act.put, List.setIfInBounds_toArray, List.set_cons_zero, List.set_cons_succ, i64_w, i32_w]
          rfl
        refine pure_ (i := 6) (N := some 162) (v := ?_) (a' := ?_) #[true, true, true, true, true, true, true, false, false, false, false, false, false, false, false, false, false, false, false, false, false, false, false, false, false, false, false] rfl rfl (by kernel_rfl) (fun _ _ _ h => h) (Or.inl ⟨by rfl, ?_⟩) ?_ ?_
        rotate_left
        · intro w'
          go_simp
          with_reducible rfl
        rotate_left
        · simp only [Act.put, List.setIfInBounds_toArray, List.set_cons_zero, List.set_cons_succ, i64_w, i32_w]
          rfl
        refine pure_ (i := 7) (N := some 163) (v := ?_) (a' := ?_) #[true, true, true, true, true, true, true, true, false, false, false, false, false, false, false, false, false, false, false, false, false, false, false, false, false, false, false] rfl rfl (by kernel_rfl) (fun _ _ _ h => h) (Or.inl ⟨by rfl, ?_⟩) ?_ ?_
        rotate_left
        · intro w'
          go_simp
          with_reducible rfl
        rotate_left
        · simp only [Act.put, List.setIfInBounds_toArray, List.set_cons_zero, List.set_cons_succ, i64_w, i32_w]
          rfl
        refine pure_ (i := 8) (N := some 164) (v := ?_) (a' := ?_) #[true, true, true, true, true, true, true, true, true, false, false, false, false, false, false, false, false, false, false, false, false, false, false, false, false, false, false] rfl rfl (by kernel_rfl) (fun _ _ _ h => h) (Or.inl ⟨by rfl, ?_⟩) ?_ ?_
        rotate_left
        · intro w'
          go_simp
          with_reducible rfl
        rotate_left
        · simp only [Act.put, List.setIfInBounds_toArray, List.set_cons_zero, List.set_cons_succ, i64_w, i32_w]
          rfl
        refine pure_ (i := 9) (N := some 165) (v := ?_) (a' := ?_) #[true, true, true, true, true, true, true, true, true, true, false, false, false, false, false, false, false, false, false, false, false, false, false, false, false, false, false] rfl rfl (by kernel_rfl) (fun _ _ _ h => h) (Or.inl ⟨by rfl, ?_⟩) ?_ ?_
        rotate_left
        · intro w'
          go_simp
          with_reducible rfl
        rotate_left
        · simp only [Act.put, List.setIfInBounds_toArray, List.set_cons_zero, List.set_cons_succ, i64_w, i32_w]
          rfl
        refine take_ (i := 10) (N := some 166) (v := ?_) (a' := ?_) #[true, true, true, true, true, true, true, true, true, true, true, false, false, false, false, false, false, false, false, false, false, false, false, false, false, false, false] rfl rfl (by kernel_rfl) (fun _ _ _ h => h) (Or.inl ⟨by rfl, ?_⟩) hHeld ?_ ?_
        rotate_left
        · rintro w' hS
          have hcv := hstr.out _ hS
          go_simp
          with_reducible rfl
        rotate_left
        · simp only [Act.put, List.setIfInBounds_toArray, List.set_cons_zero, List.set_cons_succ, i64_w, i32_w]
          rfl
        refine pure_ (i := 11) (N := some 167) (v := ?_) (a' := ?_) #[true, true, true, true, true, true, true, true, true, true, true, true, false, false, false, false, false, false, false, false, false, false, false, false, false, false, false] rfl rfl (by kernel_rfl) (fun _ _ _ h => h) (Or.inl ⟨by rfl, ?_⟩) ?_ ?_
        rotate_left
        · intro w'
          go_simp
          with_reducible rfl
        rotate_left
        · simp only [Act.put, List.setIfInBounds_toArray, List.set_cons_zero, List.set_cons_succ, i64_w, i32_w]
          rfl
        refine pure_ (i := 12) (N := some 168) (v := ?_) (a' := ?_) #[true, true, true, true, true, true, true, true, true, true, true, true, true, false, false, false, false, false, false, false, false, false, false, false, false, false, false] rfl rfl (by kernel_rfl) (fun _ _ _ h => h) (Or.inl ⟨by rfl, ?_⟩) ?_ ?_
        rotate_left
        · intro w'
          go_simp
          with_reducible rfl
        rotate_left
        · simp only [Act.put, List.setIfInBounds_toArray, List.set_cons_zero, List.set_cons_succ, i64_w, i32_w]
          rfl
        refine pure_ (i := 13) (N := some 169) (v := ?_) (a' := ?_) #[true, true, true, true, true, true, true, true, true, true, true, true, true, true, false, false, false, false, false, false, false, false, false, false, false, false, false] rfl rfl (by kernel_rfl) (fun _ _ _ h => h) (Or.inl ⟨by rfl, ?_⟩) ?_ ?_
        rotate_left
        · intro w'
          go_simp
          with_reducible rfl
        rotate_left
        · simp only [Act.put, List.setIfInBounds_toArray, List.set_cons_zero, List.set_cons_succ, i64_w, i32_w]
          rfl
        refine pure_ (i := 14) (N := some 170) (v := ?_) (a' := ?_) #[true, true, true, true, true, true, true, true, true, true, true, true, true, true, true, false, false, false, false, false, false, false, false, false, false, false, false] rfl rfl (by kernel_rfl) (fun _ _ _ h => h) (Or.inl ⟨by rfl, ?_⟩) ?_ ?_
        rotate_left
        · intro w'
          go_simp
          with_reducible rfl
        rotate_left
        · simp only [Act.put, List.setIfInBounds_toArray, List.set_cons_zero, List.set_cons_succ, i64_w, i32_w]
          rfl
        refine take_ (i := 15) (N := some 171) (v := ?_) (a' := ?_) #[true, true, true, true, true, true, true, true, true, true, true, true, true, true, true, true, false, false, false, false, false, false, false, false, false, false, false] rfl rfl (by kernel_rfl) (fun _ _ _ h => h) (Or.inl ⟨by rfl, ?_⟩) hHeld ?_ ?_
        rotate_left
        · rintro w' hS
          have hx9 := pw_cell_below hS hy9.out
          go_simp
          with_reducible rfl
        rotate_left
        · simp only [Act.put, List.setIfInBounds_toArray, List.set_cons_zero, List.set_cons_succ, i64_w, i32_w]
          rfl
        refine pure_ (i := 16) (N := some 172) (v := ?_) (a' := ?_) #[true, true, true, true, true, true, true, true, true, true, true, true, true, true, true, true, true, false, false, false, false, false, false, false, false, false, false] rfl rfl (by kernel_rfl) (fun _ _ _ h => h) (Or.inl ⟨by rfl, ?_⟩) ?_ ?_
        rotate_left
        · intro w'
          go_simp
          with_reducible rfl
        rotate_left
        · simp only [Act.put, List.setIfInBounds_toArray, List.set_cons_zero, List.set_cons_succ, i64_w, i32_w]
          rfl
        refine pure_ (i := 17) (N := some 173) (v := ?_) (a' := ?_) #[true, true, true, true, true, true, true, true, true, true, true, true, true, true, true, true, true, true, false, false, false, false, false, false, false, false, false] rfl rfl (by kernel_rfl) (fun _ _ _ h => h) (Or.inl ⟨by rfl, ?_⟩) ?_ ?_
        rotate_left
        · intro w'
          go_simp
          with_reducible rfl
        rotate_left
        · simp only [Act.put, List.setIfInBounds_toArray, List.set_cons_zero, List.set_cons_succ, i64_w, i32_w]
          rfl
        refine pure_ (i := 18) (N := some 174) (v := ?_) (a' := ?_) #[true, true, true, true, true, true, true, true, true, true, true, true, true, true, true, true, true, true, true, false, false, false, false, false, false, false, false] rfl rfl (by kernel_rfl) (fun _ _ _ h => h) (Or.inl ⟨by rfl, ?_⟩) ?_ ?_
        rotate_left
        · intro w'
          go_simp
          with_reducible rfl
        rotate_left
        · simp only [Act.put, List.setIfInBounds_toArray, List.set_cons_zero, List.set_cons_succ, i64_w, i32_w]
          rfl
        refine pure_ (i := 19) (N := some 175) (v := ?_) (a' := ?_) #[true, true, true, true, true, true, true, true, true, true, true, true, true, true, true, true, true, true, true, true, false, false, false, false, false, false, false] rfl rfl (by kernel_rfl) (fun _ _ _ h => h) (Or.inl ⟨by rfl, ?_⟩) ?_ ?_
        rotate_left
        · intro w'
          go_simp
          with_reducible rfl
        rotate_left
        · simp only [Act.put, List.setIfInBounds_toArray, List.set_cons_zero, List.set_cons_succ, i64_w, i32_w]
          rfl
        refine pure_ (i := 20) (N := some 176) (v := ?_) (a' := ?_) #[true, true, true, true, true, true, true, true, true, true, true, true, true, true, true, true, true, true, true, true, true, false, false, false, false, false, false] rfl rfl (by kernel_rfl) (fun _ _ _ h => h) (Or.inl ⟨by rfl, ?_⟩) ?_ ?_
        rotate_left
        · intro w'
          go_simp
          with_reducible rfl
        rotate_left
        · simp only [Act.put, List.setIfInBounds_toArray, List.set_cons_zero, List.set_cons_succ, i64_w, i32_w]
          rfl
        refine pure_ (i := 21) (N := some 177) (v := ?_) (a' := ?_) #[true, true, true, true, true, true, true, true, true, true, true, true, true, true, true, true, true, true, true, true, true, true, false, false, false, false, false] rfl rfl (by kernel_rfl) (fun _ _ _ h => h) (Or.inl ⟨by rfl, ?_⟩) ?_ ?_
        rotate_left
        · intro w'
          go_simp
          with_reducible rfl
        rotate_left
        · simp only [Act.put, List.setIfInBounds_toArray, List.set_cons_zero, List.set_cons_succ, i64_w, i32_w]
          rfl
        refine pure_ (i := 22) (N := some 178) (v := ?_) (a' := ?_) #[true, true, true, true, true, true, true, true, true, true, true, true, true, true, true, true, true, true, true, true, true, true, true, false, false, false, false] rfl rfl (by kernel_rfl) (fun _ _ _ h => h) (Or.inl ⟨by rfl, ?_⟩) ?_ ?_
        rotate_left
        · intro w'
          go_simp
          with_reducible rfl
        rotate_left
        · simp only [Act.put, List.setIfInBounds_toArray, List.set_cons_zero, List.set_cons_succ, i64_w, i32_w]
          rfl
        refine take_ (i := 23) (N := some 179) (v := ?_) (a' := ?_) #[true, true, true, true, true, true, true, true, true, true, true, true, true, true, true, true, true, true, true, true, true, true, true, true, false, false, false] rfl rfl (by kernel_rfl) (fun _ _ _ h => h) (Or.inl ⟨by rfl, ?_⟩) hHeld ?_ ?_
        rotate_left
        · rintro w' hS
          have hx0 := pw_cell_below hS hy0.out
          have hx1 := pw_cell_below hS hy1.out
          have hx2 := pw_cell_below hS hy2.out
          have hx3 := pw_cell_below hS hy3.out
          have hx4 := pw_cell_below hS hy4.out
          have hx5 := pw_cell_below hS hy5.out
          have hx6 := pw_cell_below hS hy6.out
          have hx7 := pw_cell_below hS hy7.out
          have hx8 := pw_cell_below hS hy8.out
          go_simp
          with_reducible rfl
        rotate_left
        · simp only [Act.put, List.setIfInBounds_toArray, List.set_cons_zero, List.set_cons_succ, i64_w, i32_w]
          rfl
        refine one_ (i := 24) (N := some 180) #[true, true, true, true, true, true, true, true, true, true, true, true, true, true, true, true, true, true, true, true, true, true, true, true, true, false, false] rfl rfl (by kernel_rfl) (by decide) (fun K hK => ?_)
        refine goes_ Tryd.func10 (by kernel_rfl) rfl #[.agg #[.int .u8 m.k, .int .u64 m.n, .int .i64 m.r, .int .u64 m.first, .int .u64 m.last, .int .u64 m.commit, .slice A6 m.V.length c6, .slice A7 m.B.length c7, .slice A8 m.S.length c8]] (by rfl) rfl rfl (by (try simp only [List.map_toArray, List.map_cons, List.map_nil]); first | done | rfl) ?_
        refine (hChk.out _ hHeld).mono ?_
        rintro e w5 ⟨rfl, HB5⟩
        refine ⟨_, rfl, ?_⟩
        have hB5 := Aside0.mk (below_step hHeld HB5)
        clear hHeld HB5
        refine hK.out _ _ hB5.out (fun hHeld => ?_)
        clear hK K
        refine norm_ (a' := ?_) ?_ ?_
        rotate_left
        · show Act.put _ (some 180) _ = _
          simp only [Act.put, List.setIfInBounds_toArray, List.set_cons_zero, List.set_cons_succ, i64_w, i32_w]
          rfl
        refine pure_ (i := 25) (N := some 181) (v := ?_) (a' := ?_) #[true, true, true, true, true, true, true, true, true, true, true, true, true, true, true, true, true, true, true, true, true, true, true, true, true, true, false] rfl rfl (by kernel_rfl) (fun _ _ _ h => h) (Or.inl ⟨by rfl, ?_⟩) ?_ ?_
        rotate_left
        · intro w'
          go_simp
          with_reducible rfl
        rotate_left
        · simp only [Act.put, List.setIfInBounds_toArray, List.set_cons_zero, List.set_cons_succ, i64_w, i32_w]
          rfl
        refine pure_ (i := 26) (N := some 182) (v := ?_) (a' := ?_) #[true, true, true, true, true, true, true, true, true, true, true, true, true, true, true, true, true, true, true, true, true, true, true, true, true, true, true] rfl rfl (by kernel_rfl) (fun _ _ _ h => h) (Or.inl ⟨by rfl, ?_⟩) ?_ ?_
        rotate_left
        · intro w'
          go_simp
          with_reducible rfl
        rotate_left
        · simp only [Act.put, List.setIfInBounds_toArray, List.set_cons_zero, List.set_cons_succ, i64_w, i32_w]
          rfl
        refine done_ (by kernel_rfl) ?_
        repeat go_step
        have hBz := Aside0.mk (below_step hB4.out hB5.out)
        go_roundg (gk - 1)
        case measure => have := hj.out; omega
        case rel => exact ⟨j + 1, by go_num, ⟨by have := hj.out; omega, by have := hj'.out; omega⟩, ⟨hL.out.below hBz.out⟩, ⟨below_step hB.out hBz.out⟩⟩
    · have hi : ¬ (j : Int) < 30 := by omega
      clear hj3
      repeat go_step
      have hB1 := Aside0.mk hB.out
      clear hi hj hL hB
      go_loopg [8, 9] 258 (fun kq v8 v9 w' => ∃ (i : Nat) (u : Value), u = v8 ∧ v9 = .int .i64 i ∧ Aside0 (kq + i = 258 ∧ i ≤ 257) ∧ Aside0 (Kd.N k52 52 w' w.heap.size (fun k => w.heap.size ≤ k) u (votesN i)) ∧ Aside0 (Below w.heap.size w w'))
      case atStart => exact ⟨0, _, rfl, rfl, ⟨by omega, by omega⟩, ⟨Kd.N_nil _ _ _ _ _⟩, hB1⟩
      case round =>
        clear hB1
        obtain ⟨i, u, rfl, rfl, hj, HN, hB⟩ := hrel
        by_cases hi0 : i < 257
        · have hi : (i : Int) < 257 := by omega
          have hi' := Aside0.mk hi0
          repeat (first
            | ((with_reducible refine gate_builtin (b := .append) (xs := #[.tmp 187, .tmp 192]) rfl ?_); at_builtin; refine Kd.N_append k52 (w0 := w) w.heap.size rfl (.tmp 187) (.tmp 192) 25 52 (.agg #[(.int .u64 0), (.int .u64 0), (.int .i64 0), (.slice none 0 0)]) 48 rfl Tryd.underlying25 info52 rfl (by decide) (by omega) u (votesN i) ⟨(i : Int) + 1, ⟨0, 0⟩, []⟩ [.int .u64 ((i : Int) + 1), .int .u64 0, .int .i64 0, .slice none 0 0] (fun k => w.heap.size ≤ k) (fun _ => False) rfl rfl (FK_vote (x := ⟨(i : Int) + 1, ⟨0, 0⟩, []⟩) (Kd.V_nil (Kd.int .u8) 5 _ 0 (fun _ => False))) (fun k h => h.elim) (fun k hk => Nat.le_trans hB.out.size hk) HN.out hB.out hB.out.size (by rw [votesN_len]; omega) ?_; intro v4 w4 HN4_ HB4_ _ _; have HN4 := Aside0.mk HN4_; have HB4 := Aside0.mk HB4_; clear HN4_ HB4_; (try dsimp only))
            | go_step)
          go_roundg (gk - 1)
          case measure => have := hj.out; omega
          case rel => exact ⟨i + 1, v4, rfl, by go_num, ⟨by have := hj.out; omega, by have := hi'.out; omega⟩, ⟨by rw [votesN_succ]; exact HN4.out⟩, HB4⟩
        · have hi : ¬ (i : Int) < 257 := by omega
          obtain rfl : i = 257 := by have := hj.out; omega
          obtain ⟨A, c, rfl, hc, hC⟩ := Kd.N_reads HN.out
          have hlen := votesN_len 257
          rw [hlen] at hc hC
          rw [hlen]
          have hC257 := Aside0.mk hC
          have hC256 : Aside0 (Kd.C k52 wr A 256 (votesN 256)) := by
            have h1 := Kd.C_take (m := 256) (xs := votesN 257) (by rw [hlen]; exact hC) (by rw [hlen]; decide)
            rw [votesN_take 257 256 (by decide), votesN_len] at h1
            exact ⟨h1⟩
          have hc' := Aside0.mk hc
          have hm2 : (256 ≤ (c : Int)) = True := eq_true (by omega)
          have hm3 : ((256 : Int).toNat ≤ c) := by show 256 ≤ c; omega
          clear hC hlen hc HN hj hi0
          repeat (first
            | ((with_reducible refine gate_callee (f := 11) rfl ?_); (with_reducible refine gate_dst (N := 198) rfl ?_); refine goesL_ (some 198) rfl rfl Tryd.func11 (by kernel_rfl) rfl #[.agg #[.int .u8 2, .int .u64 0, .int .i64 0, .int .u64 0, .int .u64 0, .int .u64 0, .slice A 256 c, .slice none 0 0, .slice none 0 0]] rfl (by (try simp only [List.map_toArray, List.map_cons, List.map_nil]); first | done | rfl) ?_; refine (put_v256 A c _ (hT.out.below hB.out) hC256.out (by have := hc'.out; omega)).mono ?_; rintro e w2 ⟨P1, p1, q1, rfl, HB2⟩; refine ⟨_, rfl, ?_⟩; have hB2 := Aside0.mk (below_step hB.out HB2); have hC2 := Aside0.mk (Kd.C_below hC257.out HB2); clear HB2; (try dsimp only))
            | ((with_reducible refine gate_callee (f := 11) rfl ?_); (with_reducible refine gate_dst (N := 204) rfl ?_); refine goesL_ (some 204) rfl rfl Tryd.func11 (by kernel_rfl) rfl #[.agg #[.int .u8 2, .int .u64 0, .int .i64 0, .int .u64 0, .int .u64 0, .int .u64 0, .slice A 257 c, .slice none 0 0, .slice none 0 0]] rfl (by (try simp only [List.map_toArray, List.map_cons, List.map_nil]); first | done | rfl) ?_; refine (put_v257 A c _ (hT.out.below hB2.out) hC2.out hc'.out).mono ?_; rintro e w3 ⟨rfl, HB3⟩; refine ⟨_, rfl, ?_⟩; have hB3 := Aside0.mk (below_step hB2.out HB3); have hmk := mk26_16 w3; have hX3 := Aside0.mk (heap_alloc_new w3 (.cells (Array.replicate 16 (.slice none 0 0)) 27)); have hB3' := Aside0.mk (below_alloc hB3.out (.cells (Array.replicate 16 (.slice none 0 0)) 27)); clear HB3; (try dsimp only))
            | ((with_reducible refine gate_callee (f := 11) rfl ?_); (with_reducible refine gate_dst (N := 210) rfl ?_); refine goesL_ (some 210) rfl rfl Tryd.func11 (by kernel_rfl) rfl #[.agg #[.int .u8 4, .int .u64 0, .int .i64 0, .int .u64 1, .int .u64 0, .int .u64 0, .slice none 0 0, .slice (some ⟨w3.heap.size, 0, none⟩) 16 16, .slice none 0 0]] rfl (by (try simp only [List.map_toArray, List.map_cons, List.map_nil]); first | done | rfl) ?_; refine (put_b16 w3.heap.size _ (hT.out.below hB3'.out) hX3.out).mono ?_; rintro e w5 ⟨P2, p2, q2, rfl, HB5⟩; refine ⟨_, rfl, ?_⟩; have hB5 := Aside0.mk (below_alloc (below_step hB3'.out HB5) (.cells #[.int .u8 1, .int .u8 2, .int .u8 3, .int .u8 4] 5)); have hX5 := Aside0.mk (heap_alloc_new w5 (.cells #[.int .u8 1, .int .u8 2, .int .u8 3, .int .u8 4] 5)); clear HB5 hmk; (try dsimp only))
            | ((with_reducible refine gate_callee (f := 17) rfl ?_); (with_reducible refine gate_dst (N := 215) rfl ?_); refine goesL_ (some 215) rfl rfl Tryd.func17 (by kernel_rfl) rfl #[.slice (some ⟨w5.heap.size, 0, none⟩) 4 4] rfl (by (try simp only [List.map_toArray, List.map_cons, List.map_nil]); first | done | rfl) ?_; refine (take_to [1, 2, 3, 4] 4 rfl 10 take_4 (by unfold Bys; decide) w5.heap.size _ (hT.out.below hB5.out) (by decide) hX5.out).mono ?_; rintro e w6 ⟨A6, A7, A8, n6, n7, n8, c6, c7, c8, rfl, HB6⟩; refine ⟨_, rfl, ?_⟩; have hB6 := Aside0.mk (below_alloc (below_alloc (below_step hB5.out HB6) (.cells #[.int .u8 0, .int .u64 0, .int .i64 0, .int .u64 0, .int .u64 0, .int .u64 0, .slice A6 n6 c6, .slice A7 n7 c7, .slice A8 n8 c8] 29)) (.cells #[.int .u8 1, .int .u8 2, .int .u8 3, .int .u8 4, .int .u8 5] 5)); have hX6 : Aside0 (((w6.alloc (.cells #[.int .u8 0, .int .u64 0, .int .i64 0, .int .u64 0, .int .u64 0, .int .u64 0, .slice A6 n6 c6, .slice A7 n7 c7, .slice A8 n8 c8] 29)).alloc (.cells #[.int .u8 1, .int .u8 2, .int .u8 3, .int .u8 4, .int .u8 5] 5)).heap[w6.heap.size + 1]? = some (.cells #[.int .u8 1, .int .u8 2, .int .u8 3, .int .u8 4, .int .u8 5] 5 (0, 0))) := ⟨by have h9 := heap_alloc_new (w6.alloc (.cells #[.int .u8 0, .int .u64 0, .int .i64 0, .int .u64 0, .int .u64 0, .int .u64 0, .slice A6 n6 c6, .slice A7 n7 c7, .slice A8 n8 c8] 29)) (.cells #[.int .u8 1, .int .u8 2, .int .u8 3, .int .u8 4, .int .u8 5] 5); simpa using h9⟩; clear HB6; (try dsimp only))
            | ((with_reducible refine gate_callee (f := 17) rfl ?_); (with_reducible refine gate_dst (N := 220) rfl ?_); refine goesL_ (some 220) rfl rfl Tryd.func17 (by kernel_rfl) rfl #[.slice (some ⟨w6.heap.size + 1, 0, none⟩) 5 5] rfl (by (try simp only [List.map_toArray, List.map_cons, List.map_nil]); first | done | rfl) ?_; refine (take_to [1, 2, 3, 4, 5] 5 rfl 12 take_5 (by unfold Bys; decide) (w6.heap.size + 1) _ (hT.out.below hB6.out) (by decide) hX6.out).mono ?_; rintro e w7 ⟨D6, D7, D8, m6, m7, m8, d6, d7, d8, rfl, HB7⟩; refine ⟨_, rfl, ?_⟩; have hB7 := Aside0.mk (below_alloc (below_step hB6.out HB7) (.cells #[.int .u8 0, .int .u64 0, .int .i64 0, .int .u64 0, .int .u64 0, .int .u64 0, .slice D6 m6 d6, .slice D7 m7 d7, .slice D8 m8 d8] 29)); clear HB7; (try dsimp only))
            | ((with_reducible refine gate_callee (f := 8) rfl ?_); (with_reducible refine gate_dst (N := 242) rfl ?_); refine goesL_ (some 242) rfl rfl Tryd.func8 (by kernel_rfl) rfl #[] rfl (by (try simp only [List.map_toArray, List.map_cons, List.map_nil]); first | done | rfl) ?_; refine (wakes_at w _ hT.out hB7.out).mono ?_; rintro e w8 ⟨rfl, HB8⟩; refine ⟨_, rfl, ?_⟩; have hB8 := Aside0.mk (below_step hB7.out HB8); clear HB8; (try dsimp only))
            | ((with_reducible refine Calls.mono (wakes_at w _ hT.out hB7.out) ?_); rintro e w8 ⟨rfl, HB8⟩; have hB8 := Aside0.mk (below_step hB7.out HB8); clear HB8; (try dsimp only))
            | go_step)
          go_ret
          exact ⟨rfl, hB8.out⟩
theorem mknown_calls (w : World) (T : Tabs w) : Calls Tryd.prog 5 #[] w fun e w' => e = .returned (.bool true) ∧ Below w.heap.size w w' :=
  known_head w (fun g vs W hL hB => known_rest w T g vs W hL hB)
end Go.Proofs.YtfkfboigkpofkaaDoor.M
end
section
namespace Go.Proofs.YtfkfboigkpofkaaDoor.M
open Go.RowKit Go.Proofs.YtfkfboigkpofkaaDoorW.PrintWords Go.Proofs.YtfkfboigkpofkaaDoorW.PrintLast Go.Proofs.YtfkfboigkpofkaaDoorW.PrintMore Go.Proofs.YtfkfboigkpofkaaDoor.PMsgPuts
set_option linter.unusedVariables false
set_option linter.unusedSimpArgs false
open Go.ChangeShapes Go.WideShapes Go.ChangeAt Go.Deep
abbrev laidL : List (String × DataW Unit) := [("quorate/crc.steps", Rows.laid_quorate_crc_steps), ("quorate/msg.fields", Rows.laid_quorate_msg_fields)]
theorem gSteps : Tryd.prog.globalNamed "quorate/crc.steps" = some 2 := by kernel_rfl
theorem gFields : Tryd.prog.globalNamed "quorate/msg.fields" = some 0 := by kernel_rfl
theorem tSteps : (Tryd.prog.globals[2]?).map (·.type) = some 115 := by kernel_rfl
theorem tFields : (Tryd.prog.globals[0]?).map (·.type) = some 57 := by kernel_rfl
theorem cells_strs {H : Type} {enc : TypeId × Value → H} {P : Program} {w : World} {base : Nat} {sp : Nat → Bool} {held : Bool} {fuel : Nat} {t e : TypeId} {n : Nat} {cs : List Value} {ls : List (List UInt8)} {p : List MemPlace}
    (ht : P.underlying t = some (.array n e)) (he : P.underlying e = some .string) (hce : P.cellsOf e = 1)
    (h : DataW.trod enc P w base sp held fuel t cs = some (.agg (ls.map fun l => DataW.lit (Lit.string l)), p)) : ∀ (i : Nat) (l : List UInt8), ls[i]? = some l → cs[i]? = some (Value.string ⟨l.toArray⟩) := by
  obtain ⟨xs, m, _, hx, _, hn, hel⟩ := DataW.trod_array ht h
  simp only [Prod.mk.injEq, DataW.agg.injEq] at hx
  intro i l hl
  have h1 : (xs.map (·.1))[i]? = some (DataW.lit (.string l) : DataW H) := by
    rw [← hx.1, List.getElem?_map, hl]
    rfl
  rw [List.getElem?_map, Option.map_eq_some_iff] at h1
  obtain ⟨y, hy, hy2⟩ := h1
  have hin : i < n := by rw [← hn]; exact (List.getElem?_eq_some_iff.1 hy).1
  have h2 := hel i hin
  rw [hy, hce] at h2
  obtain ⟨s, hs1, hs2, _⟩ := DataW.trod_string he h2
  have h3 : cs[i]? = some (.string s) := by
    have := congrArg (·[0]?) hs1
    simpa [List.getElem?_take, List.getElem?_drop] using this
  rw [hs2] at hy2
  simp only [DataW.lit.injEq, Lit.string.injEq] at hy2
  rw [h3, ← hy2]
theorem tabs_of_laid {W : World} (h : laidMetH Tryd.prog laidL W) : Tabs W := by
  rw [MakeChecks.laidMetH_plain _ _ _ (by kernel_rfl)] at h
  obtain ⟨ps, ⟨g0, t0, cs0, f0, p0, q0, hg0, ht0, hv0, hd0, ⟨g1, t1, cs1, f1, p1, q1, hg1, ht1, hv1, hd1, _, _⟩, _⟩, _, _⟩ := h
  obtain rfl := Option.some.inj (gSteps.symm.trans hg0)
  obtain rfl := Option.some.inj (gFields.symm.trans hg1)
  obtain rfl := Option.some.inj (tSteps.symm.trans ht0)
  obtain rfl := Option.some.inj (tFields.symm.trans ht1)
  have e0 := Lib.cells_of_tab (zs := (List.range 16).map fun i => stp i) (k := .u32) Tryd.underlying115 Tryd.underlying64 (by kernel_rfl) (by kernel_rfl) hd0
  have e1 := cells_strs (ls := (List.range 9).map fun i => fld i) Tryd.underlying57 Tryd.underlying9 (by kernel_rfl) hd1
  refine ⟨fun i hi => ?_, fun i hi => ?_⟩
  · rw [World.var?_cell hg1 hv1 i]
    have h1 := e1 i (fld i) (by rw [List.getElem?_map, List.getElem?_range hi]; rfl)
    rw [Array.getElem?_toList] at h1
    exact h1
  · rw [World.var?_cell hg0 hv0 i, ← Array.getElem?_toList, e0]
    simp [List.getElem?_range hi]
section
variable {H : Type} {enc : TypeId × Value → H} {w : World}
end
end Go.Proofs.YtfkfboigkpofkaaDoor.M
end
