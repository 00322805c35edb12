/- Parts of a proof, pruned and joined by flat.py out of: PMsgPutsx9, MXa. -/
import Derived.Test.YtfkfboigkpofkaaDoorCPuts11
section
namespace Go.Proofs.YtfkfboigkpofkaaDoor.PMsgPuts
open Go.RowKit Go.Proofs.YtfkfboigkpofkaaDoorW.PrintWords Go.Proofs.YtfkfboigkpofkaaDoorW.PrintLast Go.Proofs.YtfkfboigkpofkaaDoorW.PrintMore
attribute [local go_sem] max2_int min2_int max_two min_two
set_option linter.unusedVariables false
set_option linter.unusedSimpArgs false
mutual
def quorateref17_Inside.l0 : Nat → List Int → ByteArray → Int → Int → Int → Int → Int → Int → Int → List (S52) → List (List Int) → List Int → Option (List Int)
  | 0, _, _, _, _, _, _, _, _, _, _, _, _ => none
  | k + 1, x3, x4, x5, x242000, x242001, x242002, x242003, x242004, x242005, x242006, x242007, x242008 => if x5 < (x4.size : Int) then (if 0 ≤ x5 then (if (bt x4 x5) = 98 then ((quorateref14_Bytes.f k x242001 x242002).bind fun t246 => (if x3.length + t246.length < 140737488355328 then (quorateref17_Inside.l0 k (x3 ++ t246) x4 (wrap64 (x5 + 1)) x242000 x242001 x242002 x242003 x242004 x242005 x242006 x242007 x242008) else (none))) else (if (bt x4 x5) = 99 then ((quorateref01_Uint.f k x242005).bind fun t252 => (if x3.length + t252.length < 140737488355328 then (quorateref17_Inside.l0 k (x3 ++ t252) x4 (wrap64 (x5 + 1)) x242000 x242001 x242002 x242003 x242004 x242005 x242006 x242007 x242008) else (none))) else (if (bt x4 x5) = 102 then ((quorateref01_Uint.f k x242003).bind fun t258 => (if x3.length + t258.length < 140737488355328 then (quorateref17_Inside.l0 k (x3 ++ t258) x4 (wrap64 (x5 + 1)) x242000 x242001 x242002 x242003 x242004 x242005 x242006 x242007 x242008) else (none))) else (if (bt x4 x5) = 108 then ((quorateref01_Uint.f k x242004).bind fun t264 => (if x3.length + t264.length < 140737488355328 then (quorateref17_Inside.l0 k (x3 ++ t264) x4 (wrap64 (x5 + 1)) x242000 x242001 x242002 x242003 x242004 x242005 x242006 x242007 x242008) else (none))) else (if (bt x4 x5) = 112 then ((quorateref17_text.f k x242008).bind fun t270 => (if x3.length + t270.length < 140737488355328 then (quorateref17_Inside.l0 k (x3 ++ t270) x4 (wrap64 (x5 + 1)) x242000 x242001 x242002 x242003 x242004 x242005 x242006 x242007 x242008) else (none))) else (if (bt x4 x5) = 115 then ((quorateref01_Uint.f k (IntKind.u64.wrap ((x242007.length : Int)))).bind fun t276 => (if x3.length + t276.length < 140737488355328 then (quorateref17_Inside.l1 k (x3 ++ t276) x4 x5 0 x242000 x242001 x242002 x242003 x242004 x242005 x242006 x242007 x242008) else (none))) else (if (bt x4 x5) = 118 then ((quorateref01_Uint.f k (IntKind.u64.wrap ((x242006.length : Int)))).bind fun t289 => (if x3.length + t289.length < 140737488355328 then (quorateref17_Inside.l2 k (x3 ++ t289) x4 x5 0 x242000 x242001 x242002 x242003 x242004 x242005 x242006 x242007 x242008) else (none))) else (quorateref17_Inside.l0 k x3 x4 (wrap64 (x5 + 1)) x242000 x242001 x242002 x242003 x242004 x242005 x242006 x242007 x242008)))))))) else (none)) else (some x3)
def quorateref17_Inside.l1 : Nat → List Int → ByteArray → Int → Int → Int → Int → Int → Int → Int → Int → List (S52) → List (List Int) → List Int → Option (List Int)
  | 0, _, _, _, _, _, _, _, _, _, _, _, _, _ => none
  | k + 1, x3, x4, x5, x6, x242000, x242001, x242002, x242003, x242004, x242005, x242006, x242007, x242008 => if x6 < (x242007.length : Int) then (if 0 ≤ x6 then ((quorateref17_text.f k (rd_L4 x242007 x6)).bind fun t283 => (if x3.length + t283.length < 140737488355328 then (quorateref17_Inside.l1 k (x3 ++ t283) x4 x5 (wrap64 (x6 + 1)) x242000 x242001 x242002 x242003 x242004 x242005 x242006 x242007 x242008) else (none))) else (none)) else (quorateref17_Inside.l0 k x3 x4 (wrap64 (x5 + 1)) x242000 x242001 x242002 x242003 x242004 x242005 x242006 x242007 x242008)
def quorateref17_Inside.l2 : Nat → List Int → ByteArray → Int → Int → Int → Int → Int → Int → Int → Int → List (S52) → List (List Int) → List Int → Option (List Int)
  | 0, _, _, _, _, _, _, _, _, _, _, _, _, _ => none
  | k + 1, x3, x4, x5, x7, x242000, x242001, x242002, x242003, x242004, x242005, x242006, x242007, x242008 => if x7 < (x242006.length : Int) then (if 0 ≤ x7 then ((quorateref01_Uint.f k ((rd_T52 x242006 x7).f0)).bind fun t296 => (if x3.length + t296.length < 140737488355328 then ((some (x3 ++ t296 : List Int)).bind fun y299 => ((quorateref14_Bytes.f k ((rd_T52 x242006 x7).f1.f0) ((rd_T52 x242006 x7).f1.f1)).bind fun t303 => (if y299.length + t303.length < 140737488355328 then ((some (y299 ++ t303 : List Int)).bind fun y306 => ((quorateref17_text.f k ((rd_T52 x242006 x7).f2)).bind fun t310 => (if y306.length + t310.length < 140737488355328 then (quorateref17_Inside.l2 k (y306 ++ t310) x4 x5 (wrap64 (x7 + 1)) x242000 x242001 x242002 x242003 x242004 x242005 x242006 x242007 x242008) else (none)))) else (none)))) else (none))) else (none)) else (quorateref17_Inside.l0 k x3 x4 (wrap64 (x5 + 1)) x242000 x242001 x242002 x242003 x242004 x242005 x242006 x242007 x242008)
end
def quorateref17_Inside.f (k : Nat) (a0_0 : Int) (a0_1 : Int) (a0_2 : Int) (a0_3 : Int) (a0_4 : Int) (a0_5 : Int) (l0_6 : List (S52)) (l0_7 : List (List Int)) (l0_8 : List Int) : Option (List Int) := (quorateref17_Fields.f k a0_0).bind fun t245 => (quorateref17_Inside.l0 k (([(a0_0) % 256] : List Int)) t245 0 a0_0 a0_1 a0_2 a0_3 a0_4 a0_5 l0_6 l0_7 l0_8)
set_option maxHeartbeats 8000000 in
set_option maxRecDepth 100000 in
theorem quorateref17_Inside.calls (k : Nat) (a0_0 : Int) (a0_1 : Int) (a0_2 : Int) (a0_3 : Int) (a0_4 : Int) (a0_5 : Int) (A0_6 : Option Addr) (c0_6 : Nat) (l0_6 : List (S52)) (A0_7 : Option Addr) (c0_7 : Nat) (l0_7 : List (List Int)) (A0_8 : Option Addr) (c0_8 : Nat) (l0_8 : List Int) (r : List Int) (w : World) (hr0_6 : Kd.C k52 w A0_6 l0_6.length l0_6) (hc0_6 : l0_6.length ≤ c0_6) (hr0_7 : Kd.C (Kd.slice 5 (Kd.int .u8)) w A0_7 l0_7.length l0_7) (hc0_7 : l0_7.length ≤ c0_7) (hr0_8 : Kd.C (Kd.int .u8) w A0_8 l0_8.length l0_8) (hc0_8 : l0_8.length ≤ c0_8) (h : quorateref17_Inside.f k a0_0 a0_1 a0_2 a0_3 a0_4 a0_5 l0_6 l0_7 l0_8 = some r) :
    Calls Tryd.prog 16 #[.agg #[.int .i64 a0_0, .int .u64 a0_1, .int .i64 a0_2, .int .u64 a0_3, .int .u64 a0_4, .int .u64 a0_5, .slice A0_6 l0_6.length c0_6, .slice A0_7 l0_7.length c0_7, .slice A0_8 l0_8.length c0_8]] w fun e w' => ∃ v0_ : Value, e = .returned (v0_) ∧ Kd.R (Kd.int .u8) 5 w' w.heap.size (fun _ => True) v0_ r ∧ Below w.heap.size w w' := by
  have hu39 := Tryd.underlying39
  have hu24 := Tryd.underlying24
  have HR0_6 := Aside0.mk hr0_6
  have HC0_6 := Aside0.mk hc0_6
  clear hr0_6 hc0_6
  have HR0_7 := Aside0.mk hr0_7
  have HC0_7 := Aside0.mk hc0_7
  clear hr0_7 hc0_7
  have HR0_8 := Aside0.mk hr0_8
  have HC0_8 := Aside0.mk hc0_8
  clear hr0_8 hc0_8
  have HB := Aside0.mk (Below.refl w.heap.size w)
  have H : ((quorateref17_Fields.f k a0_0).bind fun t245 => (quorateref17_Inside.l0 k (([(a0_0) % 256] : List Int)) t245 0 a0_0 a0_1 a0_2 a0_3 a0_4 a0_5 l0_6 l0_7 l0_8)) = some r := h
  clear h
  obtain ⟨y242, hy242⟩ : ∃ y_ : List Int, y_ = (([(a0_0) % 256] : List Int)) := ⟨_, rfl⟩
  replace H : ((quorateref17_Fields.f k a0_0).bind fun t245 => (quorateref17_Inside.l0 k y242 t245 0 a0_0 a0_1 a0_2 a0_3 a0_4 a0_5 l0_6 l0_7 l0_8)) = some r := by first | (rw [hy242]; with_reducible exact H) | (have H2_ := (Option.bind_some _ _).symm.trans H; rw [hy242]; with_reducible exact H2_) | (have H2_ := (Option.bind_some _ _).symm.trans H; with_reducible exact H2_) | with_reducible exact H | (rw [hy242]; exact H) | exact H
  have Ny242 := Aside0.mk hy242
  clear hy242
  replace H := Option.bind_eq_some_iff.mp H
  obtain ⟨t245, A20, H⟩ := H
  replace H : (quorateref17_Inside.l0 k y242 t245 0 a0_0 a0_1 a0_2 a0_3 a0_4 a0_5 l0_6 l0_7 l0_8) = some r := H
  have A2 := Aside0.mk A20
  clear A20
  have H' := Aside0.mk H
  clear H
  go_enter Tryd.func16, Tryd.ntmps16
  go_wp2_with (first | ((with_reducible refine gate_dst (N := 1) rfl ?_); refine box_event ?hg (N := 1) ?hd (cs := #[.int .i64 a0_0, .int .u64 a0_1, .int .i64 a0_2, .int .u64 a0_3, .int .u64 a0_4, .int .u64 a0_5, .slice A0_6 l0_6.length c0_6, .slice A0_7 l0_7.length c0_7, .slice A0_8 l0_8.length c0_8]) (t := 39) ?hr ?_; (case hd => rfl); (case hg => rfl); (case hr => first | (go_simp; done) | (go_simp; rfl)); intro gb241 hg w3 hbox hb; have n0_ := Aside0.mk (below_step (by repeat (first | (with_reducible first | exact HB.out | apply below_alloc | apply pw_below_drewN | apply below_drew1) | exact HB.out)) hb); have n1_ := Aside0.mk (hbox); have n2_ := Aside0.mk ((by rw [hg]; exact (below_size (by repeat (first | (with_reducible first | exact HB.out | apply below_alloc | apply pw_below_drewN | apply below_drew1) | exact HB.out))) : w.heap.size ≤ gb241)); have n3_ := Aside0.mk ((by rw [hg]; exact (below_size (by repeat (first | (with_reducible first | exact HB.out | apply below_alloc | apply pw_below_drewN | apply below_drew1) | exact HB.out))) : w.heap.size ≤ gb241)); clear HB; have HB := n0_; have BK241 := n1_; have GW241 := n2_; have GE241 := n3_; clear n0_ n1_ n2_ n3_; clear hb hbox hg; have hcz4_0 : w3.cell? ⟨gb241, 0, none⟩ = some (.int .i64 a0_0) := (blk_cell BK241.out 0).trans rfl; have hcz4_1 : w3.cell? ⟨gb241, 1, none⟩ = some (.int .u64 a0_1) := (blk_cell BK241.out 1).trans rfl; have hcz4_2 : w3.cell? ⟨gb241, 2, none⟩ = some (.int .i64 a0_2) := (blk_cell BK241.out 2).trans rfl; have hcz4_3 : w3.cell? ⟨gb241, 3, none⟩ = some (.int .u64 a0_3) := (blk_cell BK241.out 3).trans rfl; have hcz4_4 : w3.cell? ⟨gb241, 4, none⟩ = some (.int .u64 a0_4) := (blk_cell BK241.out 4).trans rfl; have hcz4_5 : w3.cell? ⟨gb241, 5, none⟩ = some (.int .u64 a0_5) := (blk_cell BK241.out 5).trans rfl; have hcz4_6 : w3.cell? ⟨gb241, 6, none⟩ = some (.slice A0_6 l0_6.length c0_6) := (blk_cell BK241.out 6).trans rfl; have hcz4_7 : w3.cell? ⟨gb241, 7, none⟩ = some (.slice A0_7 l0_7.length c0_7) := (blk_cell BK241.out 7).trans rfl; have hcz4_8 : w3.cell? ⟨gb241, 8, none⟩ = some (.slice A0_8 l0_8.length c0_8) := (blk_cell BK241.out 8).trans rfl; have hfz4_0 := blk_frozen BK241.out 0; have hfz4_1 := blk_frozen BK241.out 1; have hfz4_2 := blk_frozen BK241.out 2; have hfz4_3 := blk_frozen BK241.out 3; have hfz4_4 := blk_frozen BK241.out 4; have hfz4_5 := blk_frozen BK241.out 5; have hfz4_6 := blk_frozen BK241.out 6; have hfz4_7 := blk_frozen BK241.out 7; have hfz4_8 := blk_frozen BK241.out 8) | ((with_reducible refine gate_dst (N := 11) rfl ?_); refine Kd.R_lit (Kd.int .u8) _ 5 ?hg (N := 11) ?hd (xs := ([(a0_0) % 256] : List Int)) (inner := [.int .u8 ((a0_0) % 256)]) (ok := fun _ => True) (okp := fun _ => True) ?hr ?hp (fun _ hk => hk) trivial (Below.refl _ _) (Nat.le_refl _) (by simp) ?_; (case hd => rfl); (case hg => rfl); (case hr => first | (go_simp; done) | (go_simp; rfl)); (case hp => exact (Reps.one (show Kd.M (Kd.int .u8) _ _ _ ((a0_0) % 256) [.int .u8 ((a0_0) % 256)] from rfl) (Reps.none _ _))); intro v243 w5 ho6 hb hg_ hnew_; clear hg_ hnew_; (first | rw [← Ny242.out] at ho6 | (simp only [Int.reduceToNat] at ho6; rw [← Ny242.out] at ho6)); have n0_ := Aside0.mk (Kd.R_lower ho6 (below_size (by repeat (first | (with_reducible first | exact HB.out | apply below_alloc | apply pw_below_drewN | apply below_drew1 | refine below_set ?_ GE241.out) | exact HB.out)))); have n1_ := Aside0.mk (blk_below (g := gb241) (o := .cells #[.int .i64 a0_0, .int .u64 a0_1, .int .i64 a0_2, .int .u64 a0_3, .int .u64 a0_4, .int .u64 a0_5, .slice A0_6 l0_6.length c0_6, .slice A0_7 l0_7.length c0_7, .slice A0_8 l0_8.length c0_8] 39 (0, 0)) (by (with_reducible repeat (first | refine blk_drewN ?_ _ | refine blk_drew ?_ | refine blk_alloc ?_ _)); exact BK241.out) hb); have n2_ := Aside0.mk (below_step (by repeat (first | (with_reducible first | exact HB.out | apply below_alloc | apply pw_below_drewN | apply below_drew1 | refine below_set ?_ GE241.out) | exact HB.out)) hb); clear BK241; clear HB; have HO244 := n0_; have BK241 := n1_; have HB := n2_; clear n0_ n1_ n2_; clear hb ho6; have hcz7_0 : w5.cell? ⟨gb241, 0, none⟩ = some (.int .i64 a0_0) := (blk_cell BK241.out 0).trans rfl; have hcz7_1 : w5.cell? ⟨gb241, 1, none⟩ = some (.int .u64 a0_1) := (blk_cell BK241.out 1).trans rfl; have hcz7_2 : w5.cell? ⟨gb241, 2, none⟩ = some (.int .i64 a0_2) := (blk_cell BK241.out 2).trans rfl; have hcz7_3 : w5.cell? ⟨gb241, 3, none⟩ = some (.int .u64 a0_3) := (blk_cell BK241.out 3).trans rfl; have hcz7_4 : w5.cell? ⟨gb241, 4, none⟩ = some (.int .u64 a0_4) := (blk_cell BK241.out 4).trans rfl; have hcz7_5 : w5.cell? ⟨gb241, 5, none⟩ = some (.int .u64 a0_5) := (blk_cell BK241.out 5).trans rfl; have hcz7_6 : w5.cell? ⟨gb241, 6, none⟩ = some (.slice A0_6 l0_6.length c0_6) := (blk_cell BK241.out 6).trans rfl; have hcz7_7 : w5.cell? ⟨gb241, 7, none⟩ = some (.slice A0_7 l0_7.length c0_7) := (blk_cell BK241.out 7).trans rfl; have hcz7_8 : w5.cell? ⟨gb241, 8, none⟩ = some (.slice A0_8 l0_8.length c0_8) := (blk_cell BK241.out 8).trans rfl; have hfz7_0 := blk_frozen BK241.out 0; have hfz7_1 := blk_frozen BK241.out 1; have hfz7_2 := blk_frozen BK241.out 2; have hfz7_3 := blk_frozen BK241.out 3; have hfz7_4 := blk_frozen BK241.out 4; have hfz7_5 := blk_frozen BK241.out 5; have hfz7_6 := blk_frozen BK241.out 6; have hfz7_7 := blk_frozen BK241.out 7; have hfz7_8 := blk_frozen BK241.out 8) | ((with_reducible refine gate_callee (f := 28) rfl ?_); refine goesL_ (some 14) rfl rfl Tryd.func28 (by kernel_rfl) rfl #[.int .i64 a0_0] rfl (by (try simp only [List.map_toArray, List.map_cons, List.map_nil]); first | done | rfl | (simp only [List.length_drop, List.length_take]; rfl)) ?_; (with_reducible refine (quorateref17_Fields.calls k a0_0 t245 _ A2.out).mono ?_); rintro e w' ⟨rfl, ⟨nd, rfl⟩⟩; refine ⟨_, rfl, ?_⟩))
  go_loopg [3, 5] k (fun kq v3 v5 w' => ∃ (x3_1 : List Int) (x5_1 : Int), v5 = .int .i64 x5_1 ∧ Aside0 (quorateref17_Inside.l0 kq x3_1 t245 x5_1 a0_0 a0_1 a0_2 a0_3 a0_4 a0_5 l0_6 l0_7 l0_8 = some r) ∧ Aside0 (kq ≤ k) ∧ Aside0 (Kd.R (Kd.int .u8) 5 w' w.heap.size (fun _ => True) v3 x3_1) ∧ Aside0 (w'.heap[gb241]? = some (.cells #[.int .i64 a0_0, .int .u64 a0_1, .int .i64 a0_2, .int .u64 a0_3, .int .u64 a0_4, .int .u64 a0_5, (.slice A0_6 l0_6.length c0_6), (.slice A0_7 l0_7.length c0_7), (.slice A0_8 l0_8.length c0_8)] 39 (0, 0))) ∧ Aside0 (Below w.heap.size w w'))
  case atStart => exact ⟨(y242), (0), (by first | rfl | (simp; done) | (simp [*]; done)), H', ⟨Nat.le_refl _⟩, ⟨by (with_reducible repeat (first | apply Kd.R_alloc | apply Kd.R_drewN | apply Kd.R_drew)); exact HO244.out⟩, ⟨by (with_reducible repeat (first | refine blk_drewN ?_ _ | refine blk_drew ?_ | refine blk_alloc ?_ _)); exact BK241.out⟩, ⟨by repeat (first | (with_reducible first | exact HB.out | apply below_alloc | apply pw_below_drewN | apply below_drew1 | refine below_set ?_ GE241.out) | exact HB.out)⟩⟩
  case round =>
    clear H'
    try clear c1
    try clear c2
    try clear p2
    try clear hcz4_0
    try clear hcz4_1
    try clear hcz4_2
    try clear hcz4_3
    try clear hcz4_4
    try clear hcz4_5
    try clear hcz4_6
    try clear hcz4_7
    try clear hcz4_8
    try clear hcz7_0
    try clear hcz7_1
    try clear hcz7_2
    try clear hcz7_3
    try clear hcz7_4
    try clear hcz7_5
    try clear hcz7_6
    try clear hcz7_7
    try clear hcz7_8
    try clear hfz4_0
    try clear hfz4_1
    try clear hfz4_2
    try clear hfz4_3
    try clear hfz4_4
    try clear hfz4_5
    try clear hfz4_6
    try clear hfz4_7
    try clear hfz4_8
    try clear hfz7_0
    try clear hfz7_1
    try clear hfz7_2
    try clear hfz7_3
    try clear hfz7_4
    try clear hfz7_5
    try clear hfz7_6
    try clear hfz7_7
    try clear hfz7_8
    obtain ⟨x3_1, x5_1, rfl, HA, HK1, HO_3, BK241, HB⟩ := hrel
    cases gk with
    | zero => exact absurd HA.out (by simp [quorateref17_Inside.l0])
    | succ k1 =>
      have H := HA.out
      clear HA
      simp only [quorateref17_Inside.l0] at H
      by_cases c8 : x5_1 < (t245.size : Int)
      · rw [if_pos c8] at H
        have c8b0 : decide (x5_1 < (t245.size : Int)) = true := decide_eq_true c8
        clear c8
        by_cases c9 : 0 ≤ x5_1
        · rw [if_pos c9] at H
          have c9b0 : decide (0 ≤ x5_1) = true := decide_eq_true c9
          clear c9
          by_cases c11 : (bt t245 x5_1) = 98
          · rw [if_pos c11] at H
            have c11b0 : ((bt t245 x5_1) == 98) = true := beq_iff_eq.mpr c11
            have c11b1 : ((bt t245 x5_1) != 98) = false := bne_eq_false_iff_eq.mpr c11
            clear c11
            replace H := Option.bind_eq_some_iff.mp H
            obtain ⟨t246, A120, H⟩ := H
            replace H : (if x3_1.length + t246.length < 140737488355328 then (quorateref17_Inside.l0 k1 (x3_1 ++ t246) t245 (wrap64 (x5_1 + 1)) a0_0 a0_1 a0_2 a0_3 a0_4 a0_5 l0_6 l0_7 l0_8) else (none)) = some r := H
            have A12 := Aside0.mk A120
            clear A120
            by_cases c13 : x3_1.length + t246.length < 140737488355328
            · rw [if_pos c13] at H
              have LMc13 := Aside0.mk c13
              clear c13
              obtain ⟨y249, hy249⟩ : ∃ y_ : List Int, y_ = (x3_1 ++ t246) := ⟨_, rfl⟩
              replace H : (quorateref17_Inside.l0 k1 y249 t245 (wrap64 (x5_1 + 1)) a0_0 a0_1 a0_2 a0_3 a0_4 a0_5 l0_6 l0_7 l0_8) = some r := by first | (rw [hy249]; with_reducible exact H) | (have H2_ := (Option.bind_some _ _).symm.trans H; rw [hy249]; with_reducible exact H2_) | (have H2_ := (Option.bind_some _ _).symm.trans H; with_reducible exact H2_) | with_reducible exact H | (rw [hy249]; exact H) | exact H
              have Ny249 := Aside0.mk hy249
              clear hy249
              have H' := Aside0.mk H
              clear H
              have p10 : 0 ≤ (x5_1 : Int) := of_decide_eq_true (by first | (with_reducible assumption) | assumption)
              have q10 : x5_1 < (t245.size : Int) := of_decide_eq_true (by first | (with_reducible assumption) | assumption)
              have hx10 := bt_at t245 x5_1
              replace p10 := eq_true p10
              replace q10 := eq_true q10
              have hcz14_0 : wr.cell? ⟨gb241, 0, none⟩ = some (.int .i64 a0_0) := (blk_cell BK241.out 0).trans rfl
              have hcz14_1 : wr.cell? ⟨gb241, 1, none⟩ = some (.int .u64 a0_1) := (blk_cell BK241.out 1).trans rfl
              have hcz14_2 : wr.cell? ⟨gb241, 2, none⟩ = some (.int .i64 a0_2) := (blk_cell BK241.out 2).trans rfl
              have hcz14_3 : wr.cell? ⟨gb241, 3, none⟩ = some (.int .u64 a0_3) := (blk_cell BK241.out 3).trans rfl
              have hcz14_4 : wr.cell? ⟨gb241, 4, none⟩ = some (.int .u64 a0_4) := (blk_cell BK241.out 4).trans rfl
              have hcz14_5 : wr.cell? ⟨gb241, 5, none⟩ = some (.int .u64 a0_5) := (blk_cell BK241.out 5).trans rfl
              have hcz14_6 : wr.cell? ⟨gb241, 6, none⟩ = some (.slice A0_6 l0_6.length c0_6) := (blk_cell BK241.out 6).trans rfl
              have hcz14_7 : wr.cell? ⟨gb241, 7, none⟩ = some (.slice A0_7 l0_7.length c0_7) := (blk_cell BK241.out 7).trans rfl
              have hcz14_8 : wr.cell? ⟨gb241, 8, none⟩ = some (.slice A0_8 l0_8.length c0_8) := (blk_cell BK241.out 8).trans rfl
              have hfz14_0 := blk_frozen BK241.out 0
              have hfz14_1 := blk_frozen BK241.out 1
              have hfz14_2 := blk_frozen BK241.out 2
              have hfz14_3 := blk_frozen BK241.out 3
              have hfz14_4 := blk_frozen BK241.out 4
              have hfz14_5 := blk_frozen BK241.out 5
              have hfz14_6 := blk_frozen BK241.out 6
              have hfz14_7 := blk_frozen BK241.out 7
              have hfz14_8 := blk_frozen BK241.out 8
              go_wp2_with (first | ((with_reducible refine gate_callee (f := 32) rfl ?_); refine goesL_ (some 29) rfl rfl Tryd.func32 (by kernel_rfl) rfl #[.agg #[.int .u64 a0_1, .int .i64 a0_2]] rfl (by (try simp only [List.map_toArray, List.map_cons, List.map_nil]); first | done | rfl | (simp only [List.length_drop, List.length_take]; rfl)) ?_; (with_reducible refine (quorateref14_Bytes.calls k1 a0_1 a0_2 t246 _ A12.out).mono ?_); rintro e w15 ⟨v247, rfl, ho0, hb⟩; refine ⟨_, rfl, ?_⟩; have n0_ := Aside0.mk (Kd.R_elder' (by (with_reducible repeat (first | apply Kd.R_alloc | apply Kd.R_drewN | apply Kd.R_drew)); exact HO_3.out) (Kd.R_base ho0) hb); have n1_ := Aside0.mk (Kd.R_lower (Kd.R_new' ho0 (Kd.R_lt (by (with_reducible repeat (first | apply Kd.R_alloc | apply Kd.R_drewN | apply Kd.R_drew)); exact HO_3.out))) (below_size (by repeat (first | (with_reducible first | exact HB.out | apply below_alloc | apply pw_below_drewN | apply below_drew1 | refine below_set ?_ GE241.out) | exact HB.out)))); have n2_ := Aside0.mk (blk_below (g := gb241) (o := .cells #[.int .i64 a0_0, .int .u64 a0_1, .int .i64 a0_2, .int .u64 a0_3, .int .u64 a0_4, .int .u64 a0_5, .slice A0_6 l0_6.length c0_6, .slice A0_7 l0_7.length c0_7, .slice A0_8 l0_8.length c0_8] 39 (0, 0)) (by (with_reducible repeat (first | refine blk_drewN ?_ _ | refine blk_drew ?_ | refine blk_alloc ?_ _)); exact BK241.out) hb); have n3_ := Aside0.mk (below_step (by repeat (first | (with_reducible first | exact HB.out | apply below_alloc | apply pw_below_drewN | apply below_drew1 | refine below_set ?_ GE241.out) | exact HB.out)) hb); clear HO_3; clear BK241; clear HB; have HO_3 := n0_; have HO248 := n1_; have BK241 := n2_; have HB := n3_; clear n0_ n1_ n2_ n3_; (try clear hb); (try clear hb2); (try clear hk); (try clear hi); (try clear ho0); obtain ⟨Ao17, co17, eo17⟩ := Kd.R_slice HO248.out; subst eo17) | ((with_reducible refine gate_builtin (b := .append) (xs := #[.tmp 26, .tmp 29]) rfl ?_); at_builtin; refine Kd.R_append_rows (Kd.int .u8) (w0 := w) w.heap.size rfl (.tmp 26) (.tmp 29) 27 5 (.int .u8 0) 1 rfl Tryd.underlying27 info5 rfl (by decide) (by omega) u3 x3_1 t246 _ _ _ (fun k_ => some k_ ≠ (.slice Ao17 t246.length co17 : Value).ownBlock) (fun _ => False) rfl rfl ?aO ?aR (fun _ _ h => h) (fun _ h => h.elim) ?aF ?aB ?aS ?aL ?_; (case aR => repeat (first | exact (Kd.R_reads' HO248.out).2.2 | (with_reducible refine Kd.C_alloc ?_ _) | (with_reducible refine Kd.C_drewN ?_ _) | (with_reducible refine Kd.C_drew ?_))); (case aB => exact (by repeat (first | (with_reducible first | exact HB.out | apply below_alloc | apply pw_below_drewN | apply below_drew1 | refine below_set ?_ GE241.out) | exact HB.out))); (case aF => exact (fun k_ hk => Kd.fresh' (Kd.R_lt (by (with_reducible repeat (first | apply Kd.R_alloc | apply Kd.R_drewN | apply Kd.R_drew)); exact HO248.out)) k_ hk)); (case aO => exact (by (with_reducible repeat (first | apply Kd.R_alloc | apply Kd.R_drewN | apply Kd.R_drew)); exact Kd.R_mono HO_3.out (fun _ hk => hk.2))); (case aS => exact (below_size (by repeat (first | (with_reducible first | exact HB.out | apply below_alloc | apply pw_below_drewN | apply below_drew1 | refine below_set ?_ GE241.out) | exact HB.out)))); (case aL => have := LMc13.out; omega); intro v250 w16 ho hb hg hat; rw [← Ny249.out] at ho; have n0_ := Aside0.mk (blk_grown (g := gb241) (o := .cells #[.int .i64 a0_0, .int .u64 a0_1, .int .i64 a0_2, .int .u64 a0_3, .int .u64 a0_4, .int .u64 a0_5, .slice A0_6 l0_6.length c0_6, .slice A0_7 l0_7.length c0_7, .slice A0_8 l0_8.length c0_8] 39 (0, 0)) (by (with_reducible repeat (first | refine blk_drewN ?_ _ | refine blk_drew ?_ | refine blk_alloc ?_ _)); exact BK241.out) hg (Kd.R_ne HO_3.out BK241.out (by decide))); have n1_ := Aside0.mk (Kd.R_after (ok := (fun _ => True)) (by (with_reducible repeat (first | apply Kd.R_alloc | apply Kd.R_drewN | apply Kd.R_drew)); exact HO248.out) hg hat); have n2_ := Aside0.mk (hb); have n3_ := Aside0.mk (ho); clear BK241; clear HO248; clear HB; clear HO_3; have BK241 := n0_; have HO248 := n1_; have HB := n2_; have HO251 := n3_; clear n0_ n1_ n2_ n3_; clear ho hb hg hat))
              go_roundg k1
              case measure => have := HK1.out; omega
              case rel => exact ⟨(y249), (wrap64 (x5_1 + 1)), (by first | rfl | (simp; done) | (simp [*]; done)), H', ⟨by have := HK1.out; omega⟩, ⟨by (with_reducible repeat (first | apply Kd.R_alloc | apply Kd.R_drewN | apply Kd.R_drew)); exact Kd.R_mono HO251.out (fun _ hk => trivial)⟩, ⟨by (with_reducible repeat (first | refine blk_drewN ?_ _ | refine blk_drew ?_ | refine blk_alloc ?_ _)); exact BK241.out⟩, ⟨by repeat (first | (with_reducible first | exact HB.out | apply below_alloc | apply pw_below_drewN | apply below_drew1 | refine below_set ?_ GE241.out) | exact HB.out)⟩⟩
            · rw [if_neg c13] at H
              exact absurd H (by simp)
          · rw [if_neg c11] at H
            have c11b0 : ((bt t245 x5_1) == 98) = false := beq_eq_false_iff_ne.mpr c11
            have c11b1 : ((bt t245 x5_1) != 98) = true := bne_iff_ne.mpr c11
            by_cases c18 : (bt t245 x5_1) = 99
            · rw [if_pos c18] at H
              have c18b0 : ((bt t245 x5_1) == 99) = true := beq_iff_eq.mpr c18
              have c18b1 : ((bt t245 x5_1) != 99) = false := bne_eq_false_iff_eq.mpr c18
              clear c18
              replace H := Option.bind_eq_some_iff.mp H
              obtain ⟨t252, A190, H⟩ := H
              replace H : (if x3_1.length + t252.length < 140737488355328 then (quorateref17_Inside.l0 k1 (x3_1 ++ t252) t245 (wrap64 (x5_1 + 1)) a0_0 a0_1 a0_2 a0_3 a0_4 a0_5 l0_6 l0_7 l0_8) else (none)) = some r := H
              have A19 := Aside0.mk A190
              clear A190
              by_cases c20 : x3_1.length + t252.length < 140737488355328
              · rw [if_pos c20] at H
                have LMc20 := Aside0.mk c20
                clear c20
                obtain ⟨y255, hy255⟩ : ∃ y_ : List Int, y_ = (x3_1 ++ t252) := ⟨_, rfl⟩
                replace H : (quorateref17_Inside.l0 k1 y255 t245 (wrap64 (x5_1 + 1)) a0_0 a0_1 a0_2 a0_3 a0_4 a0_5 l0_6 l0_7 l0_8) = some r := by first | (rw [hy255]; with_reducible exact H) | (have H2_ := (Option.bind_some _ _).symm.trans H; rw [hy255]; with_reducible exact H2_) | (have H2_ := (Option.bind_some _ _).symm.trans H; with_reducible exact H2_) | with_reducible exact H | (rw [hy255]; exact H) | exact H
                have Ny255 := Aside0.mk hy255
                clear hy255
                have H' := Aside0.mk H
                clear H
                have p10 : 0 ≤ (x5_1 : Int) := of_decide_eq_true (by first | (with_reducible assumption) | assumption)
                have q10 : x5_1 < (t245.size : Int) := of_decide_eq_true (by first | (with_reducible assumption) | assumption)
                have hx10 := bt_at t245 x5_1
                replace p10 := eq_true p10
                replace q10 := eq_true q10
                have hcz21_0 : wr.cell? ⟨gb241, 0, none⟩ = some (.int .i64 a0_0) := (blk_cell BK241.out 0).trans rfl
                have hcz21_1 : wr.cell? ⟨gb241, 1, none⟩ = some (.int .u64 a0_1) := (blk_cell BK241.out 1).trans rfl
                have hcz21_2 : wr.cell? ⟨gb241, 2, none⟩ = some (.int .i64 a0_2) := (blk_cell BK241.out 2).trans rfl
                have hcz21_3 : wr.cell? ⟨gb241, 3, none⟩ = some (.int .u64 a0_3) := (blk_cell BK241.out 3).trans rfl
                have hcz21_4 : wr.cell? ⟨gb241, 4, none⟩ = some (.int .u64 a0_4) := (blk_cell BK241.out 4).trans rfl
                have hcz21_5 : wr.cell? ⟨gb241, 5, none⟩ = some (.int .u64 a0_5) := (blk_cell BK241.out 5).trans rfl
                have hcz21_6 : wr.cell? ⟨gb241, 6, none⟩ = some (.slice A0_6 l0_6.length c0_6) := (blk_cell BK241.out 6).trans rfl
                have hcz21_7 : wr.cell? ⟨gb241, 7, none⟩ = some (.slice A0_7 l0_7.length c0_7) := (blk_cell BK241.out 7).trans rfl
                have hcz21_8 : wr.cell? ⟨gb241, 8, none⟩ = some (.slice A0_8 l0_8.length c0_8) := (blk_cell BK241.out 8).trans rfl
                have hfz21_0 := blk_frozen BK241.out 0
                have hfz21_1 := blk_frozen BK241.out 1
                have hfz21_2 := blk_frozen BK241.out 2
                have hfz21_3 := blk_frozen BK241.out 3
                have hfz21_4 := blk_frozen BK241.out 4
                have hfz21_5 := blk_frozen BK241.out 5
                have hfz21_6 := blk_frozen BK241.out 6
                have hfz21_7 := blk_frozen BK241.out 7
                have hfz21_8 := blk_frozen BK241.out 8
                go_wp2_with (first | ((with_reducible refine gate_callee (f := 33) rfl ?_); refine goesL_ (some 36) rfl rfl Tryd.func33 (by kernel_rfl) rfl #[.int .u64 a0_5] rfl (by (try simp only [List.map_toArray, List.map_cons, List.map_nil]); first | done | rfl | (simp only [List.length_drop, List.length_take]; rfl)) ?_; (with_reducible refine (quorateref01_Uint.calls k1 a0_5 t252 _ A19.out).mono ?_); rintro e w22 ⟨v253, rfl, ho0, hb⟩; refine ⟨_, rfl, ?_⟩; have n0_ := Aside0.mk (Kd.R_elder' (by (with_reducible repeat (first | apply Kd.R_alloc | apply Kd.R_drewN | apply Kd.R_drew)); exact HO_3.out) (Kd.R_base ho0) hb); have n1_ := Aside0.mk (Kd.R_lower (Kd.R_new' ho0 (Kd.R_lt (by (with_reducible repeat (first | apply Kd.R_alloc | apply Kd.R_drewN | apply Kd.R_drew)); exact HO_3.out))) (below_size (by repeat (first | (with_reducible first | exact HB.out | apply below_alloc | apply pw_below_drewN | apply below_drew1 | refine below_set ?_ GE241.out) | exact HB.out)))); have n2_ := Aside0.mk (blk_below (g := gb241) (o := .cells #[.int .i64 a0_0, .int .u64 a0_1, .int .i64 a0_2, .int .u64 a0_3, .int .u64 a0_4, .int .u64 a0_5, .slice A0_6 l0_6.length c0_6, .slice A0_7 l0_7.length c0_7, .slice A0_8 l0_8.length c0_8] 39 (0, 0)) (by (with_reducible repeat (first | refine blk_drewN ?_ _ | refine blk_drew ?_ | refine blk_alloc ?_ _)); exact BK241.out) hb); have n3_ := Aside0.mk (below_step (by repeat (first | (with_reducible first | exact HB.out | apply below_alloc | apply pw_below_drewN | apply below_drew1 | refine below_set ?_ GE241.out) | exact HB.out)) hb); clear HO_3; clear BK241; clear HB; have HO_3 := n0_; have HO254 := n1_; have BK241 := n2_; have HB := n3_; clear n0_ n1_ n2_ n3_; (try clear hb); (try clear hb2); (try clear hk); (try clear hi); (try clear ho0); obtain ⟨Ao24, co24, eo24⟩ := Kd.R_slice HO254.out; subst eo24) | ((with_reducible refine gate_builtin (b := .append) (xs := #[.tmp 33, .tmp 36]) rfl ?_); at_builtin; refine Kd.R_append_rows (Kd.int .u8) (w0 := w) w.heap.size rfl (.tmp 33) (.tmp 36) 27 5 (.int .u8 0) 1 rfl Tryd.underlying27 info5 rfl (by decide) (by omega) u3 x3_1 t252 _ _ _ (fun k_ => some k_ ≠ (.slice Ao24 t252.length co24 : Value).ownBlock) (fun _ => False) rfl rfl ?aO ?aR (fun _ _ h => h) (fun _ h => h.elim) ?aF ?aB ?aS ?aL ?_; (case aR => repeat (first | exact (Kd.R_reads' HO254.out).2.2 | (with_reducible refine Kd.C_alloc ?_ _) | (with_reducible refine Kd.C_drewN ?_ _) | (with_reducible refine Kd.C_drew ?_))); (case aB => exact (by repeat (first | (with_reducible first | exact HB.out | apply below_alloc | apply pw_below_drewN | apply below_drew1 | refine below_set ?_ GE241.out) | exact HB.out))); (case aF => exact (fun k_ hk => Kd.fresh' (Kd.R_lt (by (with_reducible repeat (first | apply Kd.R_alloc | apply Kd.R_drewN | apply Kd.R_drew)); exact HO254.out)) k_ hk)); (case aO => exact (by (with_reducible repeat (first | apply Kd.R_alloc | apply Kd.R_drewN | apply Kd.R_drew)); exact Kd.R_mono HO_3.out (fun _ hk => hk.2))); (case aS => exact (below_size (by repeat (first | (with_reducible first | exact HB.out | apply below_alloc | apply pw_below_drewN | apply below_drew1 | refine below_set ?_ GE241.out) | exact HB.out)))); (case aL => have := LMc20.out; omega); intro v256 w23 ho hb hg hat; rw [← Ny255.out] at ho; have n0_ := Aside0.mk (blk_grown (g := gb241) (o := .cells #[.int .i64 a0_0, .int .u64 a0_1, .int .i64 a0_2, .int .u64 a0_3, .int .u64 a0_4, .int .u64 a0_5, .slice A0_6 l0_6.length c0_6, .slice A0_7 l0_7.length c0_7, .slice A0_8 l0_8.length c0_8] 39 (0, 0)) (by (with_reducible repeat (first | refine blk_drewN ?_ _ | refine blk_drew ?_ | refine blk_alloc ?_ _)); exact BK241.out) hg (Kd.R_ne HO_3.out BK241.out (by decide))); have n1_ := Aside0.mk (Kd.R_after (ok := (fun _ => True)) (by (with_reducible repeat (first | apply Kd.R_alloc | apply Kd.R_drewN | apply Kd.R_drew)); exact HO254.out) hg hat); have n2_ := Aside0.mk (hb); have n3_ := Aside0.mk (ho); clear BK241; clear HO254; clear HB; clear HO_3; have BK241 := n0_; have HO254 := n1_; have HB := n2_; have HO257 := n3_; clear n0_ n1_ n2_ n3_; clear ho hb hg hat))
                go_roundg k1
                case measure => have := HK1.out; omega
                case rel => exact ⟨(y255), (wrap64 (x5_1 + 1)), (by first | rfl | (simp; done) | (simp [*]; done)), H', ⟨by have := HK1.out; omega⟩, ⟨by (with_reducible repeat (first | apply Kd.R_alloc | apply Kd.R_drewN | apply Kd.R_drew)); exact Kd.R_mono HO257.out (fun _ hk => trivial)⟩, ⟨by (with_reducible repeat (first | refine blk_drewN ?_ _ | refine blk_drew ?_ | refine blk_alloc ?_ _)); exact BK241.out⟩, ⟨by repeat (first | (with_reducible first | exact HB.out | apply below_alloc | apply pw_below_drewN | apply below_drew1 | refine below_set ?_ GE241.out) | exact HB.out)⟩⟩
              · rw [if_neg c20] at H
                exact absurd H (by simp)
            · rw [if_neg c18] at H
              have c18b0 : ((bt t245 x5_1) == 99) = false := beq_eq_false_iff_ne.mpr c18
              have c18b1 : ((bt t245 x5_1) != 99) = true := bne_iff_ne.mpr c18
              by_cases c25 : (bt t245 x5_1) = 102
              · rw [if_pos c25] at H
                have c25b0 : ((bt t245 x5_1) == 102) = true := beq_iff_eq.mpr c25
                have c25b1 : ((bt t245 x5_1) != 102) = false := bne_eq_false_iff_eq.mpr c25
                clear c25
                replace H := Option.bind_eq_some_iff.mp H
                obtain ⟨t258, A260, H⟩ := H
                replace H : (if x3_1.length + t258.length < 140737488355328 then (quorateref17_Inside.l0 k1 (x3_1 ++ t258) t245 (wrap64 (x5_1 + 1)) a0_0 a0_1 a0_2 a0_3 a0_4 a0_5 l0_6 l0_7 l0_8) else (none)) = some r := H
                have A26 := Aside0.mk A260
                clear A260
                by_cases c27 : x3_1.length + t258.length < 140737488355328
                · rw [if_pos c27] at H
                  have LMc27 := Aside0.mk c27
                  clear c27
                  obtain ⟨y261, hy261⟩ : ∃ y_ : List Int, y_ = (x3_1 ++ t258) := ⟨_, rfl⟩
                  replace H : (quorateref17_Inside.l0 k1 y261 t245 (wrap64 (x5_1 + 1)) a0_0 a0_1 a0_2 a0_3 a0_4 a0_5 l0_6 l0_7 l0_8) = some r := by first | (rw [hy261]; with_reducible exact H) | (have H2_ := (Option.bind_some _ _).symm.trans H; rw [hy261]; with_reducible exact H2_) | (have H2_ := (Option.bind_some _ _).symm.trans H; with_reducible exact H2_) | with_reducible exact H | (rw [hy261]; exact H) | exact H
                  have Ny261 := Aside0.mk hy261
                  clear hy261
                  have H' := Aside0.mk H
                  clear H
                  have p10 : 0 ≤ (x5_1 : Int) := of_decide_eq_true (by first | (with_reducible assumption) | assumption)
                  have q10 : x5_1 < (t245.size : Int) := of_decide_eq_true (by first | (with_reducible assumption) | assumption)
                  have hx10 := bt_at t245 x5_1
                  replace p10 := eq_true p10
                  replace q10 := eq_true q10
                  have hcz28_0 : wr.cell? ⟨gb241, 0, none⟩ = some (.int .i64 a0_0) := (blk_cell BK241.out 0).trans rfl
                  have hcz28_1 : wr.cell? ⟨gb241, 1, none⟩ = some (.int .u64 a0_1) := (blk_cell BK241.out 1).trans rfl
                  have hcz28_2 : wr.cell? ⟨gb241, 2, none⟩ = some (.int .i64 a0_2) := (blk_cell BK241.out 2).trans rfl
                  have hcz28_3 : wr.cell? ⟨gb241, 3, none⟩ = some (.int .u64 a0_3) := (blk_cell BK241.out 3).trans rfl
                  have hcz28_4 : wr.cell? ⟨gb241, 4, none⟩ = some (.int .u64 a0_4) := (blk_cell BK241.out 4).trans rfl
                  have hcz28_5 : wr.cell? ⟨gb241, 5, none⟩ = some (.int .u64 a0_5) := (blk_cell BK241.out 5).trans rfl
                  have hcz28_6 : wr.cell? ⟨gb241, 6, none⟩ = some (.slice A0_6 l0_6.length c0_6) := (blk_cell BK241.out 6).trans rfl
                  have hcz28_7 : wr.cell? ⟨gb241, 7, none⟩ = some (.slice A0_7 l0_7.length c0_7) := (blk_cell BK241.out 7).trans rfl
                  have hcz28_8 : wr.cell? ⟨gb241, 8, none⟩ = some (.slice A0_8 l0_8.length c0_8) := (blk_cell BK241.out 8).trans rfl
                  have hfz28_0 := blk_frozen BK241.out 0
                  have hfz28_1 := blk_frozen BK241.out 1
                  have hfz28_2 := blk_frozen BK241.out 2
                  have hfz28_3 := blk_frozen BK241.out 3
                  have hfz28_4 := blk_frozen BK241.out 4
                  have hfz28_5 := blk_frozen BK241.out 5
                  have hfz28_6 := blk_frozen BK241.out 6
                  have hfz28_7 := blk_frozen BK241.out 7
                  have hfz28_8 := blk_frozen BK241.out 8
                  go_wp2_with (first | ((with_reducible refine gate_callee (f := 33) rfl ?_); refine goesL_ (some 43) rfl rfl Tryd.func33 (by kernel_rfl) rfl #[.int .u64 a0_3] rfl (by (try simp only [List.map_toArray, List.map_cons, List.map_nil]); first | done | rfl | (simp only [List.length_drop, List.length_take]; rfl)) ?_; (with_reducible refine (quorateref01_Uint.calls k1 a0_3 t258 _ A26.out).mono ?_); rintro e w29 ⟨v259, rfl, ho0, hb⟩; refine ⟨_, rfl, ?_⟩; have n0_ := Aside0.mk (Kd.R_elder' (by (with_reducible repeat (first | apply Kd.R_alloc | apply Kd.R_drewN | apply Kd.R_drew)); exact HO_3.out) (Kd.R_base ho0) hb); have n1_ := Aside0.mk (Kd.R_lower (Kd.R_new' ho0 (Kd.R_lt (by (with_reducible repeat (first | apply Kd.R_alloc | apply Kd.R_drewN | apply Kd.R_drew)); exact HO_3.out))) (below_size (by repeat (first | (with_reducible first | exact HB.out | apply below_alloc | apply pw_below_drewN | apply below_drew1 | refine below_set ?_ GE241.out) | exact HB.out)))); have n2_ := Aside0.mk (blk_below (g := gb241) (o := .cells #[.int .i64 a0_0, .int .u64 a0_1, .int .i64 a0_2, .int .u64 a0_3, .int .u64 a0_4, .int .u64 a0_5, .slice A0_6 l0_6.length c0_6, .slice A0_7 l0_7.length c0_7, .slice A0_8 l0_8.length c0_8] 39 (0, 0)) (by (with_reducible repeat (first | refine blk_drewN ?_ _ | refine blk_drew ?_ | refine blk_alloc ?_ _)); exact BK241.out) hb); have n3_ := Aside0.mk (below_step (by repeat (first | (with_reducible first | exact HB.out | apply below_alloc | apply pw_below_drewN | apply below_drew1 | refine below_set ?_ GE241.out) | exact HB.out)) hb); clear HO_3; clear BK241; clear HB; have HO_3 := n0_; have HO260 := n1_; have BK241 := n2_; have HB := n3_; clear n0_ n1_ n2_ n3_; (try clear hb); (try clear hb2); (try clear hk); (try clear hi); (try clear ho0); obtain ⟨Ao31, co31, eo31⟩ := Kd.R_slice HO260.out; subst eo31) | ((with_reducible refine gate_builtin (b := .append) (xs := #[.tmp 40, .tmp 43]) rfl ?_); at_builtin; refine Kd.R_append_rows (Kd.int .u8) (w0 := w) w.heap.size rfl (.tmp 40) (.tmp 43) 27 5 (.int .u8 0) 1 rfl Tryd.underlying27 info5 rfl (by decide) (by omega) u3 x3_1 t258 _ _ _ (fun k_ => some k_ ≠ (.slice Ao31 t258.length co31 : Value).ownBlock) (fun _ => False) rfl rfl ?aO ?aR (fun _ _ h => h) (fun _ h => h.elim) ?aF ?aB ?aS ?aL ?_; (case aR => repeat (first | exact (Kd.R_reads' HO260.out).2.2 | (with_reducible refine Kd.C_alloc ?_ _) | (with_reducible refine Kd.C_drewN ?_ _) | (with_reducible refine Kd.C_drew ?_))); (case aB => exact (by repeat (first | (with_reducible first | exact HB.out | apply below_alloc | apply pw_below_drewN | apply below_drew1 | refine below_set ?_ GE241.out) | exact HB.out))); (case aF => exact (fun k_ hk => Kd.fresh' (Kd.R_lt (by (with_reducible repeat (first | apply Kd.R_alloc | apply Kd.R_drewN | apply Kd.R_drew)); exact HO260.out)) k_ hk)); (case aO => exact (by (with_reducible repeat (first | apply Kd.R_alloc | apply Kd.R_drewN | apply Kd.R_drew)); exact Kd.R_mono HO_3.out (fun _ hk => hk.2))); (case aS => exact (below_size (by repeat (first | (with_reducible first | exact HB.out | apply below_alloc | apply pw_below_drewN | apply below_drew1 | refine below_set ?_ GE241.out) | exact HB.out)))); (case aL => have := LMc27.out; omega); intro v262 w30 ho hb hg hat; rw [← Ny261.out] at ho; have n0_ := Aside0.mk (blk_grown (g := gb241) (o := .cells #[.int .i64 a0_0, .int .u64 a0_1, .int .i64 a0_2, .int .u64 a0_3, .int .u64 a0_4, .int .u64 a0_5, .slice A0_6 l0_6.length c0_6, .slice A0_7 l0_7.length c0_7, .slice A0_8 l0_8.length c0_8] 39 (0, 0)) (by (with_reducible repeat (first | refine blk_drewN ?_ _ | refine blk_drew ?_ | refine blk_alloc ?_ _)); exact BK241.out) hg (Kd.R_ne HO_3.out BK241.out (by decide))); have n1_ := Aside0.mk (Kd.R_after (ok := (fun _ => True)) (by (with_reducible repeat (first | apply Kd.R_alloc | apply Kd.R_drewN | apply Kd.R_drew)); exact HO260.out) hg hat); have n2_ := Aside0.mk (hb); have n3_ := Aside0.mk (ho); clear BK241; clear HO260; clear HB; clear HO_3; have BK241 := n0_; have HO260 := n1_; have HB := n2_; have HO263 := n3_; clear n0_ n1_ n2_ n3_; clear ho hb hg hat))
                  go_roundg k1
                  case measure => have := HK1.out; omega
                  case rel => exact ⟨(y261), (wrap64 (x5_1 + 1)), (by first | rfl | (simp; done) | (simp [*]; done)), H', ⟨by have := HK1.out; omega⟩, ⟨by (with_reducible repeat (first | apply Kd.R_alloc | apply Kd.R_drewN | apply Kd.R_drew)); exact Kd.R_mono HO263.out (fun _ hk => trivial)⟩, ⟨by (with_reducible repeat (first | refine blk_drewN ?_ _ | refine blk_drew ?_ | refine blk_alloc ?_ _)); exact BK241.out⟩, ⟨by repeat (first | (with_reducible first | exact HB.out | apply below_alloc | apply pw_below_drewN | apply below_drew1 | refine below_set ?_ GE241.out) | exact HB.out)⟩⟩
                · rw [if_neg c27] at H
                  exact absurd H (by simp)
              · rw [if_neg c25] at H
                have c25b0 : ((bt t245 x5_1) == 102) = false := beq_eq_false_iff_ne.mpr c25
                have c25b1 : ((bt t245 x5_1) != 102) = true := bne_iff_ne.mpr c25
                by_cases c32 : (bt t245 x5_1) = 108
                · rw [if_pos c32] at H
                  have c32b0 : ((bt t245 x5_1) == 108) = true := beq_iff_eq.mpr c32
                  have c32b1 : ((bt t245 x5_1) != 108) = false := bne_eq_false_iff_eq.mpr c32
                  clear c32
                  replace H := Option.bind_eq_some_iff.mp H
                  obtain ⟨t264, A330, H⟩ := H
                  replace H : (if x3_1.length + t264.length < 140737488355328 then (quorateref17_Inside.l0 k1 (x3_1 ++ t264) t245 (wrap64 (x5_1 + 1)) a0_0 a0_1 a0_2 a0_3 a0_4 a0_5 l0_6 l0_7 l0_8) else (none)) = some r := H
                  have A33 := Aside0.mk A330
                  clear A330
                  by_cases c34 : x3_1.length + t264.length < 140737488355328
                  · rw [if_pos c34] at H
                    have LMc34 := Aside0.mk c34
                    clear c34
                    obtain ⟨y267, hy267⟩ : ∃ y_ : List Int, y_ = (x3_1 ++ t264) := ⟨_, rfl⟩
                    replace H : (quorateref17_Inside.l0 k1 y267 t245 (wrap64 (x5_1 + 1)) a0_0 a0_1 a0_2 a0_3 a0_4 a0_5 l0_6 l0_7 l0_8) = some r := by first | (rw [hy267]; with_reducible exact H) | (have H2_ := (Option.bind_some _ _).symm.trans H; rw [hy267]; with_reducible exact H2_) | (have H2_ := (Option.bind_some _ _).symm.trans H; with_reducible exact H2_) | with_reducible exact H | (rw [hy267]; exact H) | exact H
                    have Ny267 := Aside0.mk hy267
                    clear hy267
                    have H' := Aside0.mk H
                    clear H
                    have p10 : 0 ≤ (x5_1 : Int) := of_decide_eq_true (by first | (with_reducible assumption) | assumption)
                    have q10 : x5_1 < (t245.size : Int) := of_decide_eq_true (by first | (with_reducible assumption) | assumption)
                    have hx10 := bt_at t245 x5_1
                    replace p10 := eq_true p10
                    replace q10 := eq_true q10
                    have hcz35_0 : wr.cell? ⟨gb241, 0, none⟩ = some (.int .i64 a0_0) := (blk_cell BK241.out 0).trans rfl
                    have hcz35_1 : wr.cell? ⟨gb241, 1, none⟩ = some (.int .u64 a0_1) := (blk_cell BK241.out 1).trans rfl
                    have hcz35_2 : wr.cell? ⟨gb241, 2, none⟩ = some (.int .i64 a0_2) := (blk_cell BK241.out 2).trans rfl
                    have hcz35_3 : wr.cell? ⟨gb241, 3, none⟩ = some (.int .u64 a0_3) := (blk_cell BK241.out 3).trans rfl
                    have hcz35_4 : wr.cell? ⟨gb241, 4, none⟩ = some (.int .u64 a0_4) := (blk_cell BK241.out 4).trans rfl
                    have hcz35_5 : wr.cell? ⟨gb241, 5, none⟩ = some (.int .u64 a0_5) := (blk_cell BK241.out 5).trans rfl
                    have hcz35_6 : wr.cell? ⟨gb241, 6, none⟩ = some (.slice A0_6 l0_6.length c0_6) := (blk_cell BK241.out 6).trans rfl
                    have hcz35_7 : wr.cell? ⟨gb241, 7, none⟩ = some (.slice A0_7 l0_7.length c0_7) := (blk_cell BK241.out 7).trans rfl
                    have hcz35_8 : wr.cell? ⟨gb241, 8, none⟩ = some (.slice A0_8 l0_8.length c0_8) := (blk_cell BK241.out 8).trans rfl
                    have hfz35_0 := blk_frozen BK241.out 0
                    have hfz35_1 := blk_frozen BK241.out 1
                    have hfz35_2 := blk_frozen BK241.out 2
                    have hfz35_3 := blk_frozen BK241.out 3
                    have hfz35_4 := blk_frozen BK241.out 4
                    have hfz35_5 := blk_frozen BK241.out 5
                    have hfz35_6 := blk_frozen BK241.out 6
                    have hfz35_7 := blk_frozen BK241.out 7
                    have hfz35_8 := blk_frozen BK241.out 8
                    go_wp2_with (first | ((with_reducible refine gate_callee (f := 33) rfl ?_); refine goesL_ (some 50) rfl rfl Tryd.func33 (by kernel_rfl) rfl #[.int .u64 a0_4] rfl (by (try simp only [List.map_toArray, List.map_cons, List.map_nil]); first | done | rfl | (simp only [List.length_drop, List.length_take]; rfl)) ?_; (with_reducible refine (quorateref01_Uint.calls k1 a0_4 t264 _ A33.out).mono ?_); rintro e w36 ⟨v265, rfl, ho0, hb⟩; refine ⟨_, rfl, ?_⟩; have n0_ := Aside0.mk (Kd.R_elder' (by (with_reducible repeat (first | apply Kd.R_alloc | apply Kd.R_drewN | apply Kd.R_drew)); exact HO_3.out) (Kd.R_base ho0) hb); have n1_ := Aside0.mk (Kd.R_lower (Kd.R_new' ho0 (Kd.R_lt (by (with_reducible repeat (first | apply Kd.R_alloc | apply Kd.R_drewN | apply Kd.R_drew)); exact HO_3.out))) (below_size (by repeat (first | (with_reducible first | exact HB.out | apply below_alloc | apply pw_below_drewN | apply below_drew1 | refine below_set ?_ GE241.out) | exact HB.out)))); have n2_ := Aside0.mk (blk_below (g := gb241) (o := .cells #[.int .i64 a0_0, .int .u64 a0_1, .int .i64 a0_2, .int .u64 a0_3, .int .u64 a0_4, .int .u64 a0_5, .slice A0_6 l0_6.length c0_6, .slice A0_7 l0_7.length c0_7, .slice A0_8 l0_8.length c0_8] 39 (0, 0)) (by (with_reducible repeat (first | refine blk_drewN ?_ _ | refine blk_drew ?_ | refine blk_alloc ?_ _)); exact BK241.out) hb); have n3_ := Aside0.mk (below_step (by repeat (first | (with_reducible first | exact HB.out | apply below_alloc | apply pw_below_drewN | apply below_drew1 | refine below_set ?_ GE241.out) | exact HB.out)) hb); clear HO_3; clear BK241; clear HB; have HO_3 := n0_; have HO266 := n1_; have BK241 := n2_; have HB := n3_; clear n0_ n1_ n2_ n3_; (try clear hb); (try clear hb2); (try clear hk); (try clear hi); (try clear ho0); obtain ⟨Ao38, co38, eo38⟩ := Kd.R_slice HO266.out; subst eo38) | ((with_reducible refine gate_builtin (b := .append) (xs := #[.tmp 47, .tmp 50]) rfl ?_); at_builtin; refine Kd.R_append_rows (Kd.int .u8) (w0 := w) w.heap.size rfl (.tmp 47) (.tmp 50) 27 5 (.int .u8 0) 1 rfl Tryd.underlying27 info5 rfl (by decide) (by omega) u3 x3_1 t264 _ _ _ (fun k_ => some k_ ≠ (.slice Ao38 t264.length co38 : Value).ownBlock) (fun _ => False) rfl rfl ?aO ?aR (fun _ _ h => h) (fun _ h => h.elim) ?aF ?aB ?aS ?aL ?_; (case aR => repeat (first | exact (Kd.R_reads' HO266.out).2.2 | (with_reducible refine Kd.C_alloc ?_ _) | (with_reducible refine Kd.C_drewN ?_ _) | (with_reducible refine Kd.C_drew ?_))); (case aB => exact (by repeat (first | (with_reducible first | exact HB.out | apply below_alloc | apply pw_below_drewN | apply below_drew1 | refine below_set ?_ GE241.out) | exact HB.out))); (case aF => exact (fun k_ hk => Kd.fresh' (Kd.R_lt (by (with_reducible repeat (first | apply Kd.R_alloc | apply Kd.R_drewN | apply Kd.R_drew)); exact HO266.out)) k_ hk)); (case aO => exact (by (with_reducible repeat (first | apply Kd.R_alloc | apply Kd.R_drewN | apply Kd.R_drew)); exact Kd.R_mono HO_3.out (fun _ hk => hk.2))); (case aS => exact (below_size (by repeat (first | (with_reducible first | exact HB.out | apply below_alloc | apply pw_below_drewN | apply below_drew1 | refine below_set ?_ GE241.out) | exact HB.out)))); (case aL => have := LMc34.out; omega); intro v268 w37 ho hb hg hat; rw [← Ny267.out] at ho; have n0_ := Aside0.mk (blk_grown (g := gb241) (o := .cells #[.int .i64 a0_0, .int .u64 a0_1, .int .i64 a0_2, .int .u64 a0_3, .int .u64 a0_4, .int .u64 a0_5, .slice A0_6 l0_6.length c0_6, .slice A0_7 l0_7.length c0_7, .slice A0_8 l0_8.length c0_8] 39 (0, 0)) (by (with_reducible repeat (first | refine blk_drewN ?_ _ | refine blk_drew ?_ | refine blk_alloc ?_ _)); exact BK241.out) hg (Kd.R_ne HO_3.out BK241.out (by decide))); have n1_ := Aside0.mk (Kd.R_after (ok := (fun _ => True)) (by (with_reducible repeat (first | apply Kd.R_alloc | apply Kd.R_drewN | apply Kd.R_drew)); exact HO266.out) hg hat); have n2_ := Aside0.mk (hb); have n3_ := Aside0.mk (ho); clear BK241; clear HO266; clear HB; clear HO_3; have BK241 := n0_; have HO266 := n1_; have HB := n2_; have HO269 := n3_; clear n0_ n1_ n2_ n3_; clear ho hb hg hat))
                    go_roundg k1
                    case measure => have := HK1.out; omega
                    case rel => exact ⟨(y267), (wrap64 (x5_1 + 1)), (by first | rfl | (simp; done) | (simp [*]; done)), H', ⟨by have := HK1.out; omega⟩, ⟨by (with_reducible repeat (first | apply Kd.R_alloc | apply Kd.R_drewN | apply Kd.R_drew)); exact Kd.R_mono HO269.out (fun _ hk => trivial)⟩, ⟨by (with_reducible repeat (first | refine blk_drewN ?_ _ | refine blk_drew ?_ | refine blk_alloc ?_ _)); exact BK241.out⟩, ⟨by repeat (first | (with_reducible first | exact HB.out | apply below_alloc | apply pw_below_drewN | apply below_drew1 | refine below_set ?_ GE241.out) | exact HB.out)⟩⟩
                  · rw [if_neg c34] at H
                    exact absurd H (by simp)
                · rw [if_neg c32] at H
                  have c32b0 : ((bt t245 x5_1) == 108) = false := beq_eq_false_iff_ne.mpr c32
                  have c32b1 : ((bt t245 x5_1) != 108) = true := bne_iff_ne.mpr c32
                  by_cases c39 : (bt t245 x5_1) = 112
                  · rw [if_pos c39] at H
                    have c39b0 : ((bt t245 x5_1) == 112) = true := beq_iff_eq.mpr c39
                    have c39b1 : ((bt t245 x5_1) != 112) = false := bne_eq_false_iff_eq.mpr c39
                    clear c39
                    replace H := Option.bind_eq_some_iff.mp H
                    obtain ⟨t270, A400, H⟩ := H
                    replace H : (if x3_1.length + t270.length < 140737488355328 then (quorateref17_Inside.l0 k1 (x3_1 ++ t270) t245 (wrap64 (x5_1 + 1)) a0_0 a0_1 a0_2 a0_3 a0_4 a0_5 l0_6 l0_7 l0_8) else (none)) = some r := H
                    have A40 := Aside0.mk A400
                    clear A400
                    by_cases c41 : x3_1.length + t270.length < 140737488355328
                    · rw [if_pos c41] at H
                      have LMc41 := Aside0.mk c41
                      clear c41
                      obtain ⟨y273, hy273⟩ : ∃ y_ : List Int, y_ = (x3_1 ++ t270) := ⟨_, rfl⟩
                      replace H : (quorateref17_Inside.l0 k1 y273 t245 (wrap64 (x5_1 + 1)) a0_0 a0_1 a0_2 a0_3 a0_4 a0_5 l0_6 l0_7 l0_8) = some r := by first | (rw [hy273]; with_reducible exact H) | (have H2_ := (Option.bind_some _ _).symm.trans H; rw [hy273]; with_reducible exact H2_) | (have H2_ := (Option.bind_some _ _).symm.trans H; with_reducible exact H2_) | with_reducible exact H | (rw [hy273]; exact H) | exact H
                      have Ny273 := Aside0.mk hy273
                      clear hy273
                      have H' := Aside0.mk H
                      clear H
                      have p10 : 0 ≤ (x5_1 : Int) := of_decide_eq_true (by first | (with_reducible assumption) | assumption)
                      have q10 : x5_1 < (t245.size : Int) := of_decide_eq_true (by first | (with_reducible assumption) | assumption)
                      have hx10 := bt_at t245 x5_1
                      replace p10 := eq_true p10
                      replace q10 := eq_true q10
                      have hcz42_0 : wr.cell? ⟨gb241, 0, none⟩ = some (.int .i64 a0_0) := (blk_cell BK241.out 0).trans rfl
                      have hcz42_1 : wr.cell? ⟨gb241, 1, none⟩ = some (.int .u64 a0_1) := (blk_cell BK241.out 1).trans rfl
                      have hcz42_2 : wr.cell? ⟨gb241, 2, none⟩ = some (.int .i64 a0_2) := (blk_cell BK241.out 2).trans rfl
                      have hcz42_3 : wr.cell? ⟨gb241, 3, none⟩ = some (.int .u64 a0_3) := (blk_cell BK241.out 3).trans rfl
                      have hcz42_4 : wr.cell? ⟨gb241, 4, none⟩ = some (.int .u64 a0_4) := (blk_cell BK241.out 4).trans rfl
                      have hcz42_5 : wr.cell? ⟨gb241, 5, none⟩ = some (.int .u64 a0_5) := (blk_cell BK241.out 5).trans rfl
                      have hcz42_6 : wr.cell? ⟨gb241, 6, none⟩ = some (.slice A0_6 l0_6.length c0_6) := (blk_cell BK241.out 6).trans rfl
                      have hcz42_7 : wr.cell? ⟨gb241, 7, none⟩ = some (.slice A0_7 l0_7.length c0_7) := (blk_cell BK241.out 7).trans rfl
                      have hcz42_8 : wr.cell? ⟨gb241, 8, none⟩ = some (.slice A0_8 l0_8.length c0_8) := (blk_cell BK241.out 8).trans rfl
                      have hfz42_0 := blk_frozen BK241.out 0
                      have hfz42_1 := blk_frozen BK241.out 1
                      have hfz42_2 := blk_frozen BK241.out 2
                      have hfz42_3 := blk_frozen BK241.out 3
                      have hfz42_4 := blk_frozen BK241.out 4
                      have hfz42_5 := blk_frozen BK241.out 5
                      have hfz42_6 := blk_frozen BK241.out 6
                      have hfz42_7 := blk_frozen BK241.out 7
                      have hfz42_8 := blk_frozen BK241.out 8
                      go_wp2_with (first | ((with_reducible refine gate_callee (f := 34) rfl ?_); refine goesL_ (some 57) rfl rfl Tryd.func34 (by kernel_rfl) rfl #[.slice A0_8 l0_8.length c0_8] rfl (by (try simp only [List.map_toArray, List.map_cons, List.map_nil]); first | done | rfl | (simp only [List.length_drop, List.length_take]; rfl)) ?_; (with_reducible refine (quorateref17_text.calls k1 _ _ l0_8 t270 _ ?side1 ?side2 A40.out).mono ?_); (case side1 => repeat (first | exact (Kd.C_below HR0_8.out HB.out) | (with_reducible refine Kd.C_alloc ?_ _) | (with_reducible refine Kd.C_drewN ?_ _) | (with_reducible refine Kd.C_drew ?_))); (case side2 => exact HC0_8.out); rintro e w43 ⟨v271, rfl, ho0, hb⟩; refine ⟨_, rfl, ?_⟩; have n0_ := Aside0.mk (Kd.R_elder' (by (with_reducible repeat (first | apply Kd.R_alloc | apply Kd.R_drewN | apply Kd.R_drew)); exact HO_3.out) (Kd.R_base ho0) hb); have n1_ := Aside0.mk (Kd.R_lower (Kd.R_new' ho0 (Kd.R_lt (by (with_reducible repeat (first | apply Kd.R_alloc | apply Kd.R_drewN | apply Kd.R_drew)); exact HO_3.out))) (below_size (by repeat (first | (with_reducible first | exact HB.out | apply below_alloc | apply pw_below_drewN | apply below_drew1 | refine below_set ?_ GE241.out) | exact HB.out)))); have n2_ := Aside0.mk (blk_below (g := gb241) (o := .cells #[.int .i64 a0_0, .int .u64 a0_1, .int .i64 a0_2, .int .u64 a0_3, .int .u64 a0_4, .int .u64 a0_5, .slice A0_6 l0_6.length c0_6, .slice A0_7 l0_7.length c0_7, .slice A0_8 l0_8.length c0_8] 39 (0, 0)) (by (with_reducible repeat (first | refine blk_drewN ?_ _ | refine blk_drew ?_ | refine blk_alloc ?_ _)); exact BK241.out) hb); have n3_ := Aside0.mk (below_step (by repeat (first | (with_reducible first | exact HB.out | apply below_alloc | apply pw_below_drewN | apply below_drew1 | refine below_set ?_ GE241.out) | exact HB.out)) hb); clear HO_3; clear BK241; clear HB; have HO_3 := n0_; have HO272 := n1_; have BK241 := n2_; have HB := n3_; clear n0_ n1_ n2_ n3_; (try clear hb); (try clear hb2); (try clear hk); (try clear hi); (try clear ho0); obtain ⟨Ao45, co45, eo45⟩ := Kd.R_slice HO272.out; subst eo45) | ((with_reducible refine gate_builtin (b := .append) (xs := #[.tmp 54, .tmp 57]) rfl ?_); at_builtin; refine Kd.R_append_rows (Kd.int .u8) (w0 := w) w.heap.size rfl (.tmp 54) (.tmp 57) 27 5 (.int .u8 0) 1 rfl Tryd.underlying27 info5 rfl (by decide) (by omega) u3 x3_1 t270 _ _ _ (fun k_ => some k_ ≠ (.slice Ao45 t270.length co45 : Value).ownBlock) (fun _ => False) rfl rfl ?aO ?aR (fun _ _ h => h) (fun _ h => h.elim) ?aF ?aB ?aS ?aL ?_; (case aR => repeat (first | exact (Kd.R_reads' HO272.out).2.2 | (with_reducible refine Kd.C_alloc ?_ _) | (with_reducible refine Kd.C_drewN ?_ _) | (with_reducible refine Kd.C_drew ?_))); (case aB => exact (by repeat (first | (with_reducible first | exact HB.out | apply below_alloc | apply pw_below_drewN | apply below_drew1 | refine below_set ?_ GE241.out) | exact HB.out))); (case aF => exact (fun k_ hk => Kd.fresh' (Kd.R_lt (by (with_reducible repeat (first | apply Kd.R_alloc | apply Kd.R_drewN | apply Kd.R_drew)); exact HO272.out)) k_ hk)); (case aO => exact (by (with_reducible repeat (first | apply Kd.R_alloc | apply Kd.R_drewN | apply Kd.R_drew)); exact Kd.R_mono HO_3.out (fun _ hk => hk.2))); (case aS => exact (below_size (by repeat (first | (with_reducible first | exact HB.out | apply below_alloc | apply pw_below_drewN | apply below_drew1 | refine below_set ?_ GE241.out) | exact HB.out)))); (case aL => have := LMc41.out; omega); intro v274 w44 ho hb hg hat; rw [← Ny273.out] at ho; have n0_ := Aside0.mk (blk_grown (g := gb241) (o := .cells #[.int .i64 a0_0, .int .u64 a0_1, .int .i64 a0_2, .int .u64 a0_3, .int .u64 a0_4, .int .u64 a0_5, .slice A0_6 l0_6.length c0_6, .slice A0_7 l0_7.length c0_7, .slice A0_8 l0_8.length c0_8] 39 (0, 0)) (by (with_reducible repeat (first | refine blk_drewN ?_ _ | refine blk_drew ?_ | refine blk_alloc ?_ _)); exact BK241.out) hg (Kd.R_ne HO_3.out BK241.out (by decide))); have n1_ := Aside0.mk (Kd.R_after (ok := (fun _ => True)) (by (with_reducible repeat (first | apply Kd.R_alloc | apply Kd.R_drewN | apply Kd.R_drew)); exact HO272.out) hg hat); have n2_ := Aside0.mk (hb); have n3_ := Aside0.mk (ho); clear BK241; clear HO272; clear HB; clear HO_3; have BK241 := n0_; have HO272 := n1_; have HB := n2_; have HO275 := n3_; clear n0_ n1_ n2_ n3_; clear ho hb hg hat))
                      go_roundg k1
                      case measure => have := HK1.out; omega
                      case rel => exact ⟨(y273), (wrap64 (x5_1 + 1)), (by first | rfl | (simp; done) | (simp [*]; done)), H', ⟨by have := HK1.out; omega⟩, ⟨by (with_reducible repeat (first | apply Kd.R_alloc | apply Kd.R_drewN | apply Kd.R_drew)); exact Kd.R_mono HO275.out (fun _ hk => trivial)⟩, ⟨by (with_reducible repeat (first | refine blk_drewN ?_ _ | refine blk_drew ?_ | refine blk_alloc ?_ _)); exact BK241.out⟩, ⟨by repeat (first | (with_reducible first | exact HB.out | apply below_alloc | apply pw_below_drewN | apply below_drew1 | refine below_set ?_ GE241.out) | exact HB.out)⟩⟩
                    · rw [if_neg c41] at H
                      exact absurd H (by simp)
                  · rw [if_neg c39] at H
                    have c39b0 : ((bt t245 x5_1) == 112) = false := beq_eq_false_iff_ne.mpr c39
                    have c39b1 : ((bt t245 x5_1) != 112) = true := bne_iff_ne.mpr c39
                    by_cases c46 : (bt t245 x5_1) = 115
                    · rw [if_pos c46] at H
                      have c46b0 : ((bt t245 x5_1) == 115) = true := beq_iff_eq.mpr c46
                      have c46b1 : ((bt t245 x5_1) != 115) = false := bne_eq_false_iff_eq.mpr c46
                      clear c46
                      replace H := Option.bind_eq_some_iff.mp H
                      obtain ⟨t276, A470, H⟩ := H
                      replace H : (if x3_1.length + t276.length < 140737488355328 then (quorateref17_Inside.l1 k1 (x3_1 ++ t276) t245 x5_1 0 a0_0 a0_1 a0_2 a0_3 a0_4 a0_5 l0_6 l0_7 l0_8) else (none)) = some r := H
                      have A47 := Aside0.mk A470
                      clear A470
                      by_cases c48 : x3_1.length + t276.length < 140737488355328
                      · rw [if_pos c48] at H
                        have LMc48 := Aside0.mk c48
                        clear c48
                        obtain ⟨y279, hy279⟩ : ∃ y_ : List Int, y_ = (x3_1 ++ t276) := ⟨_, rfl⟩
                        replace H : (quorateref17_Inside.l1 k1 y279 t245 x5_1 0 a0_0 a0_1 a0_2 a0_3 a0_4 a0_5 l0_6 l0_7 l0_8) = some r := by first | (rw [hy279]; with_reducible exact H) | (have H2_ := (Option.bind_some _ _).symm.trans H; rw [hy279]; with_reducible exact H2_) | (have H2_ := (Option.bind_some _ _).symm.trans H; with_reducible exact H2_) | with_reducible exact H | (rw [hy279]; exact H) | exact H
                        have Ny279 := Aside0.mk hy279
                        clear hy279
                        have H' := Aside0.mk H
                        clear H
                        have p10 : 0 ≤ (x5_1 : Int) := of_decide_eq_true (by first | (with_reducible assumption) | assumption)
                        have q10 : x5_1 < (t245.size : Int) := of_decide_eq_true (by first | (with_reducible assumption) | assumption)
                        have hx10 := bt_at t245 x5_1
                        replace p10 := eq_true p10
                        replace q10 := eq_true q10
                        have hcz49_0 : wr.cell? ⟨gb241, 0, none⟩ = some (.int .i64 a0_0) := (blk_cell BK241.out 0).trans rfl
                        have hcz49_1 : wr.cell? ⟨gb241, 1, none⟩ = some (.int .u64 a0_1) := (blk_cell BK241.out 1).trans rfl
                        have hcz49_2 : wr.cell? ⟨gb241, 2, none⟩ = some (.int .i64 a0_2) := (blk_cell BK241.out 2).trans rfl
                        have hcz49_3 : wr.cell? ⟨gb241, 3, none⟩ = some (.int .u64 a0_3) := (blk_cell BK241.out 3).trans rfl
                        have hcz49_4 : wr.cell? ⟨gb241, 4, none⟩ = some (.int .u64 a0_4) := (blk_cell BK241.out 4).trans rfl
                        have hcz49_5 : wr.cell? ⟨gb241, 5, none⟩ = some (.int .u64 a0_5) := (blk_cell BK241.out 5).trans rfl
                        have hcz49_6 : wr.cell? ⟨gb241, 6, none⟩ = some (.slice A0_6 l0_6.length c0_6) := (blk_cell BK241.out 6).trans rfl
                        have hcz49_7 : wr.cell? ⟨gb241, 7, none⟩ = some (.slice A0_7 l0_7.length c0_7) := (blk_cell BK241.out 7).trans rfl
                        have hcz49_8 : wr.cell? ⟨gb241, 8, none⟩ = some (.slice A0_8 l0_8.length c0_8) := (blk_cell BK241.out 8).trans rfl
                        have hfz49_0 := blk_frozen BK241.out 0
                        have hfz49_1 := blk_frozen BK241.out 1
                        have hfz49_2 := blk_frozen BK241.out 2
                        have hfz49_3 := blk_frozen BK241.out 3
                        have hfz49_4 := blk_frozen BK241.out 4
                        have hfz49_5 := blk_frozen BK241.out 5
                        have hfz49_6 := blk_frozen BK241.out 6
                        have hfz49_7 := blk_frozen BK241.out 7
                        have hfz49_8 := blk_frozen BK241.out 8
                        go_wp2_with (first | ((with_reducible refine gate_callee (f := 33) rfl ?_); refine goesL_ (some 66) rfl rfl Tryd.func33 (by kernel_rfl) rfl #[.int .u64 (IntKind.u64.wrap ((l0_7.length : Int)))] rfl (by (try simp only [List.map_toArray, List.map_cons, List.map_nil]); first | done | rfl | (simp only [List.length_drop, List.length_take]; rfl)) ?_; (with_reducible refine (quorateref01_Uint.calls k1 (IntKind.u64.wrap ((l0_7.length : Int))) t276 _ A47.out).mono ?_); rintro e w50 ⟨v277, rfl, ho0, hb⟩; refine ⟨_, rfl, ?_⟩; have n0_ := Aside0.mk (Kd.R_elder' (by (with_reducible repeat (first | apply Kd.R_alloc | apply Kd.R_drewN | apply Kd.R_drew)); exact HO_3.out) (Kd.R_base ho0) hb); have n1_ := Aside0.mk (Kd.R_lower (Kd.R_new' ho0 (Kd.R_lt (by (with_reducible repeat (first | apply Kd.R_alloc | apply Kd.R_drewN | apply Kd.R_drew)); exact HO_3.out))) (below_size (by repeat (first | (with_reducible first | exact HB.out | apply below_alloc | apply pw_below_drewN | apply below_drew1 | refine below_set ?_ GE241.out) | exact HB.out)))); have n2_ := Aside0.mk (blk_below (g := gb241) (o := .cells #[.int .i64 a0_0, .int .u64 a0_1, .int .i64 a0_2, .int .u64 a0_3, .int .u64 a0_4, .int .u64 a0_5, .slice A0_6 l0_6.length c0_6, .slice A0_7 l0_7.length c0_7, .slice A0_8 l0_8.length c0_8] 39 (0, 0)) (by (with_reducible repeat (first | refine blk_drewN ?_ _ | refine blk_drew ?_ | refine blk_alloc ?_ _)); exact BK241.out) hb); have n3_ := Aside0.mk (below_step (by repeat (first | (with_reducible first | exact HB.out | apply below_alloc | apply pw_below_drewN | apply below_drew1 | refine below_set ?_ GE241.out) | exact HB.out)) hb); clear HO_3; clear BK241; clear HB; have HO_3 := n0_; have HO278 := n1_; have BK241 := n2_; have HB := n3_; clear n0_ n1_ n2_ n3_; (try clear hb); (try clear hb2); (try clear hk); (try clear hi); (try clear ho0); obtain ⟨Ao52, co52, eo52⟩ := Kd.R_slice HO278.out; subst eo52) | ((with_reducible refine gate_builtin (b := .append) (xs := #[.tmp 61, .tmp 66]) rfl ?_); at_builtin; refine Kd.R_append_rows (Kd.int .u8) (w0 := w) w.heap.size rfl (.tmp 61) (.tmp 66) 27 5 (.int .u8 0) 1 rfl Tryd.underlying27 info5 rfl (by decide) (by omega) u3 x3_1 t276 _ _ _ (fun k_ => some k_ ≠ (.slice Ao52 t276.length co52 : Value).ownBlock) (fun _ => False) rfl rfl ?aO ?aR (fun _ _ h => h) (fun _ h => h.elim) ?aF ?aB ?aS ?aL ?_; (case aR => repeat (first | exact (Kd.R_reads' HO278.out).2.2 | (with_reducible refine Kd.C_alloc ?_ _) | (with_reducible refine Kd.C_drewN ?_ _) | (with_reducible refine Kd.C_drew ?_))); (case aB => exact (by repeat (first | (with_reducible first | exact HB.out | apply below_alloc | apply pw_below_drewN | apply below_drew1 | refine below_set ?_ GE241.out) | exact HB.out))); (case aF => exact (fun k_ hk => Kd.fresh' (Kd.R_lt (by (with_reducible repeat (first | apply Kd.R_alloc | apply Kd.R_drewN | apply Kd.R_drew)); exact HO278.out)) k_ hk)); (case aO => exact (by (with_reducible repeat (first | apply Kd.R_alloc | apply Kd.R_drewN | apply Kd.R_drew)); exact Kd.R_mono HO_3.out (fun _ hk => hk.2))); (case aS => exact (below_size (by repeat (first | (with_reducible first | exact HB.out | apply below_alloc | apply pw_below_drewN | apply below_drew1 | refine below_set ?_ GE241.out) | exact HB.out)))); (case aL => have := LMc48.out; omega); intro v280 w51 ho hb hg hat; rw [← Ny279.out] at ho; have n0_ := Aside0.mk (blk_grown (g := gb241) (o := .cells #[.int .i64 a0_0, .int .u64 a0_1, .int .i64 a0_2, .int .u64 a0_3, .int .u64 a0_4, .int .u64 a0_5, .slice A0_6 l0_6.length c0_6, .slice A0_7 l0_7.length c0_7, .slice A0_8 l0_8.length c0_8] 39 (0, 0)) (by (with_reducible repeat (first | refine blk_drewN ?_ _ | refine blk_drew ?_ | refine blk_alloc ?_ _)); exact BK241.out) hg (Kd.R_ne HO_3.out BK241.out (by decide))); have n1_ := Aside0.mk (Kd.R_after (ok := (fun _ => True)) (by (with_reducible repeat (first | apply Kd.R_alloc | apply Kd.R_drewN | apply Kd.R_drew)); exact HO278.out) hg hat); have n2_ := Aside0.mk (hb); have n3_ := Aside0.mk (ho); clear BK241; clear HO278; clear HB; clear HO_3; have BK241 := n0_; have HO278 := n1_; have HB := n2_; have HO281 := n3_; clear n0_ n1_ n2_ n3_; clear ho hb hg hat))
                        go_loopg [3, 6] k1 (fun kq v3 v6 w' => ∃ (x3_2 : List Int) (x6_2 : Int), v6 = .int .i64 x6_2 ∧ Aside0 (quorateref17_Inside.l1 kq x3_2 t245 x5_1 x6_2 a0_0 a0_1 a0_2 a0_3 a0_4 a0_5 l0_6 l0_7 l0_8 = some r) ∧ Aside0 (kq ≤ k1) ∧ Aside0 (Kd.R (Kd.int .u8) 5 w' w.heap.size (fun _ => True) v3 x3_2) ∧ Aside0 (w'.heap[gb241]? = some (.cells #[.int .i64 a0_0, .int .u64 a0_1, .int .i64 a0_2, .int .u64 a0_3, .int .u64 a0_4, .int .u64 a0_5, (.slice A0_6 l0_6.length c0_6), (.slice A0_7 l0_7.length c0_7), (.slice A0_8 l0_8.length c0_8)] 39 (0, 0))) ∧ Aside0 (Below w.heap.size w w'))
                        case atStart => exact ⟨(y279), (0), (by first | rfl | (simp; done) | (simp [*]; done)), H', ⟨Nat.le_refl _⟩, ⟨by (with_reducible repeat (first | apply Kd.R_alloc | apply Kd.R_drewN | apply Kd.R_drew)); exact Kd.R_mono HO281.out (fun _ hk => trivial)⟩, ⟨by (with_reducible repeat (first | refine blk_drewN ?_ _ | refine blk_drew ?_ | refine blk_alloc ?_ _)); exact BK241.out⟩, ⟨by repeat (first | (with_reducible first | exact HB.out | apply below_alloc | apply pw_below_drewN | apply below_drew1 | refine below_set ?_ GE241.out) | exact HB.out)⟩⟩
                        case round =>
                          clear H'
                          try clear c1
                          try clear p1
                          try clear q1
                          try clear hx1
                          try clear c2
                          try clear p2
                          try clear c3
                          try clear c4
                          try clear p6
                          try clear c8
                          try clear c8b0
                          try clear c9
                          try clear c9b0
                          try clear p10
                          try clear q10
                          try clear hx10
                          try clear c11
                          try clear c11b0
                          try clear c11b1
                          try clear c13
                          try clear c16
                          try clear c18
                          try clear c18b0
                          try clear c18b1
                          try clear c20
                          try clear c25
                          try clear c25b0
                          try clear c25b1
                          try clear c27
                          try clear c28
                          try clear c32
                          try clear c32b0
                          try clear c32b1
                          try clear c33
                          try clear c34
                          try clear c39
                          try clear c39b0
                          try clear c39b1
                          try clear c41
                          try clear c46
                          try clear c46b0
                          try clear c46b1
                          try clear c48
                          try clear hcz14_0
                          try clear hcz14_1
                          try clear hcz14_2
                          try clear hcz14_3
                          try clear hcz14_4
                          try clear hcz14_5
                          try clear hcz14_6
                          try clear hcz14_7
                          try clear hcz14_8
                          try clear hcz21_0
                          try clear hcz21_1
                          try clear hcz21_2
                          try clear hcz21_3
                          try clear hcz21_4
                          try clear hcz21_5
                          try clear hcz21_6
                          try clear hcz21_7
                          try clear hcz21_8
                          try clear hcz28_0
                          try clear hcz28_1
                          try clear hcz28_2
                          try clear hcz28_3
                          try clear hcz28_4
                          try clear hcz28_5
                          try clear hcz28_6
                          try clear hcz28_7
                          try clear hcz28_8
                          try clear hcz35_0
                          try clear hcz35_1
                          try clear hcz35_2
                          try clear hcz35_3
                          try clear hcz35_4
                          try clear hcz35_5
                          try clear hcz35_6
                          try clear hcz35_7
                          try clear hcz35_8
                          try clear hcz42_0
                          try clear hcz42_1
                          try clear hcz42_2
                          try clear hcz42_3
                          try clear hcz42_4
                          try clear hcz42_5
                          try clear hcz42_6
                          try clear hcz42_7
                          try clear hcz42_8
                          try clear hcz49_0
                          try clear hcz49_1
                          try clear hcz49_2
                          try clear hcz49_3
                          try clear hcz49_4
                          try clear hcz49_5
                          try clear hcz49_6
                          try clear hcz49_7
                          try clear hcz49_8
                          try clear hcz4_0
                          try clear hcz4_1
                          try clear hcz4_2
                          try clear hcz4_3
                          try clear hcz4_4
                          try clear hcz4_5
                          try clear hcz4_6
                          try clear hcz4_7
                          try clear hcz4_8
                          try clear hcz7_0
                          try clear hcz7_1
                          try clear hcz7_2
                          try clear hcz7_3
                          try clear hcz7_4
                          try clear hcz7_5
                          try clear hcz7_6
                          try clear hcz7_7
                          try clear hcz7_8
                          try clear hfz14_0
                          try clear hfz14_1
                          try clear hfz14_2
                          try clear hfz14_3
                          try clear hfz14_4
                          try clear hfz14_5
                          try clear hfz14_6
                          try clear hfz14_7
                          try clear hfz14_8
                          try clear hfz21_0
                          try clear hfz21_1
                          try clear hfz21_2
                          try clear hfz21_3
                          try clear hfz21_4
                          try clear hfz21_5
                          try clear hfz21_6
                          try clear hfz21_7
                          try clear hfz21_8
                          try clear hfz28_0
                          try clear hfz28_1
                          try clear hfz28_2
                          try clear hfz28_3
                          try clear hfz28_4
                          try clear hfz28_5
                          try clear hfz28_6
                          try clear hfz28_7
                          try clear hfz28_8
                          try clear hfz35_0
                          try clear hfz35_1
                          try clear hfz35_2
                          try clear hfz35_3
                          try clear hfz35_4
                          try clear hfz35_5
                          try clear hfz35_6
                          try clear hfz35_7
                          try clear hfz35_8
                          try clear hfz42_0
                          try clear hfz42_1
                          try clear hfz42_2
                          try clear hfz42_3
                          try clear hfz42_4
                          try clear hfz42_5
                          try clear hfz42_6
                          try clear hfz42_7
                          try clear hfz42_8
                          try clear hfz49_0
                          try clear hfz49_1
                          try clear hfz49_2
                          try clear hfz49_3
                          try clear hfz49_4
                          try clear hfz49_5
                          try clear hfz49_6
                          try clear hfz49_7
                          try clear hfz49_8
                          try clear hfz4_0
                          try clear hfz4_1
                          try clear hfz4_2
                          try clear hfz4_3
                          try clear hfz4_4
                          try clear hfz4_5
                          try clear hfz4_6
                          try clear hfz4_7
                          try clear hfz4_8
                          try clear hfz7_0
                          try clear hfz7_1
                          try clear hfz7_2
                          try clear hfz7_3
                          try clear hfz7_4
                          try clear hfz7_5
                          try clear hfz7_6
                          try clear hfz7_7
                          try clear hfz7_8
                          try clear p10
                          try clear p2
                          try clear q10
                          obtain ⟨x3_2, x6_2, rfl, HA, HK2, HO_3, BK241, HB⟩ := hrel
                          cases gk with
                          | zero => exact absurd HA.out (by simp [quorateref17_Inside.l1])
                          | succ k2 =>
                            have H := HA.out
                            clear HA
                            simp only [quorateref17_Inside.l1] at H
                            by_cases c53 : x6_2 < (l0_7.length : Int)
                            · rw [if_pos c53] at H
                              have c53b0 : decide (x6_2 < (l0_7.length : Int)) = true := decide_eq_true c53
                              clear c53
                              by_cases c54 : 0 ≤ x6_2
                              · rw [if_pos c54] at H
                                have c54b0 : decide (0 ≤ x6_2) = true := decide_eq_true c54
                                clear c54
                                replace H := Option.bind_eq_some_iff.mp H
                                obtain ⟨t283, A550, H⟩ := H
                                replace H : (if x3_2.length + t283.length < 140737488355328 then (quorateref17_Inside.l1 k2 (x3_2 ++ t283) t245 x5_1 (wrap64 (x6_2 + 1)) a0_0 a0_1 a0_2 a0_3 a0_4 a0_5 l0_6 l0_7 l0_8) else (none)) = some r := H
                                have A55 := Aside0.mk A550
                                clear A550
                                by_cases c56 : x3_2.length + t283.length < 140737488355328
                                · rw [if_pos c56] at H
                                  have LMc56 := Aside0.mk c56
                                  clear c56
                                  obtain ⟨y286, hy286⟩ : ∃ y_ : List Int, y_ = (x3_2 ++ t283) := ⟨_, rfl⟩
                                  replace H : (quorateref17_Inside.l1 k2 y286 t245 x5_1 (wrap64 (x6_2 + 1)) a0_0 a0_1 a0_2 a0_3 a0_4 a0_5 l0_6 l0_7 l0_8) = some r := by first | (rw [hy286]; with_reducible exact H) | (have H2_ := (Option.bind_some _ _).symm.trans H; rw [hy286]; with_reducible exact H2_) | (have H2_ := (Option.bind_some _ _).symm.trans H; with_reducible exact H2_) | with_reducible exact H | (rw [hy286]; exact H) | exact H
                                  have Ny286 := Aside0.mk hy286
                                  clear hy286
                                  have H' := Aside0.mk H
                                  clear H
                                  have hcz57_0 : wr.cell? ⟨gb241, 0, none⟩ = some (.int .i64 a0_0) := (blk_cell BK241.out 0).trans rfl
                                  have hcz57_1 : wr.cell? ⟨gb241, 1, none⟩ = some (.int .u64 a0_1) := (blk_cell BK241.out 1).trans rfl
                                  have hcz57_2 : wr.cell? ⟨gb241, 2, none⟩ = some (.int .i64 a0_2) := (blk_cell BK241.out 2).trans rfl
                                  have hcz57_3 : wr.cell? ⟨gb241, 3, none⟩ = some (.int .u64 a0_3) := (blk_cell BK241.out 3).trans rfl
                                  have hcz57_4 : wr.cell? ⟨gb241, 4, none⟩ = some (.int .u64 a0_4) := (blk_cell BK241.out 4).trans rfl
                                  have hcz57_5 : wr.cell? ⟨gb241, 5, none⟩ = some (.int .u64 a0_5) := (blk_cell BK241.out 5).trans rfl
                                  have hcz57_6 : wr.cell? ⟨gb241, 6, none⟩ = some (.slice A0_6 l0_6.length c0_6) := (blk_cell BK241.out 6).trans rfl
                                  have hcz57_7 : wr.cell? ⟨gb241, 7, none⟩ = some (.slice A0_7 l0_7.length c0_7) := (blk_cell BK241.out 7).trans rfl
                                  have hcz57_8 : wr.cell? ⟨gb241, 8, none⟩ = some (.slice A0_8 l0_8.length c0_8) := (blk_cell BK241.out 8).trans rfl
                                  have hfz57_0 := blk_frozen BK241.out 0
                                  have hfz57_1 := blk_frozen BK241.out 1
                                  have hfz57_2 := blk_frozen BK241.out 2
                                  have hfz57_3 := blk_frozen BK241.out 3
                                  have hfz57_4 := blk_frozen BK241.out 4
                                  have hfz57_5 := blk_frozen BK241.out 5
                                  have hfz57_6 := blk_frozen BK241.out 6
                                  have hfz57_7 := blk_frozen BK241.out 7
                                  have hfz57_8 := blk_frozen BK241.out 8
                                  have p282 : 0 ≤ (x6_2 : Int) := of_decide_eq_true (by first | (with_reducible assumption) | assumption)
                                  have q282 : x6_2 < (l0_7.length : Int) := of_decide_eq_true (by first | (with_reducible assumption) | assumption)
                                  obtain ⟨ad282, A282_0, c282_0, e282, hx282_0, hl282_0, hi282_0⟩ := at_L4 HR0_7.out x6_2 p282 q282
                                  cases e282
                                  replace hx282_0 := (HB.out.cell (World.block_lt_of_cell? w _ hx282_0)).trans hx282_0
                                  have HR282_0 := Aside0.mk hi282_0
                                  have HC282_0 := Aside0.mk hl282_0
                                  clear hi282_0 hl282_0
                                  replace p282 := eq_true p282
                                  replace q282 := eq_true q282
                                  go_wp2_with (first | ((with_reducible refine gate_callee (f := 34) rfl ?_); refine goesL_ (some 81) rfl rfl Tryd.func34 (by kernel_rfl) rfl #[.slice A282_0 (rd_L4 l0_7 x6_2).length c282_0] rfl (by (try simp only [List.map_toArray, List.map_cons, List.map_nil]); first | done | rfl | (simp only [List.length_drop, List.length_take]; rfl)) ?_; (with_reducible refine (quorateref17_text.calls k2 _ _ (rd_L4 l0_7 x6_2) t283 _ ?side1 ?side2 A55.out).mono ?_); (case side1 => repeat (first | exact (Kd.C_below HR282_0.out HB.out) | (with_reducible refine Kd.C_alloc ?_ _) | (with_reducible refine Kd.C_drewN ?_ _) | (with_reducible refine Kd.C_drew ?_))); (case side2 => exact HC282_0.out); rintro e w58 ⟨v284, rfl, ho0, hb⟩; refine ⟨_, rfl, ?_⟩; have n0_ := Aside0.mk (Kd.R_elder' (by (with_reducible repeat (first | apply Kd.R_alloc | apply Kd.R_drewN | apply Kd.R_drew)); exact HO_3.out) (Kd.R_base ho0) hb); have n1_ := Aside0.mk (Kd.R_lower (Kd.R_new' ho0 (Kd.R_lt (by (with_reducible repeat (first | apply Kd.R_alloc | apply Kd.R_drewN | apply Kd.R_drew)); exact HO_3.out))) (below_size (by repeat (first | (with_reducible first | exact HB.out | apply below_alloc | apply pw_below_drewN | apply below_drew1 | refine below_set ?_ GE241.out) | exact HB.out)))); have n2_ := Aside0.mk (blk_below (g := gb241) (o := .cells #[.int .i64 a0_0, .int .u64 a0_1, .int .i64 a0_2, .int .u64 a0_3, .int .u64 a0_4, .int .u64 a0_5, .slice A0_6 l0_6.length c0_6, .slice (some ad282) l0_7.length c0_7, .slice A0_8 l0_8.length c0_8] 39 (0, 0)) (by (with_reducible repeat (first | refine blk_drewN ?_ _ | refine blk_drew ?_ | refine blk_alloc ?_ _)); exact BK241.out) hb); have n3_ := Aside0.mk (below_step (by repeat (first | (with_reducible first | exact HB.out | apply below_alloc | apply pw_below_drewN | apply below_drew1 | refine below_set ?_ GE241.out) | exact HB.out)) hb); clear HO_3; clear BK241; clear HB; have HO_3 := n0_; have HO285 := n1_; have BK241 := n2_; have HB := n3_; clear n0_ n1_ n2_ n3_; (try clear hb); (try clear hb2); (try clear hk); (try clear hi); (try clear ho0); obtain ⟨Ao60, co60, eo60⟩ := Kd.R_slice HO285.out; subst eo60) | ((with_reducible refine gate_builtin (b := .append) (xs := #[.tmp 75, .tmp 81]) rfl ?_); at_builtin; refine Kd.R_append_rows (Kd.int .u8) (w0 := w) w.heap.size rfl (.tmp 75) (.tmp 81) 27 5 (.int .u8 0) 1 rfl Tryd.underlying27 info5 rfl (by decide) (by omega) u3 x3_2 t283 _ _ _ (fun k_ => some k_ ≠ (.slice Ao60 t283.length co60 : Value).ownBlock) (fun _ => False) rfl rfl ?aO ?aR (fun _ _ h => h) (fun _ h => h.elim) ?aF ?aB ?aS ?aL ?_; (case aR => repeat (first | exact (Kd.R_reads' HO285.out).2.2 | (with_reducible refine Kd.C_alloc ?_ _) | (with_reducible refine Kd.C_drewN ?_ _) | (with_reducible refine Kd.C_drew ?_))); (case aB => exact (by repeat (first | (with_reducible first | exact HB.out | apply below_alloc | apply pw_below_drewN | apply below_drew1 | refine below_set ?_ GE241.out) | exact HB.out))); (case aF => exact (fun k_ hk => Kd.fresh' (Kd.R_lt (by (with_reducible repeat (first | apply Kd.R_alloc | apply Kd.R_drewN | apply Kd.R_drew)); exact HO285.out)) k_ hk)); (case aO => exact (by (with_reducible repeat (first | apply Kd.R_alloc | apply Kd.R_drewN | apply Kd.R_drew)); exact Kd.R_mono HO_3.out (fun _ hk => hk.2))); (case aS => exact (below_size (by repeat (first | (with_reducible first | exact HB.out | apply below_alloc | apply pw_below_drewN | apply below_drew1 | refine below_set ?_ GE241.out) | exact HB.out)))); (case aL => have := LMc56.out; omega); intro v287 w59 ho hb hg hat; rw [← Ny286.out] at ho; have n0_ := Aside0.mk (blk_grown (g := gb241) (o := .cells #[.int .i64 a0_0, .int .u64 a0_1, .int .i64 a0_2, .int .u64 a0_3, .int .u64 a0_4, .int .u64 a0_5, .slice A0_6 l0_6.length c0_6, .slice (some ad282) l0_7.length c0_7, .slice A0_8 l0_8.length c0_8] 39 (0, 0)) (by (with_reducible repeat (first | refine blk_drewN ?_ _ | refine blk_drew ?_ | refine blk_alloc ?_ _)); exact BK241.out) hg (Kd.R_ne HO_3.out BK241.out (by decide))); have n1_ := Aside0.mk (Kd.R_after (ok := (fun _ => True)) (by (with_reducible repeat (first | apply Kd.R_alloc | apply Kd.R_drewN | apply Kd.R_drew)); exact HO285.out) hg hat); have n2_ := Aside0.mk (hb); have n3_ := Aside0.mk (ho); clear BK241; clear HO285; clear HB; clear HO_3; have BK241 := n0_; have HO285 := n1_; have HB := n2_; have HO288 := n3_; clear n0_ n1_ n2_ n3_; clear ho hb hg hat))
                                  go_roundg k2
                                  case measure => have := HK1.out; have := HK2.out; omega
                                  case rel => exact ⟨(y286), (wrap64 (x6_2 + 1)), (by first | rfl | (simp; done) | (simp [*]; done)), H', ⟨by have := HK1.out; have := HK2.out; omega⟩, ⟨by (with_reducible repeat (first | apply Kd.R_alloc | apply Kd.R_drewN | apply Kd.R_drew)); exact Kd.R_mono HO288.out (fun _ hk => trivial)⟩, ⟨by (with_reducible repeat (first | refine blk_drewN ?_ _ | refine blk_drew ?_ | refine blk_alloc ?_ _)); exact BK241.out⟩, ⟨by repeat (first | (with_reducible first | exact HB.out | apply below_alloc | apply pw_below_drewN | apply below_drew1 | refine below_set ?_ GE241.out) | exact HB.out)⟩⟩
                                · rw [if_neg c56] at H
                                  exact absurd H (by simp)
                              · rw [if_neg c54] at H
                                exact absurd H (by simp)
                            · rw [if_neg c53] at H
                              have c53b0 : decide (x6_2 < (l0_7.length : Int)) = false := decide_eq_false c53
                              clear c53
                              have H' := Aside0.mk H
                              clear H
                              have hcz61_0 : wr.cell? ⟨gb241, 0, none⟩ = some (.int .i64 a0_0) := (blk_cell BK241.out 0).trans rfl
                              have hcz61_1 : wr.cell? ⟨gb241, 1, none⟩ = some (.int .u64 a0_1) := (blk_cell BK241.out 1).trans rfl
                              have hcz61_2 : wr.cell? ⟨gb241, 2, none⟩ = some (.int .i64 a0_2) := (blk_cell BK241.out 2).trans rfl
                              have hcz61_3 : wr.cell? ⟨gb241, 3, none⟩ = some (.int .u64 a0_3) := (blk_cell BK241.out 3).trans rfl
                              have hcz61_4 : wr.cell? ⟨gb241, 4, none⟩ = some (.int .u64 a0_4) := (blk_cell BK241.out 4).trans rfl
                              have hcz61_5 : wr.cell? ⟨gb241, 5, none⟩ = some (.int .u64 a0_5) := (blk_cell BK241.out 5).trans rfl
                              have hcz61_6 : wr.cell? ⟨gb241, 6, none⟩ = some (.slice A0_6 l0_6.length c0_6) := (blk_cell BK241.out 6).trans rfl
                              have hcz61_7 : wr.cell? ⟨gb241, 7, none⟩ = some (.slice A0_7 l0_7.length c0_7) := (blk_cell BK241.out 7).trans rfl
                              have hcz61_8 : wr.cell? ⟨gb241, 8, none⟩ = some (.slice A0_8 l0_8.length c0_8) := (blk_cell BK241.out 8).trans rfl
                              have hfz61_0 := blk_frozen BK241.out 0
                              have hfz61_1 := blk_frozen BK241.out 1
                              have hfz61_2 := blk_frozen BK241.out 2
                              have hfz61_3 := blk_frozen BK241.out 3
                              have hfz61_4 := blk_frozen BK241.out 4
                              have hfz61_5 := blk_frozen BK241.out 5
                              have hfz61_6 := blk_frozen BK241.out 6
                              have hfz61_7 := blk_frozen BK241.out 7
                              have hfz61_8 := blk_frozen BK241.out 8
                              go_wp2
                              go_roundg k2
                              case measure => have := HK1.out; have := HK2.out; omega
                              case rel => exact ⟨(x3_2), (wrap64 (x5_1 + 1)), (by first | rfl | (simp; done) | (simp [*]; done)), H', ⟨by have := HK1.out; have := HK2.out; omega⟩, ⟨by (with_reducible repeat (first | apply Kd.R_alloc | apply Kd.R_drewN | apply Kd.R_drew)); exact HO_3.out⟩, ⟨by (with_reducible repeat (first | refine blk_drewN ?_ _ | refine blk_drew ?_ | refine blk_alloc ?_ _)); exact BK241.out⟩, ⟨by repeat (first | (with_reducible first | exact HB.out | apply below_alloc | apply pw_below_drewN | apply below_drew1 | refine below_set ?_ GE241.out) | exact HB.out)⟩⟩
                      · rw [if_neg c48] at H
                        exact absurd H (by simp)
                    · rw [if_neg c46] at H
                      have c46b0 : ((bt t245 x5_1) == 115) = false := beq_eq_false_iff_ne.mpr c46
                      have c46b1 : ((bt t245 x5_1) != 115) = true := bne_iff_ne.mpr c46
                      by_cases c62 : (bt t245 x5_1) = 118
                      · rw [if_pos c62] at H
                        have c62b0 : ((bt t245 x5_1) == 118) = true := beq_iff_eq.mpr c62
                        have c62b1 : ((bt t245 x5_1) != 118) = false := bne_eq_false_iff_eq.mpr c62
                        clear c62
                        replace H := Option.bind_eq_some_iff.mp H
                        obtain ⟨t289, A630, H⟩ := H
                        replace H : (if x3_1.length + t289.length < 140737488355328 then (quorateref17_Inside.l2 k1 (x3_1 ++ t289) t245 x5_1 0 a0_0 a0_1 a0_2 a0_3 a0_4 a0_5 l0_6 l0_7 l0_8) else (none)) = some r := H
                        have A63 := Aside0.mk A630
                        clear A630
                        by_cases c64 : x3_1.length + t289.length < 140737488355328
                        · rw [if_pos c64] at H
                          have LMc64 := Aside0.mk c64
                          clear c64
                          obtain ⟨y292, hy292⟩ : ∃ y_ : List Int, y_ = (x3_1 ++ t289) := ⟨_, rfl⟩
                          replace H : (quorateref17_Inside.l2 k1 y292 t245 x5_1 0 a0_0 a0_1 a0_2 a0_3 a0_4 a0_5 l0_6 l0_7 l0_8) = some r := by first | (rw [hy292]; with_reducible exact H) | (have H2_ := (Option.bind_some _ _).symm.trans H; rw [hy292]; with_reducible exact H2_) | (have H2_ := (Option.bind_some _ _).symm.trans H; with_reducible exact H2_) | with_reducible exact H | (rw [hy292]; exact H) | exact H
                          have Ny292 := Aside0.mk hy292
                          clear hy292
                          have H' := Aside0.mk H
                          clear H
                          have p10 : 0 ≤ (x5_1 : Int) := of_decide_eq_true (by first | (with_reducible assumption) | assumption)
                          have q10 : x5_1 < (t245.size : Int) := of_decide_eq_true (by first | (with_reducible assumption) | assumption)
                          have hx10 := bt_at t245 x5_1
                          replace p10 := eq_true p10
                          replace q10 := eq_true q10
                          have hcz65_0 : wr.cell? ⟨gb241, 0, none⟩ = some (.int .i64 a0_0) := (blk_cell BK241.out 0).trans rfl
                          have hcz65_1 : wr.cell? ⟨gb241, 1, none⟩ = some (.int .u64 a0_1) := (blk_cell BK241.out 1).trans rfl
                          have hcz65_2 : wr.cell? ⟨gb241, 2, none⟩ = some (.int .i64 a0_2) := (blk_cell BK241.out 2).trans rfl
                          have hcz65_3 : wr.cell? ⟨gb241, 3, none⟩ = some (.int .u64 a0_3) := (blk_cell BK241.out 3).trans rfl
                          have hcz65_4 : wr.cell? ⟨gb241, 4, none⟩ = some (.int .u64 a0_4) := (blk_cell BK241.out 4).trans rfl
                          have hcz65_5 : wr.cell? ⟨gb241, 5, none⟩ = some (.int .u64 a0_5) := (blk_cell BK241.out 5).trans rfl
                          have hcz65_6 : wr.cell? ⟨gb241, 6, none⟩ = some (.slice A0_6 l0_6.length c0_6) := (blk_cell BK241.out 6).trans rfl
                          have hcz65_7 : wr.cell? ⟨gb241, 7, none⟩ = some (.slice A0_7 l0_7.length c0_7) := (blk_cell BK241.out 7).trans rfl
                          have hcz65_8 : wr.cell? ⟨gb241, 8, none⟩ = some (.slice A0_8 l0_8.length c0_8) := (blk_cell BK241.out 8).trans rfl
                          have hfz65_0 := blk_frozen BK241.out 0
                          have hfz65_1 := blk_frozen BK241.out 1
                          have hfz65_2 := blk_frozen BK241.out 2
                          have hfz65_3 := blk_frozen BK241.out 3
                          have hfz65_4 := blk_frozen BK241.out 4
                          have hfz65_5 := blk_frozen BK241.out 5
                          have hfz65_6 := blk_frozen BK241.out 6
                          have hfz65_7 := blk_frozen BK241.out 7
                          have hfz65_8 := blk_frozen BK241.out 8
                          go_wp2_with (first | ((with_reducible refine gate_callee (f := 33) rfl ?_); refine goesL_ (some 90) rfl rfl Tryd.func33 (by kernel_rfl) rfl #[.int .u64 (IntKind.u64.wrap ((l0_6.length : Int)))] rfl (by (try simp only [List.map_toArray, List.map_cons, List.map_nil]); first | done | rfl | (simp only [List.length_drop, List.length_take]; rfl)) ?_; (with_reducible refine (quorateref01_Uint.calls k1 (IntKind.u64.wrap ((l0_6.length : Int))) t289 _ A63.out).mono ?_); rintro e w66 ⟨v290, rfl, ho0, hb⟩; refine ⟨_, rfl, ?_⟩; have n0_ := Aside0.mk (Kd.R_elder' (by (with_reducible repeat (first | apply Kd.R_alloc | apply Kd.R_drewN | apply Kd.R_drew)); exact HO_3.out) (Kd.R_base ho0) hb); have n1_ := Aside0.mk (Kd.R_lower (Kd.R_new' ho0 (Kd.R_lt (by (with_reducible repeat (first | apply Kd.R_alloc | apply Kd.R_drewN | apply Kd.R_drew)); exact HO_3.out))) (below_size (by repeat (first | (with_reducible first | exact HB.out | apply below_alloc | apply pw_below_drewN | apply below_drew1 | refine below_set ?_ GE241.out) | exact HB.out)))); have n2_ := Aside0.mk (blk_below (g := gb241) (o := .cells #[.int .i64 a0_0, .int .u64 a0_1, .int .i64 a0_2, .int .u64 a0_3, .int .u64 a0_4, .int .u64 a0_5, .slice A0_6 l0_6.length c0_6, .slice A0_7 l0_7.length c0_7, .slice A0_8 l0_8.length c0_8] 39 (0, 0)) (by (with_reducible repeat (first | refine blk_drewN ?_ _ | refine blk_drew ?_ | refine blk_alloc ?_ _)); exact BK241.out) hb); have n3_ := Aside0.mk (below_step (by repeat (first | (with_reducible first | exact HB.out | apply below_alloc | apply pw_below_drewN | apply below_drew1 | refine below_set ?_ GE241.out) | exact HB.out)) hb); clear HO_3; clear BK241; clear HB; have HO_3 := n0_; have HO291 := n1_; have BK241 := n2_; have HB := n3_; clear n0_ n1_ n2_ n3_; (try clear hb); (try clear hb2); (try clear hk); (try clear hi); (try clear ho0); obtain ⟨Ao68, co68, eo68⟩ := Kd.R_slice HO291.out; subst eo68) | ((with_reducible refine gate_builtin (b := .append) (xs := #[.tmp 85, .tmp 90]) rfl ?_); at_builtin; refine Kd.R_append_rows (Kd.int .u8) (w0 := w) w.heap.size rfl (.tmp 85) (.tmp 90) 27 5 (.int .u8 0) 1 rfl Tryd.underlying27 info5 rfl (by decide) (by omega) u3 x3_1 t289 _ _ _ (fun k_ => some k_ ≠ (.slice Ao68 t289.length co68 : Value).ownBlock) (fun _ => False) rfl rfl ?aO ?aR (fun _ _ h => h) (fun _ h => h.elim) ?aF ?aB ?aS ?aL ?_; (case aR => repeat (first | exact (Kd.R_reads' HO291.out).2.2 | (with_reducible refine Kd.C_alloc ?_ _) | (with_reducible refine Kd.C_drewN ?_ _) | (with_reducible refine Kd.C_drew ?_))); (case aB => exact (by repeat (first | (with_reducible first | exact HB.out | apply below_alloc | apply pw_below_drewN | apply below_drew1 | refine below_set ?_ GE241.out) | exact HB.out))); (case aF => exact (fun k_ hk => Kd.fresh' (Kd.R_lt (by (with_reducible repeat (first | apply Kd.R_alloc | apply Kd.R_drewN | apply Kd.R_drew)); exact HO291.out)) k_ hk)); (case aO => exact (by (with_reducible repeat (first | apply Kd.R_alloc | apply Kd.R_drewN | apply Kd.R_drew)); exact Kd.R_mono HO_3.out (fun _ hk => hk.2))); (case aS => exact (below_size (by repeat (first | (with_reducible first | exact HB.out | apply below_alloc | apply pw_below_drewN | apply below_drew1 | refine below_set ?_ GE241.out) | exact HB.out)))); (case aL => have := LMc64.out; omega); intro v293 w67 ho hb hg hat; rw [← Ny292.out] at ho; have n0_ := Aside0.mk (blk_grown (g := gb241) (o := .cells #[.int .i64 a0_0, .int .u64 a0_1, .int .i64 a0_2, .int .u64 a0_3, .int .u64 a0_4, .int .u64 a0_5, .slice A0_6 l0_6.length c0_6, .slice A0_7 l0_7.length c0_7, .slice A0_8 l0_8.length c0_8] 39 (0, 0)) (by (with_reducible repeat (first | refine blk_drewN ?_ _ | refine blk_drew ?_ | refine blk_alloc ?_ _)); exact BK241.out) hg (Kd.R_ne HO_3.out BK241.out (by decide))); have n1_ := Aside0.mk (Kd.R_after (ok := (fun _ => True)) (by (with_reducible repeat (first | apply Kd.R_alloc | apply Kd.R_drewN | apply Kd.R_drew)); exact HO291.out) hg hat); have n2_ := Aside0.mk (hb); have n3_ := Aside0.mk (ho); clear BK241; clear HO291; clear HB; clear HO_3; have BK241 := n0_; have HO291 := n1_; have HB := n2_; have HO294 := n3_; clear n0_ n1_ n2_ n3_; clear ho hb hg hat))
                          go_loopg [3, 7] k1 (fun kq v3 v7 w' => ∃ (x3_2 : List Int) (x7_2 : Int), v7 = .int .i64 x7_2 ∧ Aside0 (quorateref17_Inside.l2 kq x3_2 t245 x5_1 x7_2 a0_0 a0_1 a0_2 a0_3 a0_4 a0_5 l0_6 l0_7 l0_8 = some r) ∧ Aside0 (kq ≤ k1) ∧ Aside0 (Kd.R (Kd.int .u8) 5 w' w.heap.size (fun _ => True) v3 x3_2) ∧ Aside0 (w'.heap[gb241]? = some (.cells #[.int .i64 a0_0, .int .u64 a0_1, .int .i64 a0_2, .int .u64 a0_3, .int .u64 a0_4, .int .u64 a0_5, (.slice A0_6 l0_6.length c0_6), (.slice A0_7 l0_7.length c0_7), (.slice A0_8 l0_8.length c0_8)] 39 (0, 0))) ∧ Aside0 (Below w.heap.size w w'))
                          case atStart => exact ⟨(y292), (0), (by first | rfl | (simp; done) | (simp [*]; done)), H', ⟨Nat.le_refl _⟩, ⟨by (with_reducible repeat (first | apply Kd.R_alloc | apply Kd.R_drewN | apply Kd.R_drew)); exact Kd.R_mono HO294.out (fun _ hk => trivial)⟩, ⟨by (with_reducible repeat (first | refine blk_drewN ?_ _ | refine blk_drew ?_ | refine blk_alloc ?_ _)); exact BK241.out⟩, ⟨by repeat (first | (with_reducible first | exact HB.out | apply below_alloc | apply pw_below_drewN | apply below_drew1 | refine below_set ?_ GE241.out) | exact HB.out)⟩⟩
                          case round =>
                            clear H'
                            try clear c1
                            try clear p1
                            try clear q1
                            try clear hx1
                            try clear c2
                            try clear p2
                            try clear q2
                            try clear hx2
                            try clear c3
                            try clear c4
                            try clear c5
                            try clear c6
                            try clear p6
                            try clear c8
                            try clear c8b0
                            try clear c9
                            try clear c9b0
                            try clear p10
                            try clear q10
                            try clear hx10
                            try clear c11
                            try clear c11b0
                            try clear c11b1
                            try clear c13
                            try clear c16
                            try clear c18
                            try clear c18b0
                            try clear c18b1
                            try clear c20
                            try clear c25
                            try clear c25b0
                            try clear c25b1
                            try clear c27
                            try clear c28
                            try clear p28
                            try clear q28
                            try clear hx28
                            try clear c32
                            try clear c32b0
                            try clear c32b1
                            try clear c33
                            try clear c34
                            try clear c39
                            try clear c39b0
                            try clear c39b1
                            try clear c41
                            try clear c46
                            try clear c46b0
                            try clear c46b1
                            try clear c48
                            try clear c53
                            try clear c53b0
                            try clear c54
                            try clear c54b0
                            try clear c56
                            try clear c62
                            try clear c62b0
                            try clear c62b1
                            try clear c64
                            try clear p64
                            try clear hcz14_0
                            try clear hcz14_1
                            try clear hcz14_2
                            try clear hcz14_3
                            try clear hcz14_4
                            try clear hcz14_5
                            try clear hcz14_6
                            try clear hcz14_7
                            try clear hcz14_8
                            try clear hcz21_0
                            try clear hcz21_1
                            try clear hcz21_2
                            try clear hcz21_3
                            try clear hcz21_4
                            try clear hcz21_5
                            try clear hcz21_6
                            try clear hcz21_7
                            try clear hcz21_8
                            try clear hcz28_0
                            try clear hcz28_1
                            try clear hcz28_2
                            try clear hcz28_3
                            try clear hcz28_4
                            try clear hcz28_5
                            try clear hcz28_6
                            try clear hcz28_7
                            try clear hcz28_8
                            try clear hcz35_0
                            try clear hcz35_1
                            try clear hcz35_2
                            try clear hcz35_3
                            try clear hcz35_4
                            try clear hcz35_5
                            try clear hcz35_6
                            try clear hcz35_7
                            try clear hcz35_8
                            try clear hcz42_0
                            try clear hcz42_1
                            try clear hcz42_2
                            try clear hcz42_3
                            try clear hcz42_4
                            try clear hcz42_5
                            try clear hcz42_6
                            try clear hcz42_7
                            try clear hcz42_8
                            try clear hcz49_0
                            try clear hcz49_1
                            try clear hcz49_2
                            try clear hcz49_3
                            try clear hcz49_4
                            try clear hcz49_5
                            try clear hcz49_6
                            try clear hcz49_7
                            try clear hcz49_8
                            try clear hcz4_0
                            try clear hcz4_1
                            try clear hcz4_2
                            try clear hcz4_3
                            try clear hcz4_4
                            try clear hcz4_5
                            try clear hcz4_6
                            try clear hcz4_7
                            try clear hcz4_8
                            try clear hcz57_0
                            try clear hcz57_1
                            try clear hcz57_2
                            try clear hcz57_3
                            try clear hcz57_4
                            try clear hcz57_5
                            try clear hcz57_6
                            try clear hcz57_7
                            try clear hcz57_8
                            try clear hcz61_0
                            try clear hcz61_1
                            try clear hcz61_2
                            try clear hcz61_3
                            try clear hcz61_4
                            try clear hcz61_5
                            try clear hcz61_6
                            try clear hcz61_7
                            try clear hcz61_8
                            try clear hcz65_0
                            try clear hcz65_1
                            try clear hcz65_2
                            try clear hcz65_3
                            try clear hcz65_4
                            try clear hcz65_5
                            try clear hcz65_6
                            try clear hcz65_7
                            try clear hcz65_8
                            try clear hcz7_0
                            try clear hcz7_1
                            try clear hcz7_2
                            try clear hcz7_3
                            try clear hcz7_4
                            try clear hcz7_5
                            try clear hcz7_6
                            try clear hcz7_7
                            try clear hcz7_8
                            try clear hfz14_0
                            try clear hfz14_1
                            try clear hfz14_2
                            try clear hfz14_3
                            try clear hfz14_4
                            try clear hfz14_5
                            try clear hfz14_6
                            try clear hfz14_7
                            try clear hfz14_8
                            try clear hfz21_0
                            try clear hfz21_1
                            try clear hfz21_2
                            try clear hfz21_3
                            try clear hfz21_4
                            try clear hfz21_5
                            try clear hfz21_6
                            try clear hfz21_7
                            try clear hfz21_8
                            try clear hfz28_0
                            try clear hfz28_1
                            try clear hfz28_2
                            try clear hfz28_3
                            try clear hfz28_4
                            try clear hfz28_5
                            try clear hfz28_6
                            try clear hfz28_7
                            try clear hfz28_8
                            try clear hfz35_0
                            try clear hfz35_1
                            try clear hfz35_2
                            try clear hfz35_3
                            try clear hfz35_4
                            try clear hfz35_5
                            try clear hfz35_6
                            try clear hfz35_7
                            try clear hfz35_8
                            try clear hfz42_0
                            try clear hfz42_1
                            try clear hfz42_2
                            try clear hfz42_3
                            try clear hfz42_4
                            try clear hfz42_5
                            try clear hfz42_6
                            try clear hfz42_7
                            try clear hfz42_8
                            try clear hfz49_0
                            try clear hfz49_1
                            try clear hfz49_2
                            try clear hfz49_3
                            try clear hfz49_4
                            try clear hfz49_5
                            try clear hfz49_6
                            try clear hfz49_7
                            try clear hfz49_8
                            try clear hfz4_0
                            try clear hfz4_1
                            try clear hfz4_2
                            try clear hfz4_3
                            try clear hfz4_4
                            try clear hfz4_5
                            try clear hfz4_6
                            try clear hfz4_7
                            try clear hfz4_8
                            try clear hfz57_0
                            try clear hfz57_1
                            try clear hfz57_2
                            try clear hfz57_3
                            try clear hfz57_4
                            try clear hfz57_5
                            try clear hfz57_6
                            try clear hfz57_7
                            try clear hfz57_8
                            try clear hfz61_0
                            try clear hfz61_1
                            try clear hfz61_2
                            try clear hfz61_3
                            try clear hfz61_4
                            try clear hfz61_5
                            try clear hfz61_6
                            try clear hfz61_7
                            try clear hfz61_8
                            try clear hfz65_0
                            try clear hfz65_1
                            try clear hfz65_2
                            try clear hfz65_3
                            try clear hfz65_4
                            try clear hfz65_5
                            try clear hfz65_6
                            try clear hfz65_7
                            try clear hfz65_8
                            try clear hfz7_0
                            try clear hfz7_1
                            try clear hfz7_2
                            try clear hfz7_3
                            try clear hfz7_4
                            try clear hfz7_5
                            try clear hfz7_6
                            try clear hfz7_7
                            try clear hfz7_8
                            try clear hx282_0
                            try clear p1
                            try clear p10
                            try clear p2
                            try clear p282
                            try clear p6
                            try clear q1
                            try clear q10
                            try clear q282
                            obtain ⟨x3_2, x7_2, rfl, HA, HK2, HO_3, BK241, HB⟩ := hrel
                            cases gk with
                            | zero => exact absurd HA.out (by simp [quorateref17_Inside.l2])
                            | succ k2 =>
                              have H := HA.out
                              clear HA
                              simp only [quorateref17_Inside.l2] at H
                              by_cases c69 : x7_2 < (l0_6.length : Int)
                              · rw [if_pos c69] at H
                                have c69b0 : decide (x7_2 < (l0_6.length : Int)) = true := decide_eq_true c69
                                clear c69
                                by_cases c70 : 0 ≤ x7_2
                                · rw [if_pos c70] at H
                                  have c70b0 : decide (0 ≤ x7_2) = true := decide_eq_true c70
                                  clear c70
                                  replace H := Option.bind_eq_some_iff.mp H
                                  obtain ⟨t296, A710, H⟩ := H
                                  replace H : (if x3_2.length + t296.length < 140737488355328 then ((some (x3_2 ++ t296 : List Int)).bind fun y299 => ((quorateref14_Bytes.f k2 ((rd_T52 l0_6 x7_2).f1.f0) ((rd_T52 l0_6 x7_2).f1.f1)).bind fun t303 => (if y299.length + t303.length < 140737488355328 then ((some (y299 ++ t303 : List Int)).bind fun y306 => ((quorateref17_text.f k2 ((rd_T52 l0_6 x7_2).f2)).bind fun t310 => (if y306.length + t310.length < 140737488355328 then (quorateref17_Inside.l2 k2 (y306 ++ t310) t245 x5_1 (wrap64 (x7_2 + 1)) a0_0 a0_1 a0_2 a0_3 a0_4 a0_5 l0_6 l0_7 l0_8) else (none)))) else (none)))) else (none)) = some r := H
                                  have A71 := Aside0.mk A710
                                  clear A710
                                  by_cases c72 : x3_2.length + t296.length < 140737488355328
                                  · rw [if_pos c72] at H
                                    have LMc72 := Aside0.mk c72
                                    clear c72
                                    obtain ⟨y299, hy299⟩ : ∃ y_ : List Int, y_ = (x3_2 ++ t296) := ⟨_, rfl⟩
                                    replace H : ((quorateref14_Bytes.f k2 ((rd_T52 l0_6 x7_2).f1.f0) ((rd_T52 l0_6 x7_2).f1.f1)).bind fun t303 => (if y299.length + t303.length < 140737488355328 then ((some (y299 ++ t303 : List Int)).bind fun y306 => ((quorateref17_text.f k2 ((rd_T52 l0_6 x7_2).f2)).bind fun t310 => (if y306.length + t310.length < 140737488355328 then (quorateref17_Inside.l2 k2 (y306 ++ t310) t245 x5_1 (wrap64 (x7_2 + 1)) a0_0 a0_1 a0_2 a0_3 a0_4 a0_5 l0_6 l0_7 l0_8) else (none)))) else (none))) = some r := by first | (rw [hy299]; with_reducible exact H) | (have H2_ := (Option.bind_some _ _).symm.trans H; rw [hy299]; with_reducible exact H2_) | (have H2_ := (Option.bind_some _ _).symm.trans H; with_reducible exact H2_) | with_reducible exact H | (rw [hy299]; exact H) | exact H
                                    have Ny299 := Aside0.mk hy299
                                    clear hy299
                                    replace H := Option.bind_eq_some_iff.mp H
                                    obtain ⟨t303, A730, H⟩ := H
                                    replace H : (if y299.length + t303.length < 140737488355328 then ((some (y299 ++ t303 : List Int)).bind fun y306 => ((quorateref17_text.f k2 ((rd_T52 l0_6 x7_2).f2)).bind fun t310 => (if y306.length + t310.length < 140737488355328 then (quorateref17_Inside.l2 k2 (y306 ++ t310) t245 x5_1 (wrap64 (x7_2 + 1)) a0_0 a0_1 a0_2 a0_3 a0_4 a0_5 l0_6 l0_7 l0_8) else (none)))) else (none)) = some r := H
                                    have A73 := Aside0.mk A730
                                    clear A730
                                    by_cases c74 : y299.length + t303.length < 140737488355328
                                    · rw [if_pos c74] at H
                                      have LMc74 := Aside0.mk c74
                                      clear c74
                                      obtain ⟨y306, hy306⟩ : ∃ y_ : List Int, y_ = (y299 ++ t303) := ⟨_, rfl⟩
                                      replace H : ((quorateref17_text.f k2 ((rd_T52 l0_6 x7_2).f2)).bind fun t310 => (if y306.length + t310.length < 140737488355328 then (quorateref17_Inside.l2 k2 (y306 ++ t310) t245 x5_1 (wrap64 (x7_2 + 1)) a0_0 a0_1 a0_2 a0_3 a0_4 a0_5 l0_6 l0_7 l0_8) else (none))) = some r := by first | (rw [hy306]; with_reducible exact H) | (have H2_ := (Option.bind_some _ _).symm.trans H; rw [hy306]; with_reducible exact H2_) | (have H2_ := (Option.bind_some _ _).symm.trans H; with_reducible exact H2_) | with_reducible exact H | (rw [hy306]; exact H) | exact H
                                      have Ny306 := Aside0.mk hy306
                                      clear hy306
                                      replace H := Option.bind_eq_some_iff.mp H
                                      obtain ⟨t310, A750, H⟩ := H
                                      replace H : (if y306.length + t310.length < 140737488355328 then (quorateref17_Inside.l2 k2 (y306 ++ t310) t245 x5_1 (wrap64 (x7_2 + 1)) a0_0 a0_1 a0_2 a0_3 a0_4 a0_5 l0_6 l0_7 l0_8) else (none)) = some r := H
                                      have A75 := Aside0.mk A750
                                      clear A750
                                      by_cases c76 : y306.length + t310.length < 140737488355328
                                      · rw [if_pos c76] at H
                                        have LMc76 := Aside0.mk c76
                                        clear c76
                                        obtain ⟨y313, hy313⟩ : ∃ y_ : List Int, y_ = (y306 ++ t310) := ⟨_, rfl⟩
                                        replace H : (quorateref17_Inside.l2 k2 y313 t245 x5_1 (wrap64 (x7_2 + 1)) a0_0 a0_1 a0_2 a0_3 a0_4 a0_5 l0_6 l0_7 l0_8) = some r := by first | (rw [hy313]; with_reducible exact H) | (have H2_ := (Option.bind_some _ _).symm.trans H; rw [hy313]; with_reducible exact H2_) | (have H2_ := (Option.bind_some _ _).symm.trans H; with_reducible exact H2_) | with_reducible exact H | (rw [hy313]; exact H) | exact H
                                        have Ny313 := Aside0.mk hy313
                                        clear hy313
                                        have H' := Aside0.mk H
                                        clear H
                                        have hcz77_0 : wr.cell? ⟨gb241, 0, none⟩ = some (.int .i64 a0_0) := (blk_cell BK241.out 0).trans rfl
                                        have hcz77_1 : wr.cell? ⟨gb241, 1, none⟩ = some (.int .u64 a0_1) := (blk_cell BK241.out 1).trans rfl
                                        have hcz77_2 : wr.cell? ⟨gb241, 2, none⟩ = some (.int .i64 a0_2) := (blk_cell BK241.out 2).trans rfl
                                        have hcz77_3 : wr.cell? ⟨gb241, 3, none⟩ = some (.int .u64 a0_3) := (blk_cell BK241.out 3).trans rfl
                                        have hcz77_4 : wr.cell? ⟨gb241, 4, none⟩ = some (.int .u64 a0_4) := (blk_cell BK241.out 4).trans rfl
                                        have hcz77_5 : wr.cell? ⟨gb241, 5, none⟩ = some (.int .u64 a0_5) := (blk_cell BK241.out 5).trans rfl
                                        have hcz77_6 : wr.cell? ⟨gb241, 6, none⟩ = some (.slice A0_6 l0_6.length c0_6) := (blk_cell BK241.out 6).trans rfl
                                        have hcz77_7 : wr.cell? ⟨gb241, 7, none⟩ = some (.slice A0_7 l0_7.length c0_7) := (blk_cell BK241.out 7).trans rfl
                                        have hcz77_8 : wr.cell? ⟨gb241, 8, none⟩ = some (.slice A0_8 l0_8.length c0_8) := (blk_cell BK241.out 8).trans rfl
                                        have hfz77_0 := blk_frozen BK241.out 0
                                        have hfz77_1 := blk_frozen BK241.out 1
                                        have hfz77_2 := blk_frozen BK241.out 2
                                        have hfz77_3 := blk_frozen BK241.out 3
                                        have hfz77_4 := blk_frozen BK241.out 4
                                        have hfz77_5 := blk_frozen BK241.out 5
                                        have hfz77_6 := blk_frozen BK241.out 6
                                        have hfz77_7 := blk_frozen BK241.out 7
                                        have hfz77_8 := blk_frozen BK241.out 8
                                        have p295 : 0 ≤ (x7_2 : Int) := of_decide_eq_true (by first | (with_reducible assumption) | assumption)
                                        have q295 : x7_2 < (l0_6.length : Int) := of_decide_eq_true (by first | (with_reducible assumption) | assumption)
                                        obtain ⟨ad295, A295_3, c295_3, e295, hx295_0, hx295_1, hx295_2, hx295_3, hl295_3, hi295_3⟩ := at_T52 HR0_6.out x7_2 p295 q295
                                        cases e295
                                        replace hx295_0 := (HB.out.cell (World.block_lt_of_cell? w _ hx295_0)).trans hx295_0
                                        replace hx295_1 := (HB.out.cell (World.block_lt_of_cell? w _ hx295_1)).trans hx295_1
                                        replace hx295_2 := (HB.out.cell (World.block_lt_of_cell? w _ hx295_2)).trans hx295_2
                                        replace hx295_3 := (HB.out.cell (World.block_lt_of_cell? w _ hx295_3)).trans hx295_3
                                        have HR295_3 := Aside0.mk hi295_3
                                        have HC295_3 := Aside0.mk hl295_3
                                        clear hi295_3 hl295_3
                                        replace p295 := eq_true p295
                                        replace q295 := eq_true q295
                                        go_wp2_with (first | ((with_reducible refine gate_callee (f := 33) rfl ?_); refine goesL_ (some 106) rfl rfl Tryd.func33 (by kernel_rfl) rfl #[.int .u64 ((rd_T52 l0_6 x7_2).f0)] rfl (by (try simp only [List.map_toArray, List.map_cons, List.map_nil]); first | done | rfl | (simp only [List.length_drop, List.length_take]; rfl)) ?_; (with_reducible refine (quorateref01_Uint.calls k2 ((rd_T52 l0_6 x7_2).f0) t296 _ A71.out).mono ?_); rintro e w78 ⟨v297, rfl, ho0, hb⟩; refine ⟨_, rfl, ?_⟩; have n0_ := Aside0.mk (Kd.R_elder' (by (with_reducible repeat (first | apply Kd.R_alloc | apply Kd.R_drewN | apply Kd.R_drew)); exact HO_3.out) (Kd.R_base ho0) hb); have n1_ := Aside0.mk (Kd.R_lower (Kd.R_new' ho0 (Kd.R_lt (by (with_reducible repeat (first | apply Kd.R_alloc | apply Kd.R_drewN | apply Kd.R_drew)); exact HO_3.out))) (below_size (by repeat (first | (with_reducible first | exact HB.out | apply below_alloc | apply pw_below_drewN | apply below_drew1 | refine below_set ?_ GE241.out) | exact HB.out)))); have n2_ := Aside0.mk (blk_below (g := gb241) (o := .cells #[.int .i64 a0_0, .int .u64 a0_1, .int .i64 a0_2, .int .u64 a0_3, .int .u64 a0_4, .int .u64 a0_5, .slice (some ad295) l0_6.length c0_6, .slice A0_7 l0_7.length c0_7, .slice A0_8 l0_8.length c0_8] 39 (0, 0)) (by (with_reducible repeat (first | refine blk_drewN ?_ _ | refine blk_drew ?_ | refine blk_alloc ?_ _)); exact BK241.out) hb); have n3_ := Aside0.mk (below_step (by repeat (first | (with_reducible first | exact HB.out | apply below_alloc | apply pw_below_drewN | apply below_drew1 | refine below_set ?_ GE241.out) | exact HB.out)) hb); clear HO_3; clear BK241; clear HB; have HO_3 := n0_; have HO298 := n1_; have BK241 := n2_; have HB := n3_; clear n0_ n1_ n2_ n3_; (try clear hb); (try clear hb2); (try clear hk); (try clear hi); (try clear ho0); obtain ⟨Ao80, co80, eo80⟩ := Kd.R_slice HO298.out; subst eo80) | ((with_reducible refine gate_builtin (b := .append) (xs := #[.tmp 99, .tmp 106]) rfl ?_); at_builtin; refine Kd.R_append_rows (Kd.int .u8) (w0 := w) w.heap.size rfl (.tmp 99) (.tmp 106) 27 5 (.int .u8 0) 1 rfl Tryd.underlying27 info5 rfl (by decide) (by omega) u3 x3_2 t296 _ _ _ (fun k_ => some k_ ≠ (.slice Ao80 t296.length co80 : Value).ownBlock) (fun _ => False) rfl rfl ?aO ?aR (fun _ _ h => h) (fun _ h => h.elim) ?aF ?aB ?aS ?aL ?_; (case aR => repeat (first | exact (Kd.R_reads' HO298.out).2.2 | (with_reducible refine Kd.C_alloc ?_ _) | (with_reducible refine Kd.C_drewN ?_ _) | (with_reducible refine Kd.C_drew ?_))); (case aB => exact (by repeat (first | (with_reducible first | exact HB.out | apply below_alloc | apply pw_below_drewN | apply below_drew1 | refine below_set ?_ GE241.out) | exact HB.out))); (case aF => exact (fun k_ hk => Kd.fresh' (Kd.R_lt (by (with_reducible repeat (first | apply Kd.R_alloc | apply Kd.R_drewN | apply Kd.R_drew)); exact HO298.out)) k_ hk)); (case aO => exact (by (with_reducible repeat (first | apply Kd.R_alloc | apply Kd.R_drewN | apply Kd.R_drew)); exact Kd.R_mono HO_3.out (fun _ hk => hk.2))); (case aS => exact (below_size (by repeat (first | (with_reducible first | exact HB.out | apply below_alloc | apply pw_below_drewN | apply below_drew1 | refine below_set ?_ GE241.out) | exact HB.out)))); (case aL => have := LMc72.out; omega); intro v300 w79 ho hb hg hat; rw [← Ny299.out] at ho; have n0_ := Aside0.mk (blk_grown (g := gb241) (o := .cells #[.int .i64 a0_0, .int .u64 a0_1, .int .i64 a0_2, .int .u64 a0_3, .int .u64 a0_4, .int .u64 a0_5, .slice (some ad295) l0_6.length c0_6, .slice A0_7 l0_7.length c0_7, .slice A0_8 l0_8.length c0_8] 39 (0, 0)) (by (with_reducible repeat (first | refine blk_drewN ?_ _ | refine blk_drew ?_ | refine blk_alloc ?_ _)); exact BK241.out) hg (Kd.R_ne HO_3.out BK241.out (by decide))); have n1_ := Aside0.mk (Kd.R_after (ok := (fun _ => True)) (by (with_reducible repeat (first | apply Kd.R_alloc | apply Kd.R_drewN | apply Kd.R_drew)); exact HO298.out) hg hat); have n2_ := Aside0.mk (hb); have n3_ := Aside0.mk (ho); clear BK241; clear HO298; clear HB; clear HO_3; have BK241 := n0_; have HO298 := n1_; have HB := n2_; have HO301 := n3_; clear n0_ n1_ n2_ n3_; clear ho hb hg hat; have hcz81_0 : w79.cell? ⟨gb241, 0, none⟩ = some (.int .i64 a0_0) := (blk_cell BK241.out 0).trans rfl; have hcz81_1 : w79.cell? ⟨gb241, 1, none⟩ = some (.int .u64 a0_1) := (blk_cell BK241.out 1).trans rfl; have hcz81_2 : w79.cell? ⟨gb241, 2, none⟩ = some (.int .i64 a0_2) := (blk_cell BK241.out 2).trans rfl; have hcz81_3 : w79.cell? ⟨gb241, 3, none⟩ = some (.int .u64 a0_3) := (blk_cell BK241.out 3).trans rfl; have hcz81_4 : w79.cell? ⟨gb241, 4, none⟩ = some (.int .u64 a0_4) := (blk_cell BK241.out 4).trans rfl; have hcz81_5 : w79.cell? ⟨gb241, 5, none⟩ = some (.int .u64 a0_5) := (blk_cell BK241.out 5).trans rfl; have hcz81_6 : w79.cell? ⟨gb241, 6, none⟩ = some (.slice (some ad295) l0_6.length c0_6) := (blk_cell BK241.out 6).trans rfl; have hcz81_7 : w79.cell? ⟨gb241, 7, none⟩ = some (.slice A0_7 l0_7.length c0_7) := (blk_cell BK241.out 7).trans rfl; have hcz81_8 : w79.cell? ⟨gb241, 8, none⟩ = some (.slice A0_8 l0_8.length c0_8) := (blk_cell BK241.out 8).trans rfl; have hfz81_0 := blk_frozen BK241.out 0; have hfz81_1 := blk_frozen BK241.out 1; have hfz81_2 := blk_frozen BK241.out 2; have hfz81_3 := blk_frozen BK241.out 3; have hfz81_4 := blk_frozen BK241.out 4; have hfz81_5 := blk_frozen BK241.out 5; have hfz81_6 := blk_frozen BK241.out 6; have hfz81_7 := blk_frozen BK241.out 7; have hfz81_8 := blk_frozen BK241.out 8; have p302 : 0 ≤ (x7_2 : Int) := of_decide_eq_true (by first | (with_reducible assumption) | assumption); have q302 : x7_2 < (l0_6.length : Int) := of_decide_eq_true (by first | (with_reducible assumption) | assumption); obtain ⟨ad302, A302_3, c302_3, e302, hx302_0, hx302_1, hx302_2, hx302_3, hl302_3, hi302_3⟩ := at_T52 HR0_6.out x7_2 p302 q302; obtain rfl : ad295 = ad302 := (by injection e302); replace hx302_0 := (HB.out.cell (World.block_lt_of_cell? w _ hx302_0)).trans hx302_0; replace hx302_1 := (HB.out.cell (World.block_lt_of_cell? w _ hx302_1)).trans hx302_1; replace hx302_2 := (HB.out.cell (World.block_lt_of_cell? w _ hx302_2)).trans hx302_2; replace hx302_3 := (HB.out.cell (World.block_lt_of_cell? w _ hx302_3)).trans hx302_3; have HR302_3 := Aside0.mk hi302_3; have HC302_3 := Aside0.mk hl302_3; clear hi302_3 hl302_3; replace p302 := eq_true p302; replace q302 := eq_true q302) | ((with_reducible refine gate_callee (f := 32) rfl ?_); refine goesL_ (some 115) rfl rfl Tryd.func32 (by kernel_rfl) rfl #[.agg #[.int .u64 ((rd_T52 l0_6 x7_2).f1.f0), .int .i64 ((rd_T52 l0_6 x7_2).f1.f1)]] rfl (by (try simp only [List.map_toArray, List.map_cons, List.map_nil]); first | done | rfl | (simp only [List.length_drop, List.length_take]; rfl)) ?_; (with_reducible refine (quorateref14_Bytes.calls k2 ((rd_T52 l0_6 x7_2).f1.f0) ((rd_T52 l0_6 x7_2).f1.f1) t303 _ A73.out).mono ?_); rintro e w82 ⟨v304, rfl, ho0, hb⟩; refine ⟨_, rfl, ?_⟩; have n0_ := Aside0.mk (Kd.R_elder' (by (with_reducible repeat (first | apply Kd.R_alloc | apply Kd.R_drewN | apply Kd.R_drew)); exact HO298.out) (Kd.R_base ho0) hb); have n1_ := Aside0.mk (Kd.R_elder' (by (with_reducible repeat (first | apply Kd.R_alloc | apply Kd.R_drewN | apply Kd.R_drew)); exact HO301.out) (Kd.R_base ho0) hb); have n2_ := Aside0.mk (Kd.R_lower (Kd.R_new' (Kd.R_new' ho0 (Kd.R_lt (by (with_reducible repeat (first | apply Kd.R_alloc | apply Kd.R_drewN | apply Kd.R_drew)); exact HO298.out))) (Kd.R_lt (by (with_reducible repeat (first | apply Kd.R_alloc | apply Kd.R_drewN | apply Kd.R_drew)); exact HO301.out))) (below_size (by repeat (first | (with_reducible first | exact HB.out | apply below_alloc | apply pw_below_drewN | apply below_drew1 | refine below_set ?_ GE241.out) | exact HB.out)))); have n3_ := Aside0.mk (blk_below (g := gb241) (o := .cells #[.int .i64 a0_0, .int .u64 a0_1, .int .i64 a0_2, .int .u64 a0_3, .int .u64 a0_4, .int .u64 a0_5, .slice (some ad295) l0_6.length c0_6, .slice A0_7 l0_7.length c0_7, .slice A0_8 l0_8.length c0_8] 39 (0, 0)) (by (with_reducible repeat (first | refine blk_drewN ?_ _ | refine blk_drew ?_ | refine blk_alloc ?_ _)); exact BK241.out) hb); have n4_ := Aside0.mk (below_step (by repeat (first | (with_reducible first | exact HB.out | apply below_alloc | apply pw_below_drewN | apply below_drew1 | refine below_set ?_ GE241.out) | exact HB.out)) hb); clear HO298; clear HO301; clear BK241; clear HB; have HO298 := n0_; have HO301 := n1_; have HO305 := n2_; have BK241 := n3_; have HB := n4_; clear n0_ n1_ n2_ n3_ n4_; (try clear hb); (try clear hb2); (try clear hk); (try clear hi); (try clear ho0); obtain ⟨Ao84, co84, eo84⟩ := Kd.R_slice HO305.out; subst eo84) | ((with_reducible refine gate_builtin (b := .append) (xs := #[.tmp 108, .tmp 115]) rfl ?_); at_builtin; refine Kd.R_append_rows (Kd.int .u8) (w0 := w) w.heap.size rfl (.tmp 108) (.tmp 115) 27 5 (.int .u8 0) 1 rfl Tryd.underlying27 info5 rfl (by decide) (by omega) v300 y299 t303 _ _ _ (fun k_ => some k_ ≠ (.slice Ao80 t296.length co80 : Value).ownBlock ∧ some k_ ≠ (.slice Ao84 t303.length co84 : Value).ownBlock) (fun _ => False) rfl rfl ?aO ?aR (fun _ _ h => h) (fun _ h => h.elim) ?aF ?aB ?aS ?aL ?_; (case aR => repeat (first | exact (Kd.R_reads' HO305.out).2.2 | (with_reducible refine Kd.C_alloc ?_ _) | (with_reducible refine Kd.C_drewN ?_ _) | (with_reducible refine Kd.C_drew ?_))); (case aB => exact (by repeat (first | (with_reducible first | exact HB.out | apply below_alloc | apply pw_below_drewN | apply below_drew1 | refine below_set ?_ GE241.out) | exact HB.out))); (case aF => exact (fun k_ hk => ⟨Kd.fresh' (Kd.R_lt (by (with_reducible repeat (first | apply Kd.R_alloc | apply Kd.R_drewN | apply Kd.R_drew)); exact HO298.out)) k_ hk, Kd.fresh' (Kd.R_lt (by (with_reducible repeat (first | apply Kd.R_alloc | apply Kd.R_drewN | apply Kd.R_drew)); exact HO305.out)) k_ hk⟩)); (case aO => exact (by (with_reducible repeat (first | apply Kd.R_alloc | apply Kd.R_drewN | apply Kd.R_drew)); exact HO301.out)); (case aS => exact (below_size (by repeat (first | (with_reducible first | exact HB.out | apply below_alloc | apply pw_below_drewN | apply below_drew1 | refine below_set ?_ GE241.out) | exact HB.out)))); (case aL => have := LMc74.out; omega); intro v307 w83 ho hb hg hat; rw [← Ny306.out] at ho; have n0_ := Aside0.mk (blk_grown (g := gb241) (o := .cells #[.int .i64 a0_0, .int .u64 a0_1, .int .i64 a0_2, .int .u64 a0_3, .int .u64 a0_4, .int .u64 a0_5, .slice (some ad295) l0_6.length c0_6, .slice A0_7 l0_7.length c0_7, .slice A0_8 l0_8.length c0_8] 39 (0, 0)) (by (with_reducible repeat (first | refine blk_drewN ?_ _ | refine blk_drew ?_ | refine blk_alloc ?_ _)); exact BK241.out) hg (Kd.R_ne HO301.out BK241.out (by decide))); have n1_ := Aside0.mk (Kd.R_after (ok := (fun k_ => some k_ ≠ (.slice Ao84 t303.length co84 : Value).ownBlock)) (by (with_reducible repeat (first | apply Kd.R_alloc | apply Kd.R_drewN | apply Kd.R_drew)); exact Kd.R_mono HO298.out (fun _ hk => ⟨hk.2, hk.1.2⟩)) hg hat); have n2_ := Aside0.mk (Kd.R_after (ok := (fun k_ => some k_ ≠ (.slice Ao80 t296.length co80 : Value).ownBlock)) (by (with_reducible repeat (first | apply Kd.R_alloc | apply Kd.R_drewN | apply Kd.R_drew)); exact Kd.R_mono HO305.out (fun _ hk => ⟨hk.1.2, hk.2⟩)) hg hat); have n3_ := Aside0.mk (hb); have n4_ := Aside0.mk (ho); clear BK241; clear HO298; clear HO305; clear HB; clear HO301; have BK241 := n0_; have HO298 := n1_; have HO305 := n2_; have HB := n3_; have HO308 := n4_; clear n0_ n1_ n2_ n3_ n4_; clear ho hb hg hat; have hcz85_0 : w83.cell? ⟨gb241, 0, none⟩ = some (.int .i64 a0_0) := (blk_cell BK241.out 0).trans rfl; have hcz85_1 : w83.cell? ⟨gb241, 1, none⟩ = some (.int .u64 a0_1) := (blk_cell BK241.out 1).trans rfl; have hcz85_2 : w83.cell? ⟨gb241, 2, none⟩ = some (.int .i64 a0_2) := (blk_cell BK241.out 2).trans rfl; have hcz85_3 : w83.cell? ⟨gb241, 3, none⟩ = some (.int .u64 a0_3) := (blk_cell BK241.out 3).trans rfl; have hcz85_4 : w83.cell? ⟨gb241, 4, none⟩ = some (.int .u64 a0_4) := (blk_cell BK241.out 4).trans rfl; have hcz85_5 : w83.cell? ⟨gb241, 5, none⟩ = some (.int .u64 a0_5) := (blk_cell BK241.out 5).trans rfl; have hcz85_6 : w83.cell? ⟨gb241, 6, none⟩ = some (.slice (some ad295) l0_6.length c0_6) := (blk_cell BK241.out 6).trans rfl; have hcz85_7 : w83.cell? ⟨gb241, 7, none⟩ = some (.slice A0_7 l0_7.length c0_7) := (blk_cell BK241.out 7).trans rfl; have hcz85_8 : w83.cell? ⟨gb241, 8, none⟩ = some (.slice A0_8 l0_8.length c0_8) := (blk_cell BK241.out 8).trans rfl; have hfz85_0 := blk_frozen BK241.out 0; have hfz85_1 := blk_frozen BK241.out 1; have hfz85_2 := blk_frozen BK241.out 2; have hfz85_3 := blk_frozen BK241.out 3; have hfz85_4 := blk_frozen BK241.out 4; have hfz85_5 := blk_frozen BK241.out 5; have hfz85_6 := blk_frozen BK241.out 6; have hfz85_7 := blk_frozen BK241.out 7; have hfz85_8 := blk_frozen BK241.out 8; have p309 : 0 ≤ (x7_2 : Int) := of_decide_eq_true (by first | (with_reducible assumption) | assumption); have q309 : x7_2 < (l0_6.length : Int) := of_decide_eq_true (by first | (with_reducible assumption) | assumption); obtain ⟨ad309, A309_3, c309_3, e309, hx309_0, hx309_1, hx309_2, hx309_3, hl309_3, hi309_3⟩ := at_T52 HR0_6.out x7_2 p309 q309; obtain rfl : ad295 = ad309 := (by injection e309); replace hx309_0 := (HB.out.cell (World.block_lt_of_cell? w _ hx309_0)).trans hx309_0; replace hx309_1 := (HB.out.cell (World.block_lt_of_cell? w _ hx309_1)).trans hx309_1; replace hx309_2 := (HB.out.cell (World.block_lt_of_cell? w _ hx309_2)).trans hx309_2; replace hx309_3 := (HB.out.cell (World.block_lt_of_cell? w _ hx309_3)).trans hx309_3; have HR309_3 := Aside0.mk hi309_3; have HC309_3 := Aside0.mk hl309_3; clear hi309_3 hl309_3; replace p309 := eq_true p309; replace q309 := eq_true q309) | ((with_reducible refine gate_callee (f := 34) rfl ?_); refine goesL_ (some 124) rfl rfl Tryd.func34 (by kernel_rfl) rfl #[.slice A309_3 ((rd_T52 l0_6 x7_2).f2).length c309_3] rfl (by (try simp only [List.map_toArray, List.map_cons, List.map_nil]); first | done | rfl | (simp only [List.length_drop, List.length_take]; rfl)) ?_; (with_reducible refine (quorateref17_text.calls k2 _ _ ((rd_T52 l0_6 x7_2).f2) t310 _ ?side1 ?side2 A75.out).mono ?_); (case side1 => repeat (first | exact (Kd.C_below HR309_3.out HB.out) | (with_reducible refine Kd.C_alloc ?_ _) | (with_reducible refine Kd.C_drewN ?_ _) | (with_reducible refine Kd.C_drew ?_))); (case side2 => exact HC309_3.out); rintro e w86 ⟨v311, rfl, ho0, hb⟩; refine ⟨_, rfl, ?_⟩; have n0_ := Aside0.mk (Kd.R_elder' (by (with_reducible repeat (first | apply Kd.R_alloc | apply Kd.R_drewN | apply Kd.R_drew)); exact HO298.out) (Kd.R_base ho0) hb); have n1_ := Aside0.mk (Kd.R_elder' (by (with_reducible repeat (first | apply Kd.R_alloc | apply Kd.R_drewN | apply Kd.R_drew)); exact HO305.out) (Kd.R_base ho0) hb); have n2_ := Aside0.mk (Kd.R_elder' (by (with_reducible repeat (first | apply Kd.R_alloc | apply Kd.R_drewN | apply Kd.R_drew)); exact HO308.out) (Kd.R_base ho0) hb); have n3_ := Aside0.mk (Kd.R_lower (Kd.R_new' (Kd.R_new' (Kd.R_new' ho0 (Kd.R_lt (by (with_reducible repeat (first | apply Kd.R_alloc | apply Kd.R_drewN | apply Kd.R_drew)); exact HO298.out))) (Kd.R_lt (by (with_reducible repeat (first | apply Kd.R_alloc | apply Kd.R_drewN | apply Kd.R_drew)); exact HO305.out))) (Kd.R_lt (by (with_reducible repeat (first | apply Kd.R_alloc | apply Kd.R_drewN | apply Kd.R_drew)); exact HO308.out))) (below_size (by repeat (first | (with_reducible first | exact HB.out | apply below_alloc | apply pw_below_drewN | apply below_drew1 | refine below_set ?_ GE241.out) | exact HB.out)))); have n4_ := Aside0.mk (blk_below (g := gb241) (o := .cells #[.int .i64 a0_0, .int .u64 a0_1, .int .i64 a0_2, .int .u64 a0_3, .int .u64 a0_4, .int .u64 a0_5, .slice (some ad295) l0_6.length c0_6, .slice A0_7 l0_7.length c0_7, .slice A0_8 l0_8.length c0_8] 39 (0, 0)) (by (with_reducible repeat (first | refine blk_drewN ?_ _ | refine blk_drew ?_ | refine blk_alloc ?_ _)); exact BK241.out) hb); have n5_ := Aside0.mk (below_step (by repeat (first | (with_reducible first | exact HB.out | apply below_alloc | apply pw_below_drewN | apply below_drew1 | refine below_set ?_ GE241.out) | exact HB.out)) hb); clear HO298; clear HO305; clear HO308; clear BK241; clear HB; have HO298 := n0_; have HO305 := n1_; have HO308 := n2_; have HO312 := n3_; have BK241 := n4_; have HB := n5_; clear n0_ n1_ n2_ n3_ n4_ n5_; (try clear hb); (try clear hb2); (try clear hk); (try clear hi); (try clear ho0); obtain ⟨Ao88, co88, eo88⟩ := Kd.R_slice HO312.out; subst eo88) | ((with_reducible refine gate_builtin (b := .append) (xs := #[.tmp 117, .tmp 124]) rfl ?_); at_builtin; refine Kd.R_append_rows (Kd.int .u8) (w0 := w) w.heap.size rfl (.tmp 117) (.tmp 124) 27 5 (.int .u8 0) 1 rfl Tryd.underlying27 info5 rfl (by decide) (by omega) v307 y306 t310 _ _ _ (fun k_ => some k_ ≠ (.slice Ao80 t296.length co80 : Value).ownBlock ∧ some k_ ≠ (.slice Ao84 t303.length co84 : Value).ownBlock ∧ some k_ ≠ (.slice Ao88 t310.length co88 : Value).ownBlock) (fun _ => False) rfl rfl ?aO ?aR (fun _ _ h => h) (fun _ h => h.elim) ?aF ?aB ?aS ?aL ?_; (case aR => repeat (first | exact (Kd.R_reads' HO312.out).2.2 | (with_reducible refine Kd.C_alloc ?_ _) | (with_reducible refine Kd.C_drewN ?_ _) | (with_reducible refine Kd.C_drew ?_))); (case aB => exact (by repeat (first | (with_reducible first | exact HB.out | apply below_alloc | apply pw_below_drewN | apply below_drew1 | refine below_set ?_ GE241.out) | exact HB.out))); (case aF => exact (fun k_ hk => ⟨Kd.fresh' (Kd.R_lt (by (with_reducible repeat (first | apply Kd.R_alloc | apply Kd.R_drewN | apply Kd.R_drew)); exact HO298.out)) k_ hk, Kd.fresh' (Kd.R_lt (by (with_reducible repeat (first | apply Kd.R_alloc | apply Kd.R_drewN | apply Kd.R_drew)); exact HO305.out)) k_ hk, Kd.fresh' (Kd.R_lt (by (with_reducible repeat (first | apply Kd.R_alloc | apply Kd.R_drewN | apply Kd.R_drew)); exact HO312.out)) k_ hk⟩)); (case aO => exact (by (with_reducible repeat (first | apply Kd.R_alloc | apply Kd.R_drewN | apply Kd.R_drew)); exact Kd.R_mono HO308.out (fun _ hk => ⟨hk.1.1, ⟨hk.1.2, hk.2⟩⟩))); (case aS => exact (below_size (by repeat (first | (with_reducible first | exact HB.out | apply below_alloc | apply pw_below_drewN | apply below_drew1 | refine below_set ?_ GE241.out) | exact HB.out)))); (case aL => have := LMc76.out; omega); intro v314 w87 ho hb hg hat; rw [← Ny313.out] at ho; have n0_ := Aside0.mk (blk_grown (g := gb241) (o := .cells #[.int .i64 a0_0, .int .u64 a0_1, .int .i64 a0_2, .int .u64 a0_3, .int .u64 a0_4, .int .u64 a0_5, .slice (some ad295) l0_6.length c0_6, .slice A0_7 l0_7.length c0_7, .slice A0_8 l0_8.length c0_8] 39 (0, 0)) (by (with_reducible repeat (first | refine blk_drewN ?_ _ | refine blk_drew ?_ | refine blk_alloc ?_ _)); exact BK241.out) hg (Kd.R_ne HO308.out BK241.out (by decide))); have n1_ := Aside0.mk (Kd.R_after (ok := (fun k_ => some k_ ≠ (.slice Ao84 t303.length co84 : Value).ownBlock ∧ some k_ ≠ (.slice Ao88 t310.length co88 : Value).ownBlock)) (by (with_reducible repeat (first | apply Kd.R_alloc | apply Kd.R_drewN | apply Kd.R_drew)); exact Kd.R_mono HO298.out (fun _ hk => ⟨⟨hk.1.1, hk.2⟩, hk.1.2⟩)) hg hat); have n2_ := Aside0.mk (Kd.R_after (ok := (fun k_ => some k_ ≠ (.slice Ao80 t296.length co80 : Value).ownBlock ∧ some k_ ≠ (.slice Ao88 t310.length co88 : Value).ownBlock)) (by (with_reducible repeat (first | apply Kd.R_alloc | apply Kd.R_drewN | apply Kd.R_drew)); exact Kd.R_mono HO305.out (fun _ hk => ⟨⟨hk.1.1, hk.2⟩, hk.1.2⟩)) hg hat); have n3_ := Aside0.mk (Kd.R_after (ok := (fun k_ => some k_ ≠ (.slice Ao80 t296.length co80 : Value).ownBlock ∧ some k_ ≠ (.slice Ao84 t303.length co84 : Value).ownBlock)) (by (with_reducible repeat (first | apply Kd.R_alloc | apply Kd.R_drewN | apply Kd.R_drew)); exact Kd.R_mono HO312.out (fun _ hk => ⟨⟨hk.1.1.2, hk.1.2⟩, hk.2⟩)) hg hat); have n4_ := Aside0.mk (hb); have n5_ := Aside0.mk (ho); clear BK241; clear HO298; clear HO305; clear HO312; clear HB; clear HO308; have BK241 := n0_; have HO298 := n1_; have HO305 := n2_; have HO312 := n3_; have HB := n4_; have HO315 := n5_; clear n0_ n1_ n2_ n3_ n4_ n5_; clear ho hb hg hat))
                                        go_roundg k2
                                        case measure => have := HK1.out; have := HK2.out; omega
                                        case rel => exact ⟨(y313), (wrap64 (x7_2 + 1)), (by first | rfl | (simp; done) | (simp [*]; done)), H', ⟨by have := HK1.out; have := HK2.out; omega⟩, ⟨by (with_reducible repeat (first | apply Kd.R_alloc | apply Kd.R_drewN | apply Kd.R_drew)); exact Kd.R_mono HO315.out (fun _ hk => trivial)⟩, ⟨by (with_reducible repeat (first | refine blk_drewN ?_ _ | refine blk_drew ?_ | refine blk_alloc ?_ _)); exact BK241.out⟩, ⟨by repeat (first | (with_reducible first | exact HB.out | apply below_alloc | apply pw_below_drewN | apply below_drew1 | refine below_set ?_ GE241.out) | exact HB.out)⟩⟩
                                      · rw [if_neg c76] at H
                                        exact absurd H (by simp)
                                    · rw [if_neg c74] at H
                                      exact absurd H (by simp)
                                  · rw [if_neg c72] at H
                                    exact absurd H (by simp)
                                · rw [if_neg c70] at H
                                  exact absurd H (by simp)
                              · rw [if_neg c69] at H
                                have c69b0 : decide (x7_2 < (l0_6.length : Int)) = false := decide_eq_false c69
                                clear c69
                                have H' := Aside0.mk H
                                clear H
                                have hcz89_0 : wr.cell? ⟨gb241, 0, none⟩ = some (.int .i64 a0_0) := (blk_cell BK241.out 0).trans rfl
                                have hcz89_1 : wr.cell? ⟨gb241, 1, none⟩ = some (.int .u64 a0_1) := (blk_cell BK241.out 1).trans rfl
                                have hcz89_2 : wr.cell? ⟨gb241, 2, none⟩ = some (.int .i64 a0_2) := (blk_cell BK241.out 2).trans rfl
                                have hcz89_3 : wr.cell? ⟨gb241, 3, none⟩ = some (.int .u64 a0_3) := (blk_cell BK241.out 3).trans rfl
                                have hcz89_4 : wr.cell? ⟨gb241, 4, none⟩ = some (.int .u64 a0_4) := (blk_cell BK241.out 4).trans rfl
                                have hcz89_5 : wr.cell? ⟨gb241, 5, none⟩ = some (.int .u64 a0_5) := (blk_cell BK241.out 5).trans rfl
                                have hcz89_6 : wr.cell? ⟨gb241, 6, none⟩ = some (.slice A0_6 l0_6.length c0_6) := (blk_cell BK241.out 6).trans rfl
                                have hcz89_7 : wr.cell? ⟨gb241, 7, none⟩ = some (.slice A0_7 l0_7.length c0_7) := (blk_cell BK241.out 7).trans rfl
                                have hcz89_8 : wr.cell? ⟨gb241, 8, none⟩ = some (.slice A0_8 l0_8.length c0_8) := (blk_cell BK241.out 8).trans rfl
                                have hfz89_0 := blk_frozen BK241.out 0
                                have hfz89_1 := blk_frozen BK241.out 1
                                have hfz89_2 := blk_frozen BK241.out 2
                                have hfz89_3 := blk_frozen BK241.out 3
                                have hfz89_4 := blk_frozen BK241.out 4
                                have hfz89_5 := blk_frozen BK241.out 5
                                have hfz89_6 := blk_frozen BK241.out 6
                                have hfz89_7 := blk_frozen BK241.out 7
                                have hfz89_8 := blk_frozen BK241.out 8
                                go_wp2
                                go_roundg k2
                                case measure => have := HK1.out; have := HK2.out; omega
                                case rel => exact ⟨(x3_2), (wrap64 (x5_1 + 1)), (by first | rfl | (simp; done) | (simp [*]; done)), H', ⟨by have := HK1.out; have := HK2.out; omega⟩, ⟨by (with_reducible repeat (first | apply Kd.R_alloc | apply Kd.R_drewN | apply Kd.R_drew)); exact HO_3.out⟩, ⟨by (with_reducible repeat (first | refine blk_drewN ?_ _ | refine blk_drew ?_ | refine blk_alloc ?_ _)); exact BK241.out⟩, ⟨by repeat (first | (with_reducible first | exact HB.out | apply below_alloc | apply pw_below_drewN | apply below_drew1 | refine below_set ?_ GE241.out) | exact HB.out)⟩⟩
                        · rw [if_neg c64] at H
                          exact absurd H (by simp)
                      · rw [if_neg c62] at H
                        have c62b0 : ((bt t245 x5_1) == 118) = false := beq_eq_false_iff_ne.mpr c62
                        have c62b1 : ((bt t245 x5_1) != 118) = true := bne_iff_ne.mpr c62
                        have H' := Aside0.mk H
                        clear H
                        have p10 : 0 ≤ (x5_1 : Int) := of_decide_eq_true (by first | (with_reducible assumption) | assumption)
                        have q10 : x5_1 < (t245.size : Int) := of_decide_eq_true (by first | (with_reducible assumption) | assumption)
                        have hx10 := bt_at t245 x5_1
                        replace p10 := eq_true p10
                        replace q10 := eq_true q10
                        go_wp2
                        go_roundg k1
                        case measure => have := HK1.out; omega
                        case rel => exact ⟨(x3_1), (wrap64 (x5_1 + 1)), (by first | rfl | (simp; done) | (simp [*]; done)), H', ⟨by have := HK1.out; omega⟩, ⟨by (with_reducible repeat (first | apply Kd.R_alloc | apply Kd.R_drewN | apply Kd.R_drew)); exact HO_3.out⟩, ⟨by (with_reducible repeat (first | refine blk_drewN ?_ _ | refine blk_drew ?_ | refine blk_alloc ?_ _)); exact BK241.out⟩, ⟨by repeat (first | (with_reducible first | exact HB.out | apply below_alloc | apply pw_below_drewN | apply below_drew1 | refine below_set ?_ GE241.out) | exact HB.out)⟩⟩
        · rw [if_neg c9] at H
          exact absurd H (by simp)
      · rw [if_neg c8] at H
        have c8b0 : decide (x5_1 < (t245.size : Int)) = false := decide_eq_false c8
        clear c8
        obtain rfl := Option.some.inj H
        go_wp2
        go_ret
        exact ⟨_, by first | rfl | (simp [errW_none, errW_some] <;> rfl) | (simp [*, errW_none, errW_some] <;> rfl), by (with_reducible repeat (first | apply Kd.R_alloc | apply Kd.R_drewN | apply Kd.R_drew)); exact HO_3.out, by repeat (first | (with_reducible first | exact HB.out | apply below_alloc | apply pw_below_drewN | apply below_drew1 | refine below_set ?_ GE241.out) | exact HB.out)⟩
end Go.Proofs.YtfkfboigkpofkaaDoor.PMsgPuts
end
section
namespace Go.Proofs.YtfkfboigkpofkaaDoor.M
open Go.RowKit Go.Proofs.YtfkfboigkpofkaaDoorW.PrintWords Go.Proofs.YtfkfboigkpofkaaDoorW.PrintLast Go.Proofs.YtfkfboigkpofkaaDoorW.PrintMore Go.Proofs.YtfkfboigkpofkaaDoor.PMsgPuts
set_option linter.unusedVariables false
set_option linter.unusedSimpArgs false
theorem uv_len : ∀ (j n : Nat), n < 128 ^ (j + 1) → (uv n).length ≤ j + 1
  | 0, n, h => by
    rw [uv_small (by simpa using h)]
    exact Nat.le_refl _
  | j + 1, n, h => by
    by_cases h1 : n < 128
    · rw [uv_small h1]
      show 1 ≤ _
      omega
    · rw [uv, if_neg h1, List.length_cons]
      have := uv_len j (n / 128) (by rw [Nat.div_lt_iff_lt_mul (by decide)]; rwa [Nat.pow_succ] at h)
      omega
theorem pow10 : (18446744073709551616 : Nat) ≤ 128 ^ 10 := by decide
theorem uvI_len {a : Int} (h : U a) : (uvI a).length ≤ 10 := uv_len 9 _ (by have := pow10; have := h.2; have := h.1; omega)
theorem uint_f : ∀ (k n : Nat), n < 128 ^ (k + 1) → n < 18446744073709551616 → quorateref01_Uint.f (k + 1) (n : Int) = some (uv n)
  | 0, n, h, _ => by
    have h1 : n < 128 := by simpa using h
    rw [quorateref01_Uint.f, if_pos (by omega), uv_small h1, show (n : Int) % 256 = n by omega]
  | k + 1, n, h, hu => by
    by_cases h1 : n < 128
    · rw [quorateref01_Uint.f, if_pos (by omega), uv_small h1, show (n : Int) % 256 = n by omega]
    · have ih := uint_f k (n / 128) (by rw [Nat.div_lt_iff_lt_mul (by decide)]; rwa [Nat.pow_succ] at h) (by omega)
      have hl : (uv (n / 128)).length ≤ 10 := uv_len 9 _ (by have := pow10; omega)
      have e1 : IntKind.u64.wrap (Int.tdiv (n : Int) 128) = ((n / 128 : Nat) : Int) := by
        rw [Int.tdiv_eq_ediv_of_nonneg (by omega), IntKind.wrap_u64]
        omega
      have e2 : IntKind.u64.wrap (128 + Int.tmod (n : Int) 128) % 256 = ((n % 128 + 128 : Nat) : Int) := by
        rw [Int.tmod_eq_emod_of_nonneg (by omega), IntKind.wrap_u64]
        omega
      have e3 : uv n = ((n % 128 + 128 : Nat) : Int) :: uv (n / 128) := by
        conv => lhs; rw [uv, if_neg h1]
      rw [quorateref01_Uint.f, if_neg (by omega), e1, e2, ih, e3, Option.bind_some, Option.bind_some, if_pos (by show 1 + _ < _; omega)]
      rfl
theorem uint_law {k : Nat} (hk : 10 ≤ k) {a : Int} (ha : U a) : quorateref01_Uint.f k a = some (uvI a) := by
  obtain ⟨n, rfl⟩ := Int.eq_ofNat_of_zero_le ha.1
  obtain ⟨k', rfl⟩ : ∃ k', k = k' + 1 := ⟨k - 1, by omega⟩
  have h2 := ha.2
  exact uint_f k' n (Nat.lt_of_lt_of_le (by have := pow10; omega) (Nat.pow_le_pow_right (by decide) hk)) (by omega)
theorem bytes_law {k : Nat} (hk : 10 ≤ k) {n : Int} (hn : U n) (r : Int) : quorateref14_Bytes.f k n r = some (uvI n ++ uvI (IntKind.u64.wrap r)) := by
  unfold quorateref14_Bytes.f
  rw [uint_law hk hn, uint_law hk (U.wrap r)]
  show (if _ then some _ else none) = _
  rw [if_pos (by have := uvI_len hn; have := uvI_len (U.wrap r); omega)]
theorem text_law {k : Nat} (hk : 10 ≤ k) (s : ByteArray) (hs : s.size ≤ 1000000) : quorateref01_Text.f k s = some (textB s) := by
  have hu : U (s.size : Int) := by unfold U; omega
  have hw : IntKind.u64.wrap (s.size : Int) = s.size := by rw [IntKind.wrap_u64]; omega
  unfold quorateref01_Text.f
  rw [hw, uint_law hk hu]
  show (if _ then some _ else none) = _
  rw [if_pos (by have := uvI_len hu; omega)]
  rfl
theorem textL_law {k : Nat} (hk : 10 ≤ k) (l : List Int) (hs : l.length ≤ 1000000) : quorateref17_text.f k l = some (textL l) := by
  unfold quorateref17_text.f
  rw [text_law hk _ (by rw [sON_size]; exact hs)]
  rfl
theorem textL_len {l : List Int} (h : l.length ≤ 1000000) : (textL l).length ≤ 10 + l.length := by
  unfold textL textB
  have e := sON_size l
  have hu : U ((strOfNums l).size : Int) := by unfold U; omega
  have := uvI_len hu
  have e2 : (bytesOf (strOfNums l)).length = (strOfNums l).size := by
    unfold bytesOf
    rw [List.length_map]
    rfl
  rw [List.length_append, e2]
  omega
theorem voteB_len {x : S52} (h : x.f2.length ≤ 1000000) (hu : U x.f0) (hn : U x.f1.f0) : (voteB x).length ≤ 40 + x.f2.length := by
  unfold voteB
  have := textL_len h
  have := uvI_len hu
  have := uvI_len hn
  have := uvI_len (U.wrap x.f1.f1)
  simp only [List.length_append]
  omega
theorem flat_len {α : Type} (f : α → List Int) (b : Nat) : ∀ (l : List α), (∀ x ∈ l, (f x).length ≤ b) → (l.flatMap f).length ≤ l.length * b
  | [], _ => by simp
  | x :: l, h => by
    rw [List.flatMap_cons, List.length_append, List.length_cons, Nat.succ_mul]
    have := flat_len f b l (fun y hy => h y (List.mem_cons_of_mem _ hy))
    have := h x (List.mem_cons_self ..)
    omega
structure Small (m : Mg) : Prop where
  nV : m.V.length ≤ 5000
  nB : m.B.length ≤ 5000
  nS : m.S.length ≤ 5000
  V : ∀ x ∈ m.V, x.f2.length ≤ 5000
  B : ∀ x ∈ m.B, x.length ≤ 5000
theorem rdL_at (B : List (List Int)) (j : Nat) (h : j < B.length) : rd_L4 B (j : Int) = B[j] := by
  show B.getD (j : Int).toNat [] = _
  rw [Int.toNat_natCast, List.getD_eq_getElem?_getD, List.getElem?_eq_getElem h]
  rfl
theorem rdT_at (V : List S52) (j : Nat) (h : j < V.length) : rd_T52 V (j : Int) = V[j] := by
  show V.getD (j : Int).toNat z52 = _
  rw [Int.toNat_natCast, List.getD_eq_getElem?_getD, List.getElem?_eq_getElem h]
  rfl
section
variable (m : Mg) (s : ByteArray) (i : Int)
theorem in_l1 (hs : Small m) (c : Nat) (hc : 12 ≤ c) : ∀ (d j : Nat) (x : List Int), j + d = m.B.length → x.length + d * 5010 < 1000000000 → quorateref17_Inside.l1 (c + d + 1) x s i (j : Int) m.k m.n m.r m.first m.last m.commit m.V m.B m.S = quorateref17_Inside.l0 c (x ++ (m.B.drop j).flatMap textL) s (wrap64 (i + 1)) m.k m.n m.r m.first m.last m.commit m.V m.B m.S
  | 0, j, x, hj, hx => by
    rw [quorateref17_Inside.l1, if_neg (by omega), List.drop_of_length_le (by omega)]
    simp
  | d + 1, j, x, hj, hx => by
    have hjl : j < m.B.length := by omega
    have hlen := hs.B _ (List.getElem_mem hjl)
    have htl := textL_len (l := m.B[j]) (by omega)
    have hw : wrap64 ((j : Int) + 1) = ((j + 1 : Nat) : Int) := by have := hs.nB; unfold wrap64; omega
    rw [show c + (d + 1) + 1 = (c + d + 1) + 1 from rfl, quorateref17_Inside.l1, if_pos (by omega), if_pos (by omega), rdL_at _ _ hjl, textL_law (by omega) _ (by omega)]
    show (if _ then _ else none) = _
    rw [if_pos (by omega), hw, in_l1 hs c hc d (j + 1) (x ++ textL m.B[j]) (by omega) (by rw [List.length_append]; omega), List.drop_eq_getElem_cons hjl, List.flatMap_cons, List.append_assoc]
theorem in_l2 (hs : Small m) (hok : m.Ok) (c : Nat) (hc : 12 ≤ c) : ∀ (d j : Nat) (x : List Int), j + d = m.V.length → x.length + d * 5040 < 1000000000 → quorateref17_Inside.l2 (c + d + 1) x s i (j : Int) m.k m.n m.r m.first m.last m.commit m.V m.B m.S = quorateref17_Inside.l0 c (x ++ (m.V.drop j).flatMap voteB) s (wrap64 (i + 1)) m.k m.n m.r m.first m.last m.commit m.V m.B m.S
  | 0, j, x, hj, hx => by
    rw [quorateref17_Inside.l2, if_neg (by omega), List.drop_of_length_le (by omega)]
    simp
  | d + 1, j, x, hj, hx => by
    have hjl : j < m.V.length := by omega
    have hlen := hs.V _ (List.getElem_mem hjl)
    have huv := hok.V _ (List.getElem_mem hjl)
    have htl := textL_len (l := m.V[j].f2) (by omega)
    have hw : wrap64 ((j : Int) + 1) = ((j + 1 : Nat) : Int) := by have := hs.nV; unfold wrap64; omega
    have l1 := uvI_len huv.1
    have l2 := uvI_len huv.2
    have l3 := uvI_len (U.wrap m.V[j].f1.f1)
    rw [show c + (d + 1) + 1 = (c + d + 1) + 1 from rfl, quorateref17_Inside.l2, if_pos (by omega), if_pos (by omega), rdT_at _ _ hjl, uint_law (by omega) huv.1, Option.bind_some, if_pos (by omega), Option.bind_some, bytes_law (by omega) huv.2, Option.bind_some, if_pos (by simp only [List.length_append]; omega), Option.bind_some, textL_law (by omega) _ (by omega), Option.bind_some, if_pos (by simp only [List.length_append]; omega), hw, in_l2 hs hok c hc d (j + 1) _ (by omega) (by simp only [List.length_append]; omega), List.drop_eq_getElem_cons hjl, List.flatMap_cons]
    congr 1
    unfold voteB
    simp only [List.append_assoc]
end
theorem lay_len (m : Mg) (hs : Small m) (hok : m.Ok) (c : Int) : (layF m c).length ≤ 30000000 := by
  have h1 := uvI_len hok.n
  have h2 := uvI_len (U.wrap m.r)
  have h3 := uvI_len hok.commit
  have h4 := uvI_len hok.first
  have h5 := uvI_len hok.last
  have h6 := textL_len (l := m.S) (by have := hs.nS; omega)
  have h7 := flat_len textL 5010 m.B (fun x hx => by have := hs.B x hx; have := textL_len (l := x) (by omega); omega)
  have h8 := flat_len voteB 5040 m.V (fun x hx => by have := hs.V x hx; have := voteB_len (x := x) (by omega) (hok.V x hx).1 (hok.V x hx).2; omega)
  have h9 := uvI_len (a := (m.B.length : Int)) (by have := hs.nB; unfold U; omega)
  have h10 := uvI_len (a := (m.V.length : Int)) (by have := hs.nV; unfold U; omega)
  have hv := hs.nV
  have hb := hs.nB
  have hS := hs.nS
  have h11 : m.B.length * 5010 ≤ 5000 * 5010 := Nat.mul_le_mul_right _ hb
  have h12 : m.V.length * 5040 ≤ 5000 * 5040 := Nat.mul_le_mul_right _ hv
  unfold layF rowB rowV
  repeat' split
  all_goals (try simp only [List.length_append])
  all_goals first | omega | simp
theorem bt_fld (kk i : Nat) (h : i < (fld kk).length) : bt (fldS kk) (i : Int) = (((fld kk)[i]).toNat : Int) := by
  have h2 : i < (fldS kk).size := h
  unfold bt
  rw [dif_pos (by rw [Int.toNat_natCast]; exact h2)]
  rfl
set_option maxHeartbeats 1000000 in
theorem in_l0_step (m : Mg) (hs : Small m) (hok : m.Ok) (kk : Nat) (d i k' : Nat) (x R : List Int) (c : Int) (hil : i < (fldS kk).size) (hbt : bt (fldS kk) (i : Int) = c) (hmem : c = 98 ∨ c = 99 ∨ c = 102 ∨ c = 108 ∨ c = 112 ∨ c = 115 ∨ c = 118) (hw : wrap64 ((i : Int) + 1) = ((i + 1 : Nat) : Int))
    (hk : d * (m.V.length + m.B.length + 2) + (m.V.length + m.B.length + 2) + 30 ≤ k' + 1) (hx : x.length + 30000000 < 500000000)
    (ih : ∀ k2, d * (m.V.length + m.B.length + 2) + 30 ≤ k2 → quorateref17_Inside.l0 k2 (x ++ layF m c) (fldS kk) ((i + 1 : Nat) : Int) m.k m.n m.r m.first m.last m.commit m.V m.B m.S = some R) :
    quorateref17_Inside.l0 (k' + 1) x (fldS kk) (i : Int) m.k m.n m.r m.first m.last m.commit m.V m.B m.S = some R := by
  have hlay := lay_len m hs hok c
  have hnS := hs.nS
  have hnV := hs.nV
  have hnB := hs.nB
  generalize d * (m.V.length + m.B.length + 2) = dd at hk ih
  rw [quorateref17_Inside.l0, if_pos (by omega), if_pos (by omega), hbt, hw]
  clear hbt
  rcases hmem with rfl | rfl | rfl | rfl | rfl | rfl | rfl
  · have e : layF m 98 = uvI m.n ++ uvI (IntKind.u64.wrap m.r) := rfl
    rw [e] at ih hlay
    rw [if_pos rfl, bytes_law (by omega) hok.n, Option.bind_some, if_pos (by omega)]
    exact ih k' (by omega)
  · have e : layF m 99 = uvI m.commit := rfl
    rw [e] at ih hlay
    rw [if_neg (by decide), if_pos rfl, uint_law (by omega) hok.commit, Option.bind_some, if_pos (by omega)]
    exact ih k' (by omega)
  · have e : layF m 102 = uvI m.first := rfl
    rw [e] at ih hlay
    rw [if_neg (by decide), if_neg (by decide), if_pos rfl, uint_law (by omega) hok.first, Option.bind_some, if_pos (by omega)]
    exact ih k' (by omega)
  · have e : layF m 108 = uvI m.last := rfl
    rw [e] at ih hlay
    rw [if_neg (by decide), if_neg (by decide), if_neg (by decide), if_pos rfl, uint_law (by omega) hok.last, Option.bind_some, if_pos (by omega)]
    exact ih k' (by omega)
  · have e : layF m 112 = textL m.S := rfl
    rw [e] at ih hlay
    rw [if_neg (by decide), if_neg (by decide), if_neg (by decide), if_neg (by decide), if_pos rfl, textL_law (by omega) _ (by omega), Option.bind_some, if_pos (by omega)]
    exact ih k' (by omega)
  · have e : layF m 115 = rowB m.B := rfl
    rw [e] at ih hlay
    have hu : U (m.B.length : Int) := by unfold U; omega
    have hl := uvI_len hu
    have hwr : IntKind.u64.wrap (m.B.length : Int) = m.B.length := by rw [IntKind.wrap_u64]; omega
    have h1 := in_l1 m (fldS kk) (i : Int) hs (k' - m.B.length - 1) (by omega) m.B.length 0 (x ++ uvI (m.B.length : Int)) (by omega) (by rw [List.length_append]; have := Nat.mul_le_mul_right 5010 hnB; omega)
    rw [show k' - m.B.length - 1 + m.B.length + 1 = k' by omega, hw, List.drop_zero, List.append_assoc] at h1
    rw [if_neg (by decide), if_neg (by decide), if_neg (by decide), if_neg (by decide), if_neg (by decide), if_pos rfl, hwr, uint_law (by omega) hu, Option.bind_some, if_pos (by omega)]
    refine (h1.trans ?_)
    exact ih _ (by omega)
  · have e : layF m 118 = rowV m.V := rfl
    rw [e] at ih hlay
    have hu : U (m.V.length : Int) := by unfold U; omega
    have hl := uvI_len hu
    have hwr : IntKind.u64.wrap (m.V.length : Int) = m.V.length := by rw [IntKind.wrap_u64]; omega
    have h1 := in_l2 m (fldS kk) (i : Int) hs hok (k' - m.V.length - 1) (by omega) m.V.length 0 (x ++ uvI (m.V.length : Int)) (by omega) (by rw [List.length_append]; have := Nat.mul_le_mul_right 5040 hnV; omega)
    rw [show k' - m.V.length - 1 + m.V.length + 1 = k' by omega, hw, List.drop_zero, List.append_assoc] at h1
    rw [if_neg (by decide), if_neg (by decide), if_neg (by decide), if_neg (by decide), if_neg (by decide), if_neg (by decide), if_pos rfl, hwr, uint_law (by omega) hu, Option.bind_some, if_pos (by omega)]
    refine (h1.trans ?_)
    exact ih _ (by omega)
theorem in_l0 (m : Mg) (hs : Small m) (hok : m.Ok) (kk : Nat) (hk9 : kk < 9) (d : Nat) : ∀ (i k : Nat) (x : List Int), i + d = (fld kk).length → d * (m.V.length + m.B.length + 2) + 30 ≤ k → x.length + d * 30000000 < 500000000 →
    quorateref17_Inside.l0 k x (fldS kk) (i : Int) m.k m.n m.r m.first m.last m.commit m.V m.B m.S = some (x ++ ((fldI kk).drop i).flatMap (layF m)) := by
  have hsz : (fldS kk).size = (fld kk).length := rfl
  have hfi : (fldI kk).length = (fld kk).length := by simp [fldI]
  induction d with
  | zero =>
    intro i k x hi hk hx
    obtain ⟨k', rfl⟩ : ∃ k', k = k' + 1 := ⟨k - 1, by omega⟩
    rw [quorateref17_Inside.l0, if_neg (by omega), List.drop_of_length_le (by omega)]
    simp
  | succ d IH =>
    intro i k x hi hk hx
    obtain ⟨k', rfl⟩ : ∃ k', k = k' + 1 := ⟨k - 1, by omega⟩
    have hil : i < (fld kk).length := by omega
    have hil2 : i < (fldI kk).length := by omega
    have hbt := bt_fld kk i hil
    have hci : (fldI kk)[i] = (((fld kk)[i]).toNat : Int) := by simp [fldI]
    rw [← hci] at hbt
    have hmem := fldI_mem hk9 (fldI kk)[i] (List.getElem_mem hil2)
    have hl4 : (fld kk).length < 100 := by unfold fld; split <;> decide
    have hlay := lay_len m hs hok (fldI kk)[i]
    rw [Nat.succ_mul] at hk
    rw [List.drop_eq_getElem_cons hil2, List.flatMap_cons, ← List.append_assoc]
    exact in_l0_step m hs hok kk d i k' x _ _ hil hbt hmem (by unfold wrap64; omega) hk (by omega) fun k2 h2 => IH (i + 1) k2 _ (by omega) h2 (by rw [List.length_append]; omega)
theorem fields_law (kk : Nat) (hk : kk < 9) (h1 : 1 ≤ kk) (k : Nat) : quorateref17_Fields.f (k + 1) (kk : Int) = some (fldS kk) := by
  match kk, hk, h1 with
  | 1, _, _ | 2, _, _ | 3, _, _ | 4, _, _ | 5, _, _ | 6, _, _ | 7, _, _ | 8, _, _ => rfl
theorem inside_law (m : Mg) (hs : Small m) (hok : m.Ok) (kk : Nat) (hkm : m.k = kk) (hk : kk < 9) (h1 : 1 ≤ kk) (k : Nat) (hkk : 4 * (m.V.length + m.B.length + 2) + 40 ≤ k) : quorateref17_Inside.f k m.k m.n m.r m.first m.last m.commit m.V m.B m.S = some (bodyB m kk) := by
  obtain ⟨k', rfl⟩ : ∃ k', k = k' + 1 := ⟨k - 1, by omega⟩
  have hl4 : (fld kk).length ≤ 4 := by unfold fld; split <;> decide
  have hmul := Nat.mul_le_mul_right (m.V.length + m.B.length + 2) hl4
  have h := in_l0 m hs hok kk hk (fld kk).length 0 (k' + 1) [m.k % 256] (by omega) (by omega) (by show 1 + _ < _; omega)
  unfold quorateref17_Inside.f
  rw [hkm, fields_law kk hk h1, Option.bind_some]
  rw [hkm] at h
  refine h.trans ?_
  unfold bodyB layB
  rw [uvI_small (by omega) (by omega), show ((kk : Int) % 256) = kk by omega]
  rfl
end Go.Proofs.YtfkfboigkpofkaaDoor.M
end
