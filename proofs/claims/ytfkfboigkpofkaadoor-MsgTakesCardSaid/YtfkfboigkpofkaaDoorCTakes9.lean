/- Parts of a proof, pruned and joined by flat.py out of: PMsgPutsx7, MXa, TA, PMsgTakesx0, PMsgTakesx5, PMsgTakesx6, TB. -/
import Derived.Test.YtfkfboigkpofkaaDoorCTakes8
import Derived.Test.YtfkfboigkpofkaaDoorProg
import Derived.Below
import Derived.Deep.Draws
import Derived.Deep.AppendLies
import Derived.Maps.AppendAt
import Derived.OwnWalk
import Derived.Laws.BytesArg
import Derived.Laws.MakeOwn
import Derived.Laws.OwnMore
import Derived.Deep.OwnRows
import Derived.Tactics
import Derived.Lib.ConvBytes
import Derived.Laws.Slices
import Derived.WalkKit
import Derived.KernelRfl
import Derived.RowKit3
import Derived.Deep.LoopGhost
import Derived.Deep.QuietTactic
import Derived.BigQuiet
import Derived.WideLaws
import Derived.Deep.DeepCutAuto
import Derived.Deep.CutBlock
import Derived.Deep.RegionHeld3
import Derived.Laws.Rows
import Derived.Lib.AppendStr
import Derived.ArgAppend
import Derived.Laws.IdiomCopy
import Derived.OrdersHeld
import Derived.Laws.BitsLemmas
import Derived.RowKit
section
namespace Go.Proofs.YtfkfboigkpofkaaDoor.PMsgPuts
open Go.RowKit Go.Proofs.YtfkfboigkpofkaaDoorW.PrintWords Go.Proofs.YtfkfboigkpofkaaDoorW.PrintLast Go.Proofs.YtfkfboigkpofkaaDoorW.PrintMore
attribute [local go_sem] max2_int min2_int max_two min_two max_three min_three max_four min_four
set_option linter.unusedVariables false
set_option linter.unusedSimpArgs false
mutual
def quorateref02_Sum.l0 : Nat → List Int → Int → Int → Option (Int)
  | 0, _, _, _ => none
  | k + 1, x0, x3, x4 => if x4 < (x0.length : Int) then (if 0 ≤ x4 then (quorateref02_Sum.l1 k x0 (Go.bits .xor .u32 x3 ((rd x0 x4) % 4294967296)) x4 0) else (none)) else (some (Go.bits .xor .u32 x3 4294967295))
def quorateref02_Sum.l1 : Nat → List Int → Int → Int → Int → Option (Int)
  | 0, _, _, _, _ => none
  | k + 1, x0, x3, x4, x5 => if x5 < 8 then (if (Go.bits .and .u32 x3 1) = 1 then (quorateref02_Sum.l1 k x0 (Go.bits .xor .u32 (x3 / 2) 2197175160) x4 (wrap64 (x5 + 1))) else (quorateref02_Sum.l1 k x0 (x3 / 2) x4 (wrap64 (x5 + 1)))) else (quorateref02_Sum.l0 k x0 x3 (wrap64 (x4 + 1)))
end
def quorateref02_Sum.f (k : Nat) (l0 : List Int) : Option (Int) := quorateref02_Sum.l0 k l0 4294967295 0
set_option maxHeartbeats 8000000 in
set_option maxRecDepth 100000 in
theorem quorateref02_Sum.calls (k : Nat) (A0 : Option Addr) (c0 : Nat) (l0 : List Int) (r : Int) (w : World) (hr0 : Kd.C (Kd.int .u8) w A0 l0.length l0) (hc0 : l0.length ≤ c0) (h : quorateref02_Sum.f k l0 = some r) :
    Calls Tryd.prog 31 #[.slice A0 l0.length c0] w fun e w' => e = .returned (.int .u32 r) ∧ Drawn0 w w' := by
  have HR0 := Aside0.mk hr0
  have HC0 := Aside0.mk hc0
  clear hr0 hc0
  have H : (quorateref02_Sum.l0 k l0 4294967295 0) = some r := h
  clear h
  have H' := Aside0.mk H
  clear H
  go_enter Tryd.func31, Tryd.ntmps31
  go_wp2
  go_loopg [3, 4] k (fun kq v3 v4 w' => ∃ (x3_1 : Int) (x4_1 : Int), v3 = .int .u32 x3_1 ∧ v4 = .int .i64 x4_1 ∧ Aside0 (quorateref02_Sum.l0 kq l0 x3_1 x4_1 = some r) ∧ Aside0 (kq ≤ k) ∧ Drawn0 w w')
  case atStart => exact ⟨(4294967295), (0), (by first | rfl | (simp; done) | (simp [*]; done)), (by first | rfl | (simp; done) | (simp [*]; done)), H', ⟨Nat.le_refl _⟩, by repeat (first | exact Drawn0.refl _ | apply Drawn0.step)⟩
  case round =>
    clear H'
    obtain ⟨x3_1, x4_1, rfl, rfl, HA, HK1, ⟨m1, rfl⟩⟩ := hrel
    cases gk with
    | zero => exact absurd HA.out (by simp [quorateref02_Sum.l0])
    | succ k1 =>
      have H := HA.out
      clear HA
      simp only [quorateref02_Sum.l0] at H
      by_cases c2 : x4_1 < (l0.length : Int)
      · rw [if_pos c2] at H
        have c2b0 : decide (x4_1 < (l0.length : Int)) = true := decide_eq_true c2
        clear c2
        by_cases c3 : 0 ≤ x4_1
        · rw [if_pos c3] at H
          have c3b0 : decide (0 ≤ x4_1) = true := decide_eq_true c3
          clear c3
          have H' := Aside0.mk H
          clear H
          have p202 : 0 ≤ (x4_1 : Int) := of_decide_eq_true (by first | (with_reducible assumption) | assumption)
          have q202 : x4_1 < (l0.length : Int) := of_decide_eq_true (by first | (with_reducible assumption) | assumption)
          obtain ⟨ad202, e202, hx202_0⟩ := Kd.at_int HR0.out x4_1 p202 q202
          cases e202
          replace p202 := eq_true p202
          replace q202 := eq_true q202
          go_wp2
          go_loopg [3, 5] k1 (fun kq v3 v5 w' => ∃ (x3_2 : Int) (x5_2 : Int), v3 = .int .u32 x3_2 ∧ v5 = .int .i64 x5_2 ∧ Aside0 (quorateref02_Sum.l1 kq l0 x3_2 x4_1 x5_2 = some r) ∧ Aside0 (kq ≤ k1) ∧ Drawn0 w w')
          case atStart => exact ⟨(Go.bits .xor .u32 x3_1 ((rd l0 x4_1) % 4294967296)), (0), (by first | rfl | (simp; done) | (simp [*]; done)), (by first | rfl | (simp; done) | (simp [*]; done)), H', ⟨Nat.le_refl _⟩, by repeat (first | exact Drawn0.refl _ | apply Drawn0.step)⟩
          case round =>
            clear H'
            try clear c2
            try clear c2b0
            try clear p2
            try clear q2
            try clear hx2
            try clear c3
            try clear c3b0
            try clear hx202_0
            try clear p202
            try clear q202
            obtain ⟨x3_2, x5_2, rfl, rfl, HA, HK2, ⟨m2, rfl⟩⟩ := hrel
            cases gk with
            | zero => exact absurd HA.out (by simp [quorateref02_Sum.l1])
            | succ k2 =>
              have H := HA.out
              clear HA
              simp only [quorateref02_Sum.l1] at H
              by_cases c4 : x5_2 < 8
              · rw [if_pos c4] at H
                have c4b0 : decide (x5_2 < 8) = true := decide_eq_true c4
                clear c4
                by_cases c5 : (Go.bits .and .u32 x3_2 1) = 1
                · rw [if_pos c5] at H
                  have c5b0 : ((Go.bits .and .u32 x3_2 1) == 1) = true := beq_iff_eq.mpr c5
                  have c5b1 : ((Go.bits .and .u32 x3_2 1) != 1) = false := bne_eq_false_iff_eq.mpr c5
                  clear c5
                  have H' := Aside0.mk H
                  clear H
                  go_wp2
                  go_roundg k2
                  case measure => have := HK1.out; have := HK2.out; omega
                  case rel => exact ⟨(Go.bits .xor .u32 (x3_2 / 2) 2197175160), (wrap64 (x5_2 + 1)), (by first | rfl | (simp; done) | (simp [*]; done)), (by first | rfl | (simp; done) | (simp [*]; done)), H', ⟨by have := HK1.out; have := HK2.out; omega⟩, by repeat (first | exact Drawn0.refl _ | apply Drawn0.step)⟩
                · rw [if_neg c5] at H
                  have c5b0 : ((Go.bits .and .u32 x3_2 1) == 1) = false := beq_eq_false_iff_ne.mpr c5
                  have c5b1 : ((Go.bits .and .u32 x3_2 1) != 1) = true := bne_iff_ne.mpr c5
                  have H' := Aside0.mk H
                  clear H
                  go_wp2
                  go_roundg k2
                  case measure => have := HK1.out; have := HK2.out; omega
                  case rel => exact ⟨(x3_2 / 2), (wrap64 (x5_2 + 1)), (by first | rfl | (simp; done) | (simp [*]; done)), (by first | rfl | (simp; done) | (simp [*]; done)), H', ⟨by have := HK1.out; have := HK2.out; omega⟩, by repeat (first | exact Drawn0.refl _ | apply Drawn0.step)⟩
              · rw [if_neg c4] at H
                have c4b0 : decide (x5_2 < 8) = false := decide_eq_false c4
                clear c4
                have H' := Aside0.mk H
                clear H
                go_wp2
                go_roundg k2
                case measure => have := HK1.out; have := HK2.out; omega
                case rel => exact ⟨(x3_2), (wrap64 (x4_1 + 1)), (by first | rfl | (simp; done) | (simp [*]; done)), (by first | rfl | (simp; done) | (simp [*]; done)), H', ⟨by have := HK1.out; have := HK2.out; omega⟩, by repeat (first | exact Drawn0.refl _ | apply Drawn0.step)⟩
        · rw [if_neg c3] at H
          exact absurd H (by simp)
      · rw [if_neg c2] at H
        have c2b0 : decide (x4_1 < (l0.length : Int)) = false := decide_eq_false c2
        clear c2
        obtain rfl := Option.some.inj H
        go_wp2
        go_ret
        exact ⟨by first | rfl | (simp; done) | (simp [*]; done), by repeat (first | exact Drawn0.refl _ | apply Drawn0.step)⟩
def quorateref17_Summed.f (k : Nat) (l0 : List Int) : Option (List Int) := (quorateref02_Sum.f k l0).bind fun t203 => ((some (([(Int.tmod t203 256) % 256, ((Int.tdiv t203 256) % 4294967296) % 256, ((Int.tdiv t203 65536) % 4294967296) % 256, ((Int.tdiv t203 16777216) % 4294967296) % 256] : List Int) : List Int)).bind fun y204 => (if y204.length + l0.length < 140737488355328 then (some (y204 ++ l0)) else (none)))
set_option maxHeartbeats 8000000 in
set_option maxRecDepth 100000 in
theorem quorateref17_Summed.calls (k : Nat) (A0 : Option Addr) (c0 : Nat) (l0 : List Int) (r : List Int) (w : World) (hr0 : Kd.C (Kd.int .u8) w A0 l0.length l0) (hc0 : l0.length ≤ c0) (h : quorateref17_Summed.f k l0 = some r) :
    Calls Tryd.prog 15 #[.slice A0 l0.length c0] w fun e w' => ∃ v0_ : Value, e = .returned (v0_) ∧ Kd.R (Kd.int .u8) 5 w' w.heap.size (fun _ => True) v0_ r ∧ Below w.heap.size w w' := by
  have HR0 := Aside0.mk hr0
  have HC0 := Aside0.mk hc0
  clear hr0 hc0
  have HB := Aside0.mk (Below.refl w.heap.size w)
  have H : ((quorateref02_Sum.f k l0).bind fun t203 => ((some (([(Int.tmod t203 256) % 256, ((Int.tdiv t203 256) % 4294967296) % 256, ((Int.tdiv t203 65536) % 4294967296) % 256, ((Int.tdiv t203 16777216) % 4294967296) % 256] : List Int) : List Int)).bind fun y204 => (if y204.length + l0.length < 140737488355328 then (some (y204 ++ l0)) else (none)))) = some r := h
  clear h
  replace H := Option.bind_eq_some_iff.mp H
  obtain ⟨t203, A20, H⟩ := H
  replace H : ((some (([(Int.tmod t203 256) % 256, ((Int.tdiv t203 256) % 4294967296) % 256, ((Int.tdiv t203 65536) % 4294967296) % 256, ((Int.tdiv t203 16777216) % 4294967296) % 256] : List Int) : List Int)).bind fun y204 => (if y204.length + l0.length < 140737488355328 then (some (y204 ++ l0)) else (none))) = some r := H
  have A2 := Aside0.mk A20
  clear A20
  obtain ⟨y204, hy204⟩ : ∃ y_ : List Int, y_ = (([(Int.tmod t203 256) % 256, ((Int.tdiv t203 256) % 4294967296) % 256, ((Int.tdiv t203 65536) % 4294967296) % 256, ((Int.tdiv t203 16777216) % 4294967296) % 256] : List Int)) := ⟨_, rfl⟩
  replace H : (if y204.length + l0.length < 140737488355328 then (some (y204 ++ l0)) else (none)) = some r := by first | (rw [hy204]; with_reducible exact H) | (have H2_ := (Option.bind_some _ _).symm.trans H; rw [hy204]; with_reducible exact H2_) | (have H2_ := (Option.bind_some _ _).symm.trans H; with_reducible exact H2_) | with_reducible exact H | (rw [hy204]; exact H) | exact H
  have Ny204 := Aside0.mk hy204
  clear hy204
  by_cases c3 : y204.length + l0.length < 140737488355328
  · rw [if_pos c3] at H
    have LMc3 := Aside0.mk c3
    clear c3
    obtain ⟨y207, hy207⟩ : ∃ y_ : List Int, y_ = (y204 ++ l0) := ⟨_, rfl⟩
    replace H : (some y207) = some r := by first | (rw [hy207]; with_reducible exact H) | (have H2_ := (Option.bind_some _ _).symm.trans H; rw [hy207]; with_reducible exact H2_) | (have H2_ := (Option.bind_some _ _).symm.trans H; with_reducible exact H2_) | with_reducible exact H | (rw [hy207]; exact H) | exact H
    have Ny207 := Aside0.mk hy207
    clear hy207
    obtain rfl := Option.some.inj H
    go_enter Tryd.func15, Tryd.ntmps15
    go_wp2_with (first | ((with_reducible refine gate_callee (f := 31) rfl ?_); refine goesL_ (some 6) rfl rfl Tryd.func31 (by kernel_rfl) rfl #[.slice A0 l0.length c0] rfl (by (try simp only [List.map_toArray, List.map_cons, List.map_nil]); first | done | rfl | (simp only [List.length_drop, List.length_take]; rfl)) ?_; (with_reducible refine (quorateref02_Sum.calls k _ _ l0 t203 _ ?side1 ?side2 A2.out).mono ?_); (case side1 => repeat (first | exact HR0.out | (with_reducible refine Kd.C_alloc ?_ _) | (with_reducible refine Kd.C_drewN ?_ _) | (with_reducible refine Kd.C_drew ?_))); (case side2 => exact HC0.out); rintro e w' ⟨rfl, ⟨nd, rfl⟩⟩; refine ⟨_, rfl, ?_⟩) | ((with_reducible refine gate_dst (N := 21) rfl ?_); refine Kd.R_lit (Kd.int .u8) _ 5 ?hg (N := 21) ?hd (xs := ([(Int.tmod t203 256) % 256, ((Int.tdiv t203 256) % 4294967296) % 256, ((Int.tdiv t203 65536) % 4294967296) % 256, ((Int.tdiv t203 16777216) % 4294967296) % 256] : List Int)) (inner := [.int .u8 ((Int.tmod t203 256) % 256), .int .u8 (((Int.tdiv t203 256) % 4294967296) % 256), .int .u8 (((Int.tdiv t203 65536) % 4294967296) % 256), .int .u8 (((Int.tdiv t203 16777216) % 4294967296) % 256)]) (ok := fun _ => True) (okp := fun _ => True) ?hr ?hp (fun _ hk => hk) trivial (Below.refl _ _) (Nat.le_refl _) (by simp) ?_; (case hd => rfl); (case hg => rfl); (case hr => first | (go_simp; done) | (go_simp; rfl)); (case hp => exact (Reps.one (show Kd.M (Kd.int .u8) _ _ _ ((Int.tmod t203 256) % 256) [.int .u8 ((Int.tmod t203 256) % 256)] from rfl) (Reps.one (show Kd.M (Kd.int .u8) _ _ _ (((Int.tdiv t203 256) % 4294967296) % 256) [.int .u8 (((Int.tdiv t203 256) % 4294967296) % 256)] from rfl) (Reps.one (show Kd.M (Kd.int .u8) _ _ _ (((Int.tdiv t203 65536) % 4294967296) % 256) [.int .u8 (((Int.tdiv t203 65536) % 4294967296) % 256)] from rfl) (Reps.one (show Kd.M (Kd.int .u8) _ _ _ (((Int.tdiv t203 16777216) % 4294967296) % 256) [.int .u8 (((Int.tdiv t203 16777216) % 4294967296) % 256)] from rfl) (Reps.none _ _)))))); intro v205 w4 ho5 hb hg_ hnew_; clear hg_ hnew_; (first | rw [← Ny204.out] at ho5 | (simp only [Int.reduceToNat] at ho5; rw [← Ny204.out] at ho5)); have n0_ := Aside0.mk (Kd.R_lower ho5 (below_size (by repeat (first | (with_reducible first | exact HB.out | apply below_alloc | apply pw_below_drewN | apply below_drew1) | exact HB.out)))); have n1_ := Aside0.mk (below_step (by repeat (first | (with_reducible first | exact HB.out | apply below_alloc | apply pw_below_drewN | apply below_drew1) | exact HB.out)) hb); clear HB; have HO206 := n0_; have HB := n1_; clear n0_ n1_; clear hb ho5) | ((with_reducible refine gate_builtin (b := .append) (xs := #[.tmp 22, .tmp 23]) rfl ?_); at_builtin; refine Kd.R_append_rows (Kd.int .u8) (w0 := w) w.heap.size rfl (.tmp 22) (.tmp 23) 27 5 (.int .u8 0) 1 rfl Tryd.underlying27 info5 rfl (by decide) (by omega) v205 y204 l0 _ _ _ (fun _ => True) (fun _ => False) rfl rfl ?aO ?aR (fun _ _ h => h) (fun _ h => h.elim) ?aF ?aB ?aS ?aL ?_; (case aR => repeat (first | exact (Kd.C_below HR0.out HB.out) | (with_reducible refine Kd.C_alloc ?_ _) | (with_reducible refine Kd.C_drewN ?_ _) | (with_reducible refine Kd.C_drew ?_))); (case aB => exact (by repeat (first | (with_reducible first | exact HB.out | apply below_alloc | apply pw_below_drewN | apply below_drew1) | exact HB.out))); (case aF => exact (fun _ _ => trivial)); (case aO => exact (by (with_reducible repeat (first | apply Kd.R_alloc | apply Kd.R_drewN | apply Kd.R_drew)); exact HO206.out)); (case aS => exact (below_size (by repeat (first | (with_reducible first | exact HB.out | apply below_alloc | apply pw_below_drewN | apply below_drew1) | exact HB.out)))); (case aL => have := LMc3.out; omega); intro v208 w6 ho hb hg hat; rw [← Ny207.out] at ho; have n0_ := Aside0.mk (hb); have n1_ := Aside0.mk (ho); clear HB; clear HO206; have HB := n0_; have HO209 := n1_; clear n0_ n1_; clear ho hb hg hat))
    go_ret
    exact ⟨_, by first | rfl | (simp [errW_none, errW_some] <;> rfl) | (simp [*, errW_none, errW_some] <;> rfl), by (with_reducible repeat (first | apply Kd.R_alloc | apply Kd.R_drewN | apply Kd.R_drew)); exact HO209.out, by repeat (first | (with_reducible first | exact HB.out | apply below_alloc | apply pw_below_drewN | apply below_drew1) | exact HB.out)⟩
  · rw [if_neg c3] at H
    exact absurd H (by simp)
end Go.Proofs.YtfkfboigkpofkaaDoor.PMsgPuts
end
section
namespace Go.Proofs.YtfkfboigkpofkaaDoor.M
open Go.RowKit Go.Proofs.YtfkfboigkpofkaaDoorW.PrintWords Go.Proofs.YtfkfboigkpofkaaDoorW.PrintLast Go.Proofs.YtfkfboigkpofkaaDoorW.PrintMore Go.Proofs.YtfkfboigkpofkaaDoor.PMsgPuts
set_option linter.unusedVariables false
set_option linter.unusedSimpArgs false
theorem uv_len : ∀ (j n : Nat), n < 128 ^ (j + 1) → (uv n).length ≤ j + 1
  | 0, n, h => by
    rw [uv_small (by simpa using h)]
    exact Nat.le_refl _
  | j + 1, n, h => by
    by_cases h1 : n < 128
    · rw [uv_small h1]
      show 1 ≤ _
      omega
    · rw [uv, if_neg h1, List.length_cons]
      have := uv_len j (n / 128) (by rw [Nat.div_lt_iff_lt_mul (by decide)]; rwa [Nat.pow_succ] at h)
      omega
theorem pow10 : (18446744073709551616 : Nat) ≤ 128 ^ 10 := by decide
structure Small (m : Mg) : Prop where
  nV : m.V.length ≤ 5000
  nB : m.B.length ≤ 5000
  nS : m.S.length ≤ 5000
  V : ∀ x ∈ m.V, x.f2.length ≤ 5000
  B : ∀ x ∈ m.B, x.length ≤ 5000
theorem rdT_at (V : List S52) (j : Nat) (h : j < V.length) : rd_T52 V (j : Int) = V[j] := by
  show V.getD (j : Int).toNat z52 = _
  rw [Int.toNat_natCast, List.getD_eq_getElem?_getD, List.getElem?_eq_getElem h]
  rfl
section
variable (m : Mg) (s : ByteArray) (i : Int)
end
end Go.Proofs.YtfkfboigkpofkaaDoor.M
end
section
namespace Go.Proofs.YtfkfboigkpofkaaDoor.M
open Go.RowKit Go.Proofs.YtfkfboigkpofkaaDoorW.PrintWords Go.Proofs.YtfkfboigkpofkaaDoorW.PrintLast Go.Proofs.YtfkfboigkpofkaaDoorW.PrintMore Go.Proofs.YtfkfboigkpofkaaDoor.PMsgPuts
set_option linter.unusedVariables false
set_option linter.unusedSimpArgs false
def dU : Nat → List Int → Option (Nat × List Int)
  | 0, _ => none
  | _ + 1, [] => none
  | f + 1, c :: t => if (f = 0 ∧ 1 < c) ∨ (f < 9 ∧ c = 0) then none else if c < 128 then some (c.toNat, t) else (dU f t).map fun p => (c.toNat % 128 + 128 * p.1, p.2)
theorem dU_len : ∀ (f : Nat) (l : List Int) (n : Nat) (r : List Int), dU f l = some (n, r) → r.length < l.length
  | 0, _, _, _, h => by simp [dU] at h
  | f + 1, [], _, _, h => by simp [dU] at h
  | f + 1, c :: t, n, r, h => by
    unfold dU at h
    split at h
    · cases h
    · split at h
      · simp only [Option.some.injEq, Prod.mk.injEq] at h
        rw [← h.2]
        simp
      · rw [Option.map_eq_some_iff] at h
        obtain ⟨⟨m, r'⟩, h1, h2⟩ := h
        simp only [Prod.mk.injEq] at h2
        have := dU_len f t m r' h1
        rw [← h2.2]
        simp only [List.length_cons]
        omega
theorem uR_dU : ∀ (f : Nat) (acc : Nat) (l : List Int) (lim : Int), f ≤ 10 → Bys l → (∀ n r, dU f l = some (n, r) → uR f acc ⟨0, l, lim⟩ = (((acc + n * 2 ^ (7 * (10 - f)) : Nat) : Int), ⟨0, r, lim⟩)) ∧ (dU f l = none → 0 < f → (uR f acc ⟨0, l, lim⟩).1 = 0 ∧ (uR f acc ⟨0, l, lim⟩).2.e ≠ 0)
  | 0, acc, l, lim, _, _ => ⟨fun n r h => by simp [dU] at h, fun _ h => absurd h (Nat.lt_irrefl 0)⟩
  | f + 1, acc, [], lim, hf, hb => by
    refine ⟨fun n r h => by simp [dU] at h, fun _ _ => ?_⟩
    have hbr : byteR ⟨0, [], lim⟩ = (0, ⟨10, [], lim⟩) := rfl
    rw [uR_err hbr (show (10 : Int) ≠ 0 by decide)]
    exact ⟨rfl, show (10 : Int) ≠ 0 by decide⟩
  | f + 1, acc, c :: t, lim, hf, hb => by
    have hbr : byteR ⟨0, c :: t, lim⟩ = (c, ⟨0, t, lim⟩) := rfl
    have hc := hb c List.mem_cons_self
    have hbt : Bys t := fun x hx => hb x (List.mem_cons_of_mem _ hx)
    by_cases h1 : (f = 0 ∧ 1 < c) ∨ (f < 9 ∧ c = 0)
    · have hd : dU (f + 1) (c :: t) = none := by rw [dU, if_pos h1]
      rw [hd, uR_bad hbr rfl f acc h1]
      refine ⟨(fun n r h => (by cases h)), fun _ _ => ⟨rfl, ?_⟩⟩
      show (failR ⟨0, t, lim⟩ 11).e ≠ 0
      unfold failR
      rw [if_pos rfl]
      exact (show (11 : Int) ≠ 0 by decide)
    · by_cases h2 : c < 128
      · have hd : dU (f + 1) (c :: t) = some (c.toNat, t) := by rw [dU, if_neg h1, if_pos h2]
        rw [hd, uR_end hbr rfl f acc h1 h2]
        refine ⟨fun n r h => ?_, fun h => by cases h⟩
        simp only [Option.some.injEq, Prod.mk.injEq] at h
        rw [← h.1, ← h.2, Nat.mod_eq_of_lt (by omega), show 10 - (f + 1) = 9 - f by omega]
      · have hd : dU (f + 1) (c :: t) = (dU f t).map fun p => (c.toNat % 128 + 128 * p.1, p.2) := by rw [dU, if_neg h1, if_neg h2]
        have ih := uR_dU f (acc + c.toNat % 128 * 2 ^ (7 * (9 - f))) t lim (by omega) hbt
        rw [hd, uR_go hbr rfl f acc h1 h2]
        refine ⟨fun n r h => ?_, fun h _ => ?_⟩
        · rw [Option.map_eq_some_iff] at h
          obtain ⟨⟨m, r'⟩, e1, e2⟩ := h
          simp only [Prod.mk.injEq] at e2
          have hf0 : f ≠ 0 := by rintro rfl; simp [dU] at e1
          rw [ih.1 m r' e1, ← e2.1, ← e2.2]
          congr 2
          have e3 : 2 ^ (7 * (10 - f)) = 128 * 2 ^ (7 * (9 - f)) := by
            rw [show 7 * (10 - f) = 7 + 7 * (9 - f) by omega, Nat.pow_add]
          rw [e3, show 10 - (f + 1) = 9 - f by omega, Nat.add_mul, Nat.add_assoc, Nat.mul_comm 128 m, Nat.mul_assoc]
        · rw [Option.map_eq_none_iff] at h
          rcases Nat.eq_zero_or_pos f with rfl | hf0
          · exact absurd (Or.inl ⟨rfl, by omega⟩) h1
          · exact ih.2 h hf0
theorem nR_some {l r : List Int} {n : Nat} (lim : Int) (hb : Bys l) (h : dU 10 l = some (n, r)) : nR ⟨0, l, lim⟩ = ((n : Int), ⟨0, r, lim⟩) := by
  have h1 := (uR_dU 10 0 l lim (Nat.le_refl _) hb).1 n r h
  unfold nR
  rw [h1]
  simp
theorem nR_none {l : List Int} (lim : Int) (hb : Bys l) (h : dU 10 l = none) : (nR ⟨0, l, lim⟩).1 = 0 ∧ (nR ⟨0, l, lim⟩).2.e ≠ 0 :=
  (uR_dU 10 0 l lim (Nat.le_refl _) hb).2 h (by decide)
theorem dU_uv : ∀ (f n : Nat) (r : List Int), f < 10 → n < 2 ^ (1 + 7 * f) → (n = 0 → f = 9) → dU (f + 1) (uv n ++ r) = some (n, r)
  | f, n, r, hf, hn, h0 => by
    by_cases h : n < 128
    · rw [uv_small h]
      show dU (f + 1) ((n : Int) :: r) = _
      rw [dU, if_neg (by
        rintro (⟨h1, h2⟩ | ⟨h1, h2⟩)
        · subst h1
          have : n < 2 := by simpa using hn
          omega
        · have := h0 (by omega)
          omega), if_pos (by omega)]
      simp
    · have hf0 : f ≠ 0 := by
        rintro rfl
        have : n < 2 := by simpa using hn
        omega
      obtain ⟨g, rfl⟩ : ∃ g, f = g + 1 := ⟨f - 1, by omega⟩
      have ih := dU_uv g (n / 128) r (by omega) (by
        rw [Nat.div_lt_iff_lt_mul (by decide)]
        rw [show 1 + 7 * (g + 1) = (1 + 7 * g) + 7 by omega, Nat.pow_add] at hn
        exact hn) (by omega)
      have e : uv n = ((n % 128 + 128 : Nat) : Int) :: uv (n / 128) := by
        conv => lhs; rw [uv, if_neg h]
      rw [e]
      show dU (g + 1 + 1) (((n % 128 + 128 : Nat) : Int) :: (uv (n / 128) ++ r)) = _
      rw [dU, if_neg (by rintro (⟨h1, _⟩ | ⟨_, h2⟩) <;> omega), if_neg (by omega), ih]
      simp only [Option.map_some, Option.some.injEq, Prod.mk.injEq, and_true]
      omega
theorem dU_put {n : Nat} (hn : n < 18446744073709551616) (r : List Int) : dU 10 (uv n ++ r) = some (n, r) :=
  dU_uv 9 n r (by decide) (Nat.lt_of_lt_of_le hn (by decide)) (fun _ => rfl)
theorem dU_back : ∀ (f : Nat) (l : List Int) (n : Nat) (r : List Int), Bys l → f < 10 → dU (f + 1) l = some (n, r) → l = uv n ++ r ∧ n < 2 ^ (1 + 7 * f) ∧ (n = 0 → f = 9)
  | f, [], n, r, _, _, h => by simp [dU] at h
  | f, c :: t, n, r, hb, hf, h => by
    have hc := hb c List.mem_cons_self
    have hbt : Bys t := fun x hx => hb x (List.mem_cons_of_mem _ hx)
    unfold dU at h
    split at h
    · cases h
    · rename_i h1
      split at h
      · rename_i h2
        simp only [Option.some.injEq, Prod.mk.injEq] at h
        obtain ⟨rfl, rfl⟩ := h
        rw [uv_small (by omega), Int.toNat_of_nonneg hc.1]
        refine ⟨rfl, ?_, fun h0 => ?_⟩
        · rcases Nat.eq_zero_or_pos f with rfl | hf0
          · have : c ≤ 1 := by
              rcases Int.lt_or_le 1 c with h3 | h3
              · exact absurd (Or.inl ⟨rfl, h3⟩) h1
              · exact h3
            show c.toNat < 2
            omega
          · have : (128 : Nat) ≤ 2 ^ (1 + 7 * f) := Nat.le_trans (by decide : 128 ≤ 2 ^ 8) (Nat.pow_le_pow_right (by decide) (by omega))
            omega
        · rcases Nat.lt_or_ge f 9 with h3 | h3
          · exact absurd (Or.inr ⟨h3, by omega⟩) h1
          · omega
      · rename_i h2
        rw [Option.map_eq_some_iff] at h
        obtain ⟨⟨m, r'⟩, e1, e2⟩ := h
        simp only [Prod.mk.injEq] at e2
        obtain ⟨e2, rfl⟩ := e2
        have hf0 : f ≠ 0 := by rintro rfl; simp [dU] at e1
        obtain ⟨g, rfl⟩ : ∃ g, f = g + 1 := ⟨f - 1, by omega⟩
        obtain ⟨i1, i2, i3⟩ := dU_back g t m r' hbt (by omega) e1
        have hm0 : m ≠ 0 := fun h0 => by have := i3 h0; omega
        have e : uv n = c :: uv m := by
          conv => lhs; rw [uv, if_neg (by omega)]
          rw [show n / 128 = m by omega, show ((n % 128 + 128 : Nat) : Int) = c by omega]
        refine ⟨?_, ?_, fun h0 => by omega⟩
        · rw [e, i1]
          rfl
        · rw [show 1 + 7 * (g + 1) = (1 + 7 * g) + 7 by omega, Nat.pow_add, ← e2]
          have : (2 : Nat) ^ 7 = 128 := rfl
          omega
end Go.Proofs.YtfkfboigkpofkaaDoor.M
end
section
namespace Go.Proofs.YtfkfboigkpofkaaDoor.PMsgTakes
open Go.RowKit Go.Proofs.YtfkfboigkpofkaaDoorW.PrintWords Go.Proofs.YtfkfboigkpofkaaDoorW.PrintLast Go.Proofs.YtfkfboigkpofkaaDoorW.PrintMore
attribute [local go_sem] max2_int min2_int max_two min_two max_three min_three max_four min_four
set_option linter.unusedVariables false
set_option linter.unusedSimpArgs false
def errW : Option Int → Value
  | none => .nilIface
  | some c => .iface 0 (.int .i64 c)
theorem errW_none : errW none = .nilIface := rfl
theorem errW_some (c : Int) : errW (some c) = .iface 0 (.int .i64 c) := rfl
theorem info5 : (Tryd.prog.info? 5).map (fun i => (i.zero, i.size, i.bytes)) = some (some (.int .u8 0), 1, 1) := by kernel_rfl
end Go.Proofs.YtfkfboigkpofkaaDoor.PMsgTakes
end
section
namespace Go.Proofs.YtfkfboigkpofkaaDoor.PMsgTakes
open Go.RowKit Go.Proofs.YtfkfboigkpofkaaDoorW.PrintWords Go.Proofs.YtfkfboigkpofkaaDoorW.PrintLast Go.Proofs.YtfkfboigkpofkaaDoorW.PrintMore
attribute [local go_sem] max2_int min2_int max_two min_two max_three min_three max_four min_four
set_option linter.unusedVariables false
set_option linter.unusedSimpArgs false
def quorateref01_Uint.f : Nat → Int → Option (List Int)
  | 0, _ => none
  | k + 1, a0 => if a0 < 128 then (some (([(a0) % 256] : List Int))) else ((some (([(IntKind.u64.wrap (128 + (Int.tmod a0 128))) % 256] : List Int) : List Int)).bind fun y180 => ((quorateref01_Uint.f k (IntKind.u64.wrap (Int.tdiv a0 128))).bind fun t183 => (if y180.length + t183.length < 140737488355328 then (some (y180 ++ t183)) else (none))))
set_option maxHeartbeats 8000000 in
set_option maxRecDepth 100000 in
theorem quorateref01_Uint.calls (k : Nat) : ∀ (a0 : Int) (r : List Int) (w : World) (h : quorateref01_Uint.f k a0 = some r),
    Calls Tryd.prog 33 #[.int .u64 a0] w fun e w' => ∃ v0_ : Value, e = .returned (v0_) ∧ Kd.R (Kd.int .u8) 5 w' w.heap.size (fun _ => True) v0_ r ∧ Below w.heap.size w w' := by
  induction k using Nat.strongRecOn with
  | _ k ih =>
  intro a0 r w h
  cases k with
  | zero => exact absurd h (by simp [quorateref01_Uint.f])
  | succ k =>
  simp only [quorateref01_Uint.f] at h
  have HB := Aside0.mk (Below.refl w.heap.size w)
  have H : (if a0 < 128 then (some (([(a0) % 256] : List Int))) else ((some (([(IntKind.u64.wrap (128 + (Int.tmod a0 128))) % 256] : List Int) : List Int)).bind fun y180 => ((quorateref01_Uint.f k (IntKind.u64.wrap (Int.tdiv a0 128))).bind fun t183 => (if y180.length + t183.length < 140737488355328 then (some (y180 ++ t183)) else (none))))) = some r := h
  clear h
  by_cases c2 : a0 < 128
  · rw [if_pos c2] at H
    have c2b0 : decide (a0 < 128) = true := decide_eq_true c2
    clear c2
    obtain ⟨y177, hy177⟩ : ∃ y_ : List Int, y_ = (([(a0) % 256] : List Int)) := ⟨_, rfl⟩
    replace H : (some y177) = some r := by first | (rw [hy177]; with_reducible exact H) | (have H2_ := (Option.bind_some _ _).symm.trans H; rw [hy177]; with_reducible exact H2_) | (have H2_ := (Option.bind_some _ _).symm.trans H; with_reducible exact H2_) | with_reducible exact H | (rw [hy177]; exact H) | exact H
    have Ny177 := Aside0.mk hy177
    clear hy177
    obtain rfl := Option.some.inj H
    go_enter Tryd.func33, Tryd.ntmps33
    go_wp2_with (first | ((with_reducible refine gate_dst (N := 7) rfl ?_); refine Kd.R_lit (Kd.int .u8) _ 5 ?hg (N := 7) ?hd (xs := ([(a0) % 256] : List Int)) (inner := [.int .u8 ((a0) % 256)]) (ok := fun _ => True) (okp := fun _ => True) ?hr ?hp (fun _ hk => hk) trivial (Below.refl _ _) (Nat.le_refl _) (by simp) ?_; (case hd => rfl); (case hg => rfl); (case hr => first | (go_simp; done) | (go_simp; rfl)); (case hp => exact (Reps.one (show Kd.M (Kd.int .u8) _ _ _ ((a0) % 256) [.int .u8 ((a0) % 256)] from rfl) (Reps.none _ _))); intro v178 w3 ho4 hb hg_ hnew_; clear hg_ hnew_; (first | rw [← Ny177.out] at ho4 | (simp only [Int.reduceToNat] at ho4; rw [← Ny177.out] at ho4)); have n0_ := Aside0.mk (Kd.R_lower ho4 (below_size (by repeat (first | (with_reducible first | exact HB.out | apply below_alloc | apply pw_below_drewN | apply below_drew1) | exact HB.out)))); have n1_ := Aside0.mk (below_step (by repeat (first | (with_reducible first | exact HB.out | apply below_alloc | apply pw_below_drewN | apply below_drew1) | exact HB.out)) hb); clear HB; have HO179 := n0_; have HB := n1_; clear n0_ n1_; clear hb ho4))
    go_ret
    exact ⟨_, by first | rfl | (simp [errW_none, errW_some] <;> rfl) | (simp [*, errW_none, errW_some] <;> rfl), by (with_reducible repeat (first | apply Kd.R_alloc | apply Kd.R_drewN | apply Kd.R_drew)); exact HO179.out, by repeat (first | (with_reducible first | exact HB.out | apply below_alloc | apply pw_below_drewN | apply below_drew1) | exact HB.out)⟩
  · rw [if_neg c2] at H
    have c2b0 : decide (a0 < 128) = false := decide_eq_false c2
    clear c2
    obtain ⟨y180, hy180⟩ : ∃ y_ : List Int, y_ = (([(IntKind.u64.wrap (128 + (Int.tmod a0 128))) % 256] : List Int)) := ⟨_, rfl⟩
    replace H : ((quorateref01_Uint.f k (IntKind.u64.wrap (Int.tdiv a0 128))).bind fun t183 => (if y180.length + t183.length < 140737488355328 then (some (y180 ++ t183)) else (none))) = some r := by first | (rw [hy180]; with_reducible exact H) | (have H2_ := (Option.bind_some _ _).symm.trans H; rw [hy180]; with_reducible exact H2_) | (have H2_ := (Option.bind_some _ _).symm.trans H; with_reducible exact H2_) | with_reducible exact H | (rw [hy180]; exact H) | exact H
    have Ny180 := Aside0.mk hy180
    clear hy180
    replace H := Option.bind_eq_some_iff.mp H
    obtain ⟨t183, A50, H⟩ := H
    replace H : (if y180.length + t183.length < 140737488355328 then (some (y180 ++ t183)) else (none)) = some r := H
    have A5 := Aside0.mk A50
    clear A50
    by_cases c6 : y180.length + t183.length < 140737488355328
    · rw [if_pos c6] at H
      have LMc6 := Aside0.mk c6
      clear c6
      obtain ⟨y186, hy186⟩ : ∃ y_ : List Int, y_ = (y180 ++ t183) := ⟨_, rfl⟩
      replace H : (some y186) = some r := by first | (rw [hy186]; with_reducible exact H) | (have H2_ := (Option.bind_some _ _).symm.trans H; rw [hy186]; with_reducible exact H2_) | (have H2_ := (Option.bind_some _ _).symm.trans H; with_reducible exact H2_) | with_reducible exact H | (rw [hy186]; exact H) | exact H
      have Ny186 := Aside0.mk hy186
      clear hy186
      obtain rfl := Option.some.inj H
      go_enter Tryd.func33, Tryd.ntmps33
      go_wp2_with (first | ((with_reducible refine gate_dst (N := 12) rfl ?_); refine Kd.R_lit (Kd.int .u8) _ 5 ?hg (N := 12) ?hd (xs := ([(IntKind.u64.wrap (128 + (Int.tmod a0 128))) % 256] : List Int)) (inner := [.int .u8 ((IntKind.u64.wrap (128 + (Int.tmod a0 128))) % 256)]) (ok := fun _ => True) (okp := fun _ => True) ?hr ?hp (fun _ hk => hk) trivial (Below.refl _ _) (Nat.le_refl _) (by simp) ?_; (case hd => rfl); (case hg => rfl); (case hr => first | (go_simp; done) | (go_simp; rfl)); (case hp => exact (Reps.one (show Kd.M (Kd.int .u8) _ _ _ ((IntKind.u64.wrap (128 + (Int.tmod a0 128))) % 256) [.int .u8 ((IntKind.u64.wrap (128 + (Int.tmod a0 128))) % 256)] from rfl) (Reps.none _ _))); intro v181 w7 ho8 hb hg_ hnew_; clear hg_ hnew_; (first | rw [← Ny180.out] at ho8 | (simp only [Int.reduceToNat] at ho8; rw [← Ny180.out] at ho8)); have n0_ := Aside0.mk (Kd.R_lower ho8 (below_size (by repeat (first | (with_reducible first | exact HB.out | apply below_alloc | apply pw_below_drewN | apply below_drew1) | exact HB.out)))); have n1_ := Aside0.mk (below_step (by repeat (first | (with_reducible first | exact HB.out | apply below_alloc | apply pw_below_drewN | apply below_drew1) | exact HB.out)) hb); clear HB; have HO182 := n0_; have HB := n1_; clear n0_ n1_; clear hb ho8) | ((with_reducible refine gate_callee (f := 33) rfl ?_); refine goesL_ (some 15) rfl rfl Tryd.func33 (by kernel_rfl) rfl #[.int .u64 (IntKind.u64.wrap (Int.tdiv a0 128))] rfl (by (try simp only [List.map_toArray, List.map_cons, List.map_nil]); first | done | rfl | (simp only [List.length_drop, List.length_take]; rfl)) ?_; (with_reducible refine (ih k (by omega) (IntKind.u64.wrap (Int.tdiv a0 128)) t183 _ A5.out).mono ?_); rintro e w9 ⟨v184, rfl, ho0, hb⟩; refine ⟨_, rfl, ?_⟩; have n0_ := Aside0.mk (Kd.R_elder' (by (with_reducible repeat (first | apply Kd.R_alloc | apply Kd.R_drewN | apply Kd.R_drew)); exact HO182.out) (Kd.R_base ho0) hb); have n1_ := Aside0.mk (Kd.R_lower (Kd.R_new' ho0 (Kd.R_lt (by (with_reducible repeat (first | apply Kd.R_alloc | apply Kd.R_drewN | apply Kd.R_drew)); exact HO182.out))) (below_size (by repeat (first | (with_reducible first | exact HB.out | apply below_alloc | apply pw_below_drewN | apply below_drew1) | exact HB.out)))); have n2_ := Aside0.mk (below_step (by repeat (first | (with_reducible first | exact HB.out | apply below_alloc | apply pw_below_drewN | apply below_drew1) | exact HB.out)) hb); clear HO182; clear HB; have HO182 := n0_; have HO185 := n1_; have HB := n2_; clear n0_ n1_ n2_; (try clear hb); (try clear hb2); (try clear hk); (try clear hi); (try clear ho0); obtain ⟨Ao11, co11, eo11⟩ := Kd.R_slice HO185.out; subst eo11) | ((with_reducible refine gate_builtin (b := .append) (xs := #[.tmp 12, .tmp 15]) rfl ?_); at_builtin; refine Kd.R_append_rows (Kd.int .u8) (w0 := w) w.heap.size rfl (.tmp 12) (.tmp 15) 27 5 (.int .u8 0) 1 rfl Tryd.underlying27 info5 rfl (by decide) (by omega) v181 y180 t183 _ _ _ (fun k_ => some k_ ≠ (.slice Ao11 t183.length co11 : Value).ownBlock) (fun _ => False) rfl rfl ?aO ?aR (fun _ _ h => h) (fun _ h => h.elim) ?aF ?aB ?aS ?aL ?_; (case aR => repeat (first | exact (Kd.R_reads' HO185.out).2.2 | (with_reducible refine Kd.C_alloc ?_ _) | (with_reducible refine Kd.C_drewN ?_ _) | (with_reducible refine Kd.C_drew ?_))); (case aB => exact (by repeat (first | (with_reducible first | exact HB.out | apply below_alloc | apply pw_below_drewN | apply below_drew1) | exact HB.out))); (case aF => exact (fun k_ hk => Kd.fresh' (Kd.R_lt (by (with_reducible repeat (first | apply Kd.R_alloc | apply Kd.R_drewN | apply Kd.R_drew)); exact HO185.out)) k_ hk)); (case aO => exact (by (with_reducible repeat (first | apply Kd.R_alloc | apply Kd.R_drewN | apply Kd.R_drew)); exact Kd.R_mono HO182.out (fun _ hk => hk.2))); (case aS => exact (below_size (by repeat (first | (with_reducible first | exact HB.out | apply below_alloc | apply pw_below_drewN | apply below_drew1) | exact HB.out)))); (case aL => have := LMc6.out; omega); intro v187 w10 ho hb hg hat; rw [← Ny186.out] at ho; have n0_ := Aside0.mk (Kd.R_after (ok := (fun _ => True)) (by (with_reducible repeat (first | apply Kd.R_alloc | apply Kd.R_drewN | apply Kd.R_drew)); exact HO185.out) hg hat); have n1_ := Aside0.mk (hb); have n2_ := Aside0.mk (ho); clear HO185; clear HB; clear HO182; have HO185 := n0_; have HB := n1_; have HO188 := n2_; clear n0_ n1_ n2_; clear ho hb hg hat))
      go_ret
      exact ⟨_, by first | rfl | (simp [errW_none, errW_some] <;> rfl) | (simp [*, errW_none, errW_some] <;> rfl), by (with_reducible repeat (first | apply Kd.R_alloc | apply Kd.R_drewN | apply Kd.R_drew)); exact Kd.R_mono HO188.out (fun _ hk => trivial), by repeat (first | (with_reducible first | exact HB.out | apply below_alloc | apply pw_below_drewN | apply below_drew1) | exact HB.out)⟩
    · rw [if_neg c6] at H
      exact absurd H (by simp)
def quorateref01_same.f (l0 : List Int) (l1 : List Int) : Option (Bool) := some ((strOfNums l0).toList == (strOfNums l1).toList)
set_option maxHeartbeats 8000000 in
set_option maxRecDepth 100000 in
theorem quorateref01_same.calls (A0 : Option Addr) (c0 : Nat) (l0 : List Int) (A1 : Option Addr) (c1 : Nat) (l1 : List Int) (r : Bool) (w : World) (hr0 : Kd.C (Kd.int .u8) w A0 l0.length l0) (hc0 : l0.length ≤ c0) (hr1 : Kd.C (Kd.int .u8) w A1 l1.length l1) (hc1 : l1.length ≤ c1) (h : quorateref01_same.f l0 l1 = some r) :
    Calls Tryd.prog 70 #[.slice A0 l0.length c0, .slice A1 l1.length c1] w fun e w' => e = .returned (.bool r) ∧ Drawn0 w w' := by
  have HR0 := Aside0.mk hr0
  have HC0 := Aside0.mk hc0
  clear hr0 hc0
  have HR1 := Aside0.mk hr1
  have HC1 := Aside0.mk hc1
  clear hr1 hc1
  have H : (some ((strOfNums l0).toList == (strOfNums l1).toList)) = some r := h
  clear h
  obtain rfl := Option.some.inj H
  have hcv3 := Kd.C_string (P := Tryd.prog) (A := A0) (c := c0) Tryd.underlying27 Tryd.underlying5 Tryd.underlying9 HR0.out
  have hcv4 := Kd.C_string (P := Tryd.prog) (A := A1) (c := c1) Tryd.underlying27 Tryd.underlying5 Tryd.underlying9 HR1.out
  go_enter Tryd.func70, Tryd.ntmps70
  go_wp2
  go_ret
  exact ⟨by first | rfl | (simp; done) | (simp [*]; done), by repeat (first | exact Drawn0.refl _ | apply Drawn0.step)⟩
end Go.Proofs.YtfkfboigkpofkaaDoor.PMsgTakes
end
section
namespace Go.Proofs.YtfkfboigkpofkaaDoor.PMsgTakes
open Go.RowKit Go.Proofs.YtfkfboigkpofkaaDoorW.PrintWords Go.Proofs.YtfkfboigkpofkaaDoorW.PrintLast Go.Proofs.YtfkfboigkpofkaaDoorW.PrintMore
attribute [local go_sem] max2_int min2_int max_two min_two max_three min_three max_four min_four
set_option linter.unusedVariables false
set_option linter.unusedSimpArgs false
mutual
def quorateref01_Take.j1 : Nat → List Int → Int → Option (Int × Int × Int)
  | 0, _, _ => none
  | k + 1, x0, x5 => if x5 = 10 then (quorateref01_Take.j2 k x0 x5 true) else (if x5 = 9 then (if x5 < (x0.length : Int) then (if 9 < (x0.length : Int) then (quorateref01_Take.j2 k x0 x5 (decide ((rd x0 9) > 1))) else (none)) else (quorateref01_Take.j2 k x0 x5 false)) else (quorateref01_Take.j2 k x0 x5 false))
def quorateref01_Take.j2 : Nat → List Int → Int → Bool → Option (Int × Int × Int)
  | 0, _, _, _ => none
  | k + 1, x0, x5, x42 => if x42 = true then (some (0, 0, 11)) else (if x5 = (x0.length : Int) then (some (0, 0, 10)) else (quorateref01_Take.l1 k x0 x5 0 x5))
def quorateref01_Take.l1 : Nat → List Int → Int → Int → Int → Option (Int × Int × Int)
  | 0, _, _, _, _ => none
  | k + 1, x0, x5, x6, x7 => if x7 ≥ 0 then (if 0 ≤ x7 then (if x7 < (x0.length : Int) then (quorateref01_Take.l1 k x0 x5 (Go.bits .or .u64 (IntKind.u64.wrap (x6 * 128)) (IntKind.u64.wrap (Go.bits .and .u8 (rd x0 x7) 127))) (wrap64 (x7 - 1))) else (none)) else (none)) else ((quorateref01_Uint.f k x6).bind fun t192 => (if 0 ≤ (wrap64 (x5 + 1)) then (if (wrap64 (x5 + 1)) ≤ (x0.length : Int) then ((quorateref01_same.f t192 (x0.take ((wrap64 (x5 + 1)) : Int).toNat)).bind fun t196 => (if t196 = true then (some (x6, wrap64 (x5 + 1), 0)) else (some (0, 0, 11)))) else (none)) else (none)))
def quorateref01_Take.l0 : Nat → List Int → Int → Option (Int × Int × Int)
  | 0, _, _ => none
  | k + 1, x0, x5 => if x5 < (x0.length : Int) then (if x5 < 10 then (if 0 ≤ x5 then (if (rd x0 x5) ≥ 128 then (quorateref01_Take.l0 k x0 (wrap64 (x5 + 1))) else (quorateref01_Take.j1 k x0 x5)) else (none)) else (quorateref01_Take.j1 k x0 x5)) else (quorateref01_Take.j1 k x0 x5)
end
def quorateref01_Take.f (k : Nat) (l0 : List Int) : Option (Int × Int × Int) := quorateref01_Take.l0 k l0 0
def quorateref01_Take.T13 : Bool × List (List Nat × List Nat) := (true, [([], []), ([0], [0]), ([], []), ([], []), ([3], [3]), ([2, 4], [2, 4]), ([1, 5, 1], [1, 5]), ([6], [6])])
def quorateref01_Take.B13 : List Nat := [0, 1, 0, 0, 8, 28, 63, 127]
theorem quorateref01_Take.tab13 : rtab .any (opsOf Tryd.f64 13) = quorateref01_Take.T13 := by kernel_rfl
theorem quorateref01_Take.bits13 : waitsOk quorateref01_Take.T13.2 quorateref01_Take.B13 = true := by kernel_rfl
set_option maxHeartbeats 8000000 in
set_option maxRecDepth 100000 in
theorem quorateref01_Take.calls (k : Nat) (A0 : Option Addr) (c0 : Nat) (l0 : List Int) (r1 : Int) (r2 : Int) (r3 : Int) (w : World) (hr0 : Kd.C (Kd.int .u8) w A0 l0.length l0) (hc0 : l0.length ≤ c0) (h : quorateref01_Take.f k l0 = some (r1, r2, r3)) :
    Calls Tryd.prog 64 #[.slice A0 l0.length c0] w fun e w' => e = .returned (.tuple #[.int .u64 r1, .int .i64 r2, .int .i64 r3]) ∧ Below w.heap.size w w' := by
  have HR0 := Aside0.mk hr0
  have HC0 := Aside0.mk hc0
  clear hr0 hc0
  have HB := Aside0.mk (Below.refl w.heap.size w)
  have H : (quorateref01_Take.l0 k l0 0) = some (r1, r2, r3) := h
  clear h
  have HC2 := Aside0.mk H
  clear H
  go_enter Tryd.func64, Tryd.ntmps64
  go_upto_block 0 with (fail)
  go_cut [5] (fun v5 wc => ∃ (kq : Nat) (x5_1 : Int), v5 = .int .i64 x5_1 ∧ Aside0 (quorateref01_Take.j1 kq l0 x5_1 = some (r1, r2, r3)) ∧ Aside0 (kq ≤ k) ∧ Aside0 (Below w.heap.size w wc))
  case first =>
    have H := HC2.out
    clear HC2
    have H' := Aside0.mk H
    clear H
    go_wp2
    go_loopg [5] k (fun kq v5 w' => ∃ (x5_1 : Int), v5 = .int .i64 x5_1 ∧ Aside0 (quorateref01_Take.l0 kq l0 x5_1 = some (r1, r2, r3)) ∧ Aside0 (kq ≤ k) ∧ Aside0 (Below w.heap.size w w'))
    case atStart => exact ⟨(0), (by first | rfl | (simp; done) | (simp [*]; done)), H', ⟨Nat.le_refl _⟩, ⟨by repeat (first | (with_reducible first | exact HB.out | apply below_alloc | apply pw_below_drewN | apply below_drew1) | exact HB.out)⟩⟩
    case round =>
      clear H'
      try clear p2
      obtain ⟨x5_1, rfl, HA, HK1, HB⟩ := hrel
      cases gk with
      | zero => exact absurd HA.out (by simp [quorateref01_Take.l0])
      | succ k1 =>
        have H := HA.out
        clear HA
        simp only [quorateref01_Take.l0] at H
        by_cases c3 : x5_1 < (l0.length : Int)
        · rw [if_pos c3] at H
          have c3b0 : decide (x5_1 < (l0.length : Int)) = true := decide_eq_true c3
          clear c3
          (first | rw [c3b0] | (simp only [i64_w, i32_w]; rw [c3b0]) | skip)
          by_cases c4 : x5_1 < 10
          · rw [if_pos c4] at H
            have c4b0 : decide (x5_1 < 10) = true := decide_eq_true c4
            clear c4
            by_cases c5 : 0 ≤ x5_1
            · rw [if_pos c5] at H
              have c5b0 : decide (0 ≤ x5_1) = true := decide_eq_true c5
              clear c5
              by_cases c6 : (rd l0 x5_1) ≥ 128
              · rw [if_pos c6] at H
                have c6b0 : decide (128 ≤ (rd l0 x5_1)) = true := decide_eq_true c6
                clear c6
                have H' := Aside0.mk H
                clear H
                have p189 : 0 ≤ (x5_1 : Int) := of_decide_eq_true (by first | (with_reducible assumption) | assumption)
                have q189 : x5_1 < (l0.length : Int) := of_decide_eq_true (by first | (with_reducible assumption) | assumption)
                obtain ⟨ad189, e189, hx189_0⟩ := Kd.at_int HR0.out x5_1 p189 q189
                cases e189
                replace hx189_0 := (HB.out.cell (World.block_lt_of_cell? w _ hx189_0)).trans hx189_0
                replace p189 := eq_true p189
                replace q189 := eq_true q189
                go_wp2
                go_roundg k1
                case measure => have := HK1.out; omega
                case rel => exact ⟨(wrap64 (x5_1 + 1)), (by first | rfl | (simp; done) | (simp [*]; done)), H', ⟨by have := HK1.out; omega⟩, ⟨by repeat (first | (with_reducible first | exact HB.out | apply below_alloc | apply pw_below_drewN | apply below_drew1) | exact HB.out)⟩⟩
              · rw [if_neg c6] at H
                have c6b0 : decide (128 ≤ (rd l0 x5_1)) = false := decide_eq_false c6
                clear c6
                have H' := Aside0.mk H
                clear H
                have p189 : 0 ≤ (x5_1 : Int) := of_decide_eq_true (by first | (with_reducible assumption) | assumption)
                have q189 : x5_1 < (l0.length : Int) := of_decide_eq_true (by first | (with_reducible assumption) | assumption)
                obtain ⟨ad189, e189, hx189_0⟩ := Kd.at_int HR0.out x5_1 p189 q189
                cases e189
                replace hx189_0 := (HB.out.cell (World.block_lt_of_cell? w _ hx189_0)).trans hx189_0
                replace p189 := eq_true p189
                replace q189 := eq_true q189
                go_wp2
                go_meet
                case rel => exact ⟨_, (x5_1), (by first | rfl | (simp; done) | (simp [*]; done)), H', ⟨by have := HK1.out; first | omega | exact Nat.le_refl _⟩, ⟨by repeat (first | (with_reducible first | exact HB.out | apply below_alloc | apply pw_below_drewN | apply below_drew1) | exact HB.out)⟩⟩
            · rw [if_neg c5] at H
              exact absurd H (by simp)
          · rw [if_neg c4] at H
            have c4b0 : decide (x5_1 < 10) = false := decide_eq_false c4
            clear c4
            have H' := Aside0.mk H
            clear H
            go_wp2
            go_meet
            case rel => exact ⟨_, (x5_1), (by first | rfl | (simp; done) | (simp [*]; done)), H', ⟨by have := HK1.out; first | omega | exact Nat.le_refl _⟩, ⟨by repeat (first | (with_reducible first | exact HB.out | apply below_alloc | apply pw_below_drewN | apply below_drew1) | exact HB.out)⟩⟩
        · rw [if_neg c3] at H
          have c3b0 : decide (x5_1 < (l0.length : Int)) = false := decide_eq_false c3
          clear c3
          (first | rw [c3b0] | (simp only [i64_w, i32_w]; rw [c3b0]) | skip)
          have H' := Aside0.mk H
          clear H
          go_wp2
          go_meet
          case rel => exact ⟨_, (x5_1), (by first | rfl | (simp; done) | (simp [*]; done)), H', ⟨by have := HK1.out; first | omega | exact Nat.le_refl _⟩, ⟨by repeat (first | (with_reducible first | exact HB.out | apply below_alloc | apply pw_below_drewN | apply below_drew1) | exact HB.out)⟩⟩
  case rest =>
    clear HC2
    try clear p1
    try clear q1
    try clear hx1
    try clear p2
    try clear c3
    try clear c3b0
    try clear c4
    try clear c4b0
    try clear c5
    try clear c5b0
    try clear c6
    try clear c6b0
    try clear p6
    try clear hx189_0
    try clear p189
    try clear p2
    try clear q189
    obtain ⟨kq, x5_1, rfl, HA, HJ1, HB⟩ := hcut
    cases kq with
    | zero => exact absurd HA.out (by simp [quorateref01_Take.j1])
    | succ kj1 =>
      have H := HA.out
      clear HA
      simp only [quorateref01_Take.j1] at H
      have HC7 := Aside0.mk H
      clear H
      go_upto_region 4 with (fail)
      go_cut [42] (fun v42 wc => ∃ (kq : Nat) (x42_6 : Bool), v42 = .bool x42_6 ∧ Aside0 (quorateref01_Take.j2 kq l0 x5_1 x42_6 = some (r1, r2, r3)) ∧ Aside0 (kq ≤ kj1) ∧ Aside0 (Below w.heap.size w wc))
      case first =>
        have H := HC7.out
        clear HC7
        by_cases c8 : x5_1 = 10
        · rw [if_pos c8] at H
          have c8b0 : (x5_1 == 10) = true := beq_iff_eq.mpr c8
          have c8b1 : (x5_1 != 10) = false := bne_eq_false_iff_eq.mpr c8
          clear c8
          (first | rw [c8b0] | (simp only [i64_w, i32_w]; rw [c8b0]) | skip)
          have H' := Aside0.mk H
          clear H
          go_wp2
          go_meet
          case rel => exact ⟨_, (true), (by first | rfl | (simp; done) | (simp [*]; done)), H', ⟨by have := HJ1.out; first | omega | exact Nat.le_refl _⟩, ⟨by repeat (first | (with_reducible first | exact HB.out | apply below_alloc | apply pw_below_drewN | apply below_drew1) | exact HB.out)⟩⟩
        · rw [if_neg c8] at H
          have c8b0 : (x5_1 == 10) = false := beq_eq_false_iff_ne.mpr c8
          have c8b1 : (x5_1 != 10) = true := bne_iff_ne.mpr c8
          (first | rw [c8b0] | (simp only [i64_w, i32_w]; rw [c8b0]) | skip)
          by_cases c9 : x5_1 = 9
          · rw [if_pos c9] at H
            have c9b0 : (x5_1 == 9) = true := beq_iff_eq.mpr c9
            have c9b1 : (x5_1 != 9) = false := bne_eq_false_iff_eq.mpr c9
            clear c9
            by_cases c10 : x5_1 < (l0.length : Int)
            · rw [if_pos c10] at H
              have c10b0 : decide (x5_1 < (l0.length : Int)) = true := decide_eq_true c10
              clear c10
              by_cases c11 : 9 < (l0.length : Int)
              · rw [if_pos c11] at H
                have c11b0 : decide (9 < (l0.length : Int)) = true := decide_eq_true c11
                have c11b1 : decide (9 < l0.length) = true := decide_eq_true (by omega)
                clear c11
                have H' := Aside0.mk H
                clear H
                have p190 : 0 ≤ (9 : Int) := (by omega)
                have q190 : 9 < (l0.length : Int) := of_decide_eq_true (by first | (with_reducible assumption) | assumption)
                obtain ⟨ad190, e190, hx190_0⟩ := Kd.at_int HR0.out 9 p190 q190
                cases e190
                (try simp only [show (9 : Int).toNat = 9 from rfl, Nat.reduceMul, Nat.reduceEqDiff, Go.Addr.add, ↓reduceIte] at hx190_0)
                have qi190 : (9 < l0.length) = True := eq_true (by omega)
                (try rw [show ((9 : Int)).toNat = 9 from rfl] at hx190_0)
                replace hx190_0 := (HB.out.cell (World.block_lt_of_cell? w _ hx190_0)).trans hx190_0
                replace p190 := eq_true p190
                replace q190 := eq_true q190
                go_wp2
                go_meet
                case rel => exact ⟨_, (decide ((rd l0 9) > 1)), (by first | rfl | (simp; done) | (simp [*]; done)), H', ⟨by have := HJ1.out; first | omega | exact Nat.le_refl _⟩, ⟨by repeat (first | (with_reducible first | exact HB.out | apply below_alloc | apply pw_below_drewN | apply below_drew1) | exact HB.out)⟩⟩
              · rw [if_neg c11] at H
                exact absurd H (by simp)
            · rw [if_neg c10] at H
              have c10b0 : decide (x5_1 < (l0.length : Int)) = false := decide_eq_false c10
              clear c10
              have H' := Aside0.mk H
              clear H
              go_wp2
              go_meet
              case rel => exact ⟨_, (false), (by first | rfl | (simp; done) | (simp [*]; done)), H', ⟨by have := HJ1.out; first | omega | exact Nat.le_refl _⟩, ⟨by repeat (first | (with_reducible first | exact HB.out | apply below_alloc | apply pw_below_drewN | apply below_drew1) | exact HB.out)⟩⟩
          · rw [if_neg c9] at H
            have c9b0 : (x5_1 == 9) = false := beq_eq_false_iff_ne.mpr c9
            have c9b1 : (x5_1 != 9) = true := bne_iff_ne.mpr c9
            have H' := Aside0.mk H
            clear H
            go_wp2
            go_meet
            case rel => exact ⟨_, (false), (by first | rfl | (simp; done) | (simp [*]; done)), H', ⟨by have := HJ1.out; first | omega | exact Nat.le_refl _⟩, ⟨by repeat (first | (with_reducible first | exact HB.out | apply below_alloc | apply pw_below_drewN | apply below_drew1) | exact HB.out)⟩⟩
      case rest =>
        clear HC7
        try clear c1
        try clear p1
        try clear q1
        try clear hx1
        try clear qi1
        try clear p2
        try clear c3
        try clear c3b0
        try clear c4
        try clear c4b0
        try clear c5
        try clear c5b0
        try clear c6
        try clear c6b0
        try clear p6
        try clear c8
        try clear c8b0
        try clear c8b1
        try clear c9
        try clear c9b0
        try clear c9b1
        try clear c10
        try clear c10b0
        try clear c11
        try clear c11b0
        try clear c11b1
        try clear hx189_0
        try clear hx190_0
        try clear p1
        try clear p189
        try clear p190
        try clear p2
        try clear p6
        try clear q1
        try clear q189
        try clear q190
        obtain ⟨kq, x42_6, rfl, HA, HJ6, HB⟩ := hcut
        cases kq with
        | zero => exact absurd HA.out (by simp [quorateref01_Take.j2])
        | succ kj6 =>
          have H := HA.out
          clear HA
          simp only [quorateref01_Take.j2] at H
          by_cases c12 : x42_6 = true
          · subst c12
            have H1 : (some (0, 0, 11)) = some (r1, r2, r3) := by rw [if_pos rfl] at H; exact H
            clear H
            have H := H1
            clear H1
            simp only [Option.some.injEq, Prod.mk.injEq] at H
            obtain ⟨rfl, rfl, rfl⟩ := H
            go_wp2
            go_ret3
            exact ⟨by first | rfl | (simp [errW_none, errW_some] <;> rfl) | (simp [*, errW_none, errW_some] <;> rfl), by repeat (first | (with_reducible first | exact HB.out | apply below_alloc | apply pw_below_drewN | apply below_drew1) | exact HB.out)⟩
          · replace c12 := Bool.eq_false_iff.mpr c12
            subst c12
            have H1 : (if x5_1 = (l0.length : Int) then (some (0, 0, 10)) else (quorateref01_Take.l1 kj6 l0 x5_1 0 x5_1)) = some (r1, r2, r3) := by rw [if_neg (show ¬ (false = true) by decide)] at H; exact H
            clear H
            have H := H1
            clear H1
            by_cases c13 : x5_1 = (l0.length : Int)
            · rw [if_pos c13] at H
              have c13b0 : (x5_1 == (l0.length : Int)) = true := beq_iff_eq.mpr c13
              have c13b1 : (x5_1 != (l0.length : Int)) = false := bne_eq_false_iff_eq.mpr c13
              clear c13
              simp only [Option.some.injEq, Prod.mk.injEq] at H
              obtain ⟨rfl, rfl, rfl⟩ := H
              go_wp2
              go_ret3
              exact ⟨by first | rfl | (simp [errW_none, errW_some] <;> rfl) | (simp [*, errW_none, errW_some] <;> rfl), by repeat (first | (with_reducible first | exact HB.out | apply below_alloc | apply pw_below_drewN | apply below_drew1) | exact HB.out)⟩
            · rw [if_neg c13] at H
              have c13b0 : (x5_1 == (l0.length : Int)) = false := beq_eq_false_iff_ne.mpr c13
              have c13b1 : (x5_1 != (l0.length : Int)) = true := bne_iff_ne.mpr c13
              have H' := Aside0.mk H
              clear H
              go_wp2
              go_loopg [6, 7] kj6 (fun kq v6 v7 w' => ∃ (x6_3 : Int) (x7_3 : Int), v6 = .int .u64 x6_3 ∧ v7 = .int .i64 x7_3 ∧ Aside0 (quorateref01_Take.l1 kq l0 x5_1 x6_3 x7_3 = some (r1, r2, r3)) ∧ Aside0 (kq ≤ kj6) ∧ Aside0 (Below w.heap.size w w'))
              case atStart => exact ⟨(0), (x5_1), (by first | rfl | (simp; done) | (simp [*]; done)), (by first | rfl | (simp; done) | (simp [*]; done)), H', ⟨Nat.le_refl _⟩, ⟨by repeat (first | (with_reducible first | exact HB.out | apply below_alloc | apply pw_below_drewN | apply below_drew1) | exact HB.out)⟩⟩
              case round =>
                clear H'
                try clear c1
                try clear p1
                try clear q1
                try clear hx1
                try clear qi1
                try clear p2
                try clear c3
                try clear c3b0
                try clear c4
                try clear c4b0
                try clear c5
                try clear c5b0
                try clear c6
                try clear c6b0
                try clear p6
                try clear c8
                try clear c8b0
                try clear c8b1
                try clear c9
                try clear c9b0
                try clear c9b1
                try clear c10
                try clear c10b0
                try clear c11
                try clear c11b0
                try clear c11b1
                try clear c12
                try clear c13
                try clear c13b0
                try clear c13b1
                try clear hx189_0
                try clear hx190_0
                try clear p1
                try clear p189
                try clear p190
                try clear p2
                try clear p6
                try clear q1
                try clear q189
                try clear q190
                obtain ⟨x6_3, x7_3, rfl, rfl, HA, HK3, HB⟩ := hrel
                cases gk with
                | zero => exact absurd HA.out (by simp [quorateref01_Take.l1])
                | succ k3 =>
                  have H := HA.out
                  clear HA
                  simp only [quorateref01_Take.l1] at H
                  by_cases c14 : x7_3 ≥ 0
                  · rw [if_pos c14] at H
                    have c14b0 : decide (0 ≤ x7_3) = true := decide_eq_true c14
                    clear c14
                    by_cases c15 : 0 ≤ x7_3
                    · rw [if_pos c15] at H
                      have c15b0 : decide (0 ≤ x7_3) = true := decide_eq_true c15
                      clear c15
                      by_cases c16 : x7_3 < (l0.length : Int)
                      · rw [if_pos c16] at H
                        have c16b0 : decide (x7_3 < (l0.length : Int)) = true := decide_eq_true c16
                        clear c16
                        have H' := Aside0.mk H
                        clear H
                        have p191 : 0 ≤ (x7_3 : Int) := of_decide_eq_true (by first | (with_reducible assumption) | assumption)
                        have q191 : x7_3 < (l0.length : Int) := of_decide_eq_true (by first | (with_reducible assumption) | assumption)
                        obtain ⟨ad191, e191, hx191_0⟩ := Kd.at_int HR0.out x7_3 p191 q191
                        cases e191
                        replace hx191_0 := (HB.out.cell (World.block_lt_of_cell? w _ hx191_0)).trans hx191_0
                        replace p191 := eq_true p191
                        replace q191 := eq_true q191
                        go_wp2
                        go_roundg k3
                        case measure => have := HJ1.out; have := HJ6.out; have := HK3.out; omega
                        case rel => exact ⟨(Go.bits .or .u64 (IntKind.u64.wrap (x6_3 * 128)) (IntKind.u64.wrap (Go.bits .and .u8 (rd l0 x7_3) 127))), (wrap64 (x7_3 - 1)), (by first | rfl | (simp; done) | (simp [*]; done)), (by first | rfl | (simp; done) | (simp [*]; done)), H', ⟨by have := HJ1.out; have := HJ6.out; have := HK3.out; omega⟩, ⟨by repeat (first | (with_reducible first | exact HB.out | apply below_alloc | apply pw_below_drewN | apply below_drew1) | exact HB.out)⟩⟩
                      · rw [if_neg c16] at H
                        exact absurd H (by simp)
                    · rw [if_neg c15] at H
                      exact absurd H (by simp)
                  · rw [if_neg c14] at H
                    have c14b0 : decide (0 ≤ x7_3) = false := decide_eq_false c14
                    clear c14
                    replace H := Option.bind_eq_some_iff.mp H
                    obtain ⟨t192, A170, H⟩ := H
                    replace H : (if 0 ≤ (wrap64 (x5_1 + 1)) then (if (wrap64 (x5_1 + 1)) ≤ (l0.length : Int) then ((quorateref01_same.f t192 (l0.take ((wrap64 (x5_1 + 1)) : Int).toNat)).bind fun t196 => (if t196 = true then (some (x6_3, wrap64 (x5_1 + 1), 0)) else (some (0, 0, 11)))) else (none)) else (none)) = some (r1, r2, r3) := H
                    have A17 := Aside0.mk A170
                    clear A170
                    obtain ⟨ji18, hji18⟩ : ∃ j_ : Int, (wrap64 (x5_1 + 1)) = j_ := ⟨_, rfl⟩
                    replace H : (if 0 ≤ (ji18) then (if (ji18) ≤ (l0.length : Int) then ((quorateref01_same.f t192 (l0.take ((ji18) : Int).toNat)).bind fun t196 => (if t196 = true then (some (x6_3, ji18, 0)) else (some (0, 0, 11)))) else (none)) else (none)) = some (r1, r2, r3) := by first | (rw [hji18] at H; exact H) | (simp only [hji18] at H ⊢; exact H)
                    (try rw [hji18] at A17)
                    have hji18w : (IntKind.i64.wrap (x5_1 + 1)) = ji18 := (i64_w _).trans hji18
                    by_cases c19 : 0 ≤ (ji18)
                    · rw [if_pos c19] at H
                      have c19b0 := eq_true c19
                      have c19b1 : decide (0 ≤ (ji18)) = true := decide_eq_true c19
                      clear c19
                      by_cases c20 : (ji18) ≤ (l0.length : Int)
                      · rw [if_pos c20] at H
                        have c20b0 := eq_true c20
                        have c20b1 : decide ((ji18) ≤ (l0.length : Int)) = true := decide_eq_true c20
                        clear c20
                        replace H := Option.bind_eq_some_iff.mp H
                        obtain ⟨t196, A210, H⟩ := H
                        replace H : (if t196 = true then (some (x6_3, ji18, 0)) else (some (0, 0, 11))) = some (r1, r2, r3) := H
                        have A21 := Aside0.mk A210
                        clear A210
                        by_cases c22 : t196 = true
                        · subst c22
                          have H1 : (some (x6_3, ji18, 0)) = some (r1, r2, r3) := by rw [if_pos rfl] at H; exact H
                          clear H
                          have H := H1
                          clear H1
                          simp only [Option.some.injEq, Prod.mk.injEq] at H
                          obtain ⟨rfl, rfl, rfl⟩ := H
                          try go_wp2
                          have n0_ := Aside0.mk (below_drew1 HB.out)
                          clear HB
                          have HB := n0_
                          clear n0_
                          obtain ⟨i024, hi024, _, hsz24, _⟩ := info_parts info5
                          obtain ⟨hcut24, hA24, hC24⟩ := print_take_of (P := Tryd.prog) (Value.int .u8) 0 27 5 .i64 Tryd.underlying27 hi024 hsz24 A0 c0 l0 (ji18) (of_decide_eq_true (by first | (with_reducible assumption) | assumption)) (of_decide_eq_true (by first | (with_reducible assumption) | assumption)) HC0.out
                          have HR195 := Aside0.mk (Kd.C_of_reads (h1 := fun _ => rfl) (hA24 _ (Kd.reads_of_C HR0.out)))
                          have HC195 := Aside0.mk hC24
                          clear hA24 hC24 hi024 hsz24
                          refine start_ (n := 8) (S := fun w' => True) (ds := []) #[false, false, false, false, false, false, false, false] (by kernel_rfl) rfl rfl trivial (fun hHeld => ?_); refine with_tabW quorateref01_Take.tab13 quorateref01_Take.bits13 (fun HT_ HW_ => ?_)
                          generalize wr.drew = w23 at HB HR195 hHeld ⊢
                          refine pure_ (i := 0) (N := some 61) (v := ?_) (a' := ?_) #[true, false, false, false, false, false, false, false] rfl rfl (any_of HT_.out (by kernel_rfl)) (fun _ _ _ h => h) (Or.inl ⟨by rfl, ?_⟩) ?_ ?_
                          rotate_left
                          · intro w'
                            go_simp
                            with_reducible rfl
                          rotate_left
                          · simp only [Act.put, List.setIfInBounds_toArray, List.set_cons_zero, List.set_cons_succ, i64_w, i32_w]
                            rfl
                          refine pure_ (i := 2) (N := some 63) (v := ?_) (a' := ?_) #[true, false, true, false, false, false, false, false] rfl rfl (any_of HT_.out (by kernel_rfl)) (fun _ _ _ h => h) (Or.inl ⟨by rfl, ?_⟩) ?_ ?_
                          rotate_left
                          · intro w'
                            go_simp
                            with_reducible rfl
                          rotate_left
                          · simp only [Act.put, List.setIfInBounds_toArray, List.set_cons_zero, List.set_cons_succ, i64_w, i32_w]
                            rfl
                          refine pure_ (i := 3) (N := some 64) (v := ?_) (a' := ?_) #[true, false, true, true, false, false, false, false] rfl rfl (any_of HT_.out (by kernel_rfl)) (fun _ _ _ h => h) (Or.inl ⟨by rfl, ?_⟩) ?_ ?_
                          rotate_left
                          · intro w'
                            go_simp
                            with_reducible rfl
                          rotate_left
                          · simp only [Act.put, List.setIfInBounds_toArray, List.set_cons_zero, List.set_cons_succ, i64_w, i32_w]
                            rfl
                          refine pure_ (i := 4) (N := some 65) (v := ?_) (a' := ?_) #[true, false, true, true, true, false, false, false] rfl rfl (any_of HT_.out (by kernel_rfl)) (fun _ _ _ h => h) (Or.inl ⟨by rfl, ?_⟩) ?_ ?_
                          rotate_left
                          · intro w'
                            go_simp
                            with_reducible rfl
                          rotate_left
                          · simp only [Act.put, List.setIfInBounds_toArray, List.set_cons_zero, List.set_cons_succ, i64_w, i32_w]
                            rfl
                          refine pure_ (i := 5) (N := some 66) (v := ?_) (a' := ?_) #[true, false, true, true, true, true, false, false] rfl rfl (any_of HT_.out (by kernel_rfl)) (fun _ _ _ h => h) (Or.inl ⟨by rfl, ?_⟩) ?_ ?_
                          rotate_left
                          · intro w'
                            go_simp
                            with_reducible rfl
                          rotate_left
                          · simp only [Act.put, List.setIfInBounds_toArray, List.set_cons_zero, List.set_cons_succ, i64_w, i32_w]
                            rfl
                          refine one_ (i := 1) (N := some 62) #[true, true, true, true, true, true, false, false] rfl rfl (one_of HT_.out (by kernel_rfl)) (by decide) (fun K hK => ?_)
                          refine goes_ Tryd.func33 (by kernel_rfl) rfl #[.int .u64 x6_3] (by rfl) rfl rfl (by (try simp only [List.map_toArray, List.map_cons, List.map_nil]); first | done | rfl | (simp only [List.length_drop, List.length_take]; rfl)) ?_
                          with_reducible refine (quorateref01_Uint.calls k3 x6_3 t192 _ A17.out).mono ?_
                          rintro e w25 ⟨v193, rfl, ho0, hb⟩
                          refine ⟨_, rfl, ?_⟩
                          have n0_ := Aside0.mk (Kd.R_lower ho0 (below_size (by repeat (first | (with_reducible first | exact HB.out | apply below_alloc | apply pw_below_drewN | apply below_drew1) | exact HB.out))))
                          have n1_ := Aside0.mk (below_step (by repeat (first | (with_reducible first | exact HB.out | apply below_alloc | apply pw_below_drewN | apply below_drew1) | exact HB.out)) hb)
                          clear HB
                          have HO194 := n0_
                          have HB := n1_
                          clear n0_ n1_
                          (try clear hb)
                          (try clear hb2)
                          (try clear hk)
                          (try clear hi)
                          (try clear ho0)
                          obtain ⟨Ao26, co26, eo26⟩ := Kd.R_slice HO194.out
                          (first | subst eo26 | (injection eo26 with f1_ f2_ f3_; have f4_ := f1_.symm; have f5_ := f3_.symm; clear f1_ f2_ f3_; subst f4_; subst f5_))
                          refine hK.out _ _ trivial (fun hHeld => ?_)
                          clear hK K
                          refine norm_ (a' := ?_) ?_ ?_
                          rotate_left
                          · show Act.put _ (some 62) _ = _
                            simp only [Act.put, List.setIfInBounds_toArray, List.set_cons_zero, List.set_cons_succ, i64_w, i32_w]
                            rfl
                          refine one_ (i := 6) (N := some 67) #[true, true, true, true, true, true, true, false] rfl rfl (one_of HT_.out (by kernel_rfl)) (by decide) (fun K hK => ?_)
                          refine goes_ Tryd.func70 (by kernel_rfl) rfl #[.slice Ao26 t192.length co26, .slice A0 (l0.take ((ji18) : Int).toNat).length c0] (by rfl) rfl rfl (by (try simp only [List.map_toArray, List.map_cons, List.map_nil]); first | done | (rw [show (l0.take ((ji18) : Int).toNat).length = (ji18).toNat from (by rw [List.length_take]; have h_ : ((ji18) : Int) ≤ (l0.length : Int) := of_decide_eq_true (by first | (with_reducible assumption) | assumption); omega)] <;> rfl) | (simp only [hji18]; rfl) | rfl | (simp only [List.length_drop, List.length_take]; rfl)) ?_
                          with_reducible refine (quorateref01_same.calls _ _ t192 _ _ (l0.take ((ji18) : Int).toNat) true _ ?side1 ?side2 ?side3 ?side4 A21.out).mono ?_
                          (case side1 => repeat (first | exact (Kd.R_reads' HO194.out).2.2 | (with_reducible refine Kd.C_alloc ?_ _) | (with_reducible refine Kd.C_drewN ?_ _) | (with_reducible refine Kd.C_drew ?_)))
                          (case side2 => exact (Kd.R_reads' HO194.out).2.1)
                          (case side3 => repeat (first | exact (Kd.C_below HR195.out HB.out) | (with_reducible refine Kd.C_alloc ?_ _) | (with_reducible refine Kd.C_drewN ?_ _) | (with_reducible refine Kd.C_drew ?_)))
                          (case side4 => exact HC195.out)
                          rintro e w' ⟨rfl, ⟨nd, rfl⟩⟩
                          refine ⟨_, rfl, ?_⟩
                          refine hK.out _ _ trivial (fun hHeld => ?_)
                          clear hK K
                          refine norm_ (a' := ?_) ?_ ?_
                          rotate_left
                          · show Act.put _ (some 67) _ = _
                            simp only [Act.put, List.setIfInBounds_toArray, List.set_cons_zero, List.set_cons_succ, i64_w, i32_w]
                            rfl
                          refine pure_ (i := 7) (N := some 68) (v := ?_) (a' := ?_) #[true, true, true, true, true, true, true, true] rfl rfl (any_of HT_.out (by kernel_rfl)) (fun _ _ _ h => h) (Or.inl ⟨by rfl, ?_⟩) ?_ ?_
                          rotate_left
                          · intro w'
                            go_simp
                            with_reducible rfl
                          rotate_left
                          · simp only [Act.put, List.setIfInBounds_toArray, List.set_cons_zero, List.set_cons_succ, i64_w, i32_w]
                            rfl
                          refine done_ (done_of HT_.out (by kernel_rfl)) ?_
                          try go_wp2
                          go_ret3
                          exact ⟨by first | rfl | (simp [errW_none, errW_some] <;> rfl) | (simp only [← hji18]; first | rfl | (simp [errW_none, errW_some] <;> rfl)) | (simp [*, errW_none, errW_some] <;> rfl), by repeat (first | (with_reducible first | exact HB.out | apply below_alloc | apply pw_below_drewN | apply below_drew1) | exact HB.out)⟩
                        · replace c22 := Bool.eq_false_iff.mpr c22
                          subst c22
                          have H1 : (some (0, 0, 11)) = some (r1, r2, r3) := by rw [if_neg (show ¬ (false = true) by decide)] at H; exact H
                          clear H
                          have H := H1
                          clear H1
                          simp only [Option.some.injEq, Prod.mk.injEq] at H
                          obtain ⟨rfl, rfl, rfl⟩ := H
                          try go_wp2
                          have n0_ := Aside0.mk (below_drew1 HB.out)
                          clear HB
                          have HB := n0_
                          clear n0_
                          obtain ⟨i028, hi028, _, hsz28, _⟩ := info_parts info5
                          obtain ⟨hcut28, hA28, hC28⟩ := print_take_of (P := Tryd.prog) (Value.int .u8) 0 27 5 .i64 Tryd.underlying27 hi028 hsz28 A0 c0 l0 (ji18) (of_decide_eq_true (by first | (with_reducible assumption) | assumption)) (of_decide_eq_true (by first | (with_reducible assumption) | assumption)) HC0.out
                          have HR195 := Aside0.mk (Kd.C_of_reads (h1 := fun _ => rfl) (hA28 _ (Kd.reads_of_C HR0.out)))
                          have HC195 := Aside0.mk hC28
                          clear hA28 hC28 hi028 hsz28
                          refine start_ (n := 8) (S := fun w' => True) (ds := []) #[false, false, false, false, false, false, false, false] (by kernel_rfl) rfl rfl trivial (fun hHeld => ?_); refine with_tabW quorateref01_Take.tab13 quorateref01_Take.bits13 (fun HT_ HW_ => ?_)
                          generalize wr.drew = w27 at HB HR195 hHeld ⊢
                          refine pure_ (i := 0) (N := some 61) (v := ?_) (a' := ?_) #[true, false, false, false, false, false, false, false] rfl rfl (any_of HT_.out (by kernel_rfl)) (fun _ _ _ h => h) (Or.inl ⟨by rfl, ?_⟩) ?_ ?_
                          rotate_left
                          · intro w'
                            go_simp
                            with_reducible rfl
                          rotate_left
                          · simp only [Act.put, List.setIfInBounds_toArray, List.set_cons_zero, List.set_cons_succ, i64_w, i32_w]
                            rfl
                          refine pure_ (i := 2) (N := some 63) (v := ?_) (a' := ?_) #[true, false, true, false, false, false, false, false] rfl rfl (any_of HT_.out (by kernel_rfl)) (fun _ _ _ h => h) (Or.inl ⟨by rfl, ?_⟩) ?_ ?_
                          rotate_left
                          · intro w'
                            go_simp
                            with_reducible rfl
                          rotate_left
                          · simp only [Act.put, List.setIfInBounds_toArray, List.set_cons_zero, List.set_cons_succ, i64_w, i32_w]
                            rfl
                          refine pure_ (i := 3) (N := some 64) (v := ?_) (a' := ?_) #[true, false, true, true, false, false, false, false] rfl rfl (any_of HT_.out (by kernel_rfl)) (fun _ _ _ h => h) (Or.inl ⟨by rfl, ?_⟩) ?_ ?_
                          rotate_left
                          · intro w'
                            go_simp
                            with_reducible rfl
                          rotate_left
                          · simp only [Act.put, List.setIfInBounds_toArray, List.set_cons_zero, List.set_cons_succ, i64_w, i32_w]
                            rfl
                          refine pure_ (i := 4) (N := some 65) (v := ?_) (a' := ?_) #[true, false, true, true, true, false, false, false] rfl rfl (any_of HT_.out (by kernel_rfl)) (fun _ _ _ h => h) (Or.inl ⟨by rfl, ?_⟩) ?_ ?_
                          rotate_left
                          · intro w'
                            go_simp
                            with_reducible rfl
                          rotate_left
                          · simp only [Act.put, List.setIfInBounds_toArray, List.set_cons_zero, List.set_cons_succ, i64_w, i32_w]
                            rfl
                          refine pure_ (i := 5) (N := some 66) (v := ?_) (a' := ?_) #[true, false, true, true, true, true, false, false] rfl rfl (any_of HT_.out (by kernel_rfl)) (fun _ _ _ h => h) (Or.inl ⟨by rfl, ?_⟩) ?_ ?_
                          rotate_left
                          · intro w'
                            go_simp
                            with_reducible rfl
                          rotate_left
                          · simp only [Act.put, List.setIfInBounds_toArray, List.set_cons_zero, List.set_cons_succ, i64_w, i32_w]
                            rfl
                          refine one_ (i := 1) (N := some 62) #[true, true, true, true, true, true, false, false] rfl rfl (one_of HT_.out (by kernel_rfl)) (by decide) (fun K hK => ?_)
                          refine goes_ Tryd.func33 (by kernel_rfl) rfl #[.int .u64 x6_3] (by rfl) rfl rfl (by (try simp only [List.map_toArray, List.map_cons, List.map_nil]); first | done | rfl | (simp only [List.length_drop, List.length_take]; rfl)) ?_
                          with_reducible refine (quorateref01_Uint.calls k3 x6_3 t192 _ A17.out).mono ?_
                          rintro e w29 ⟨v193, rfl, ho0, hb⟩
                          refine ⟨_, rfl, ?_⟩
                          have n0_ := Aside0.mk (Kd.R_lower ho0 (below_size (by repeat (first | (with_reducible first | exact HB.out | apply below_alloc | apply pw_below_drewN | apply below_drew1) | exact HB.out))))
                          have n1_ := Aside0.mk (below_step (by repeat (first | (with_reducible first | exact HB.out | apply below_alloc | apply pw_below_drewN | apply below_drew1) | exact HB.out)) hb)
                          clear HB
                          have HO194 := n0_
                          have HB := n1_
                          clear n0_ n1_
                          (try clear hb)
                          (try clear hb2)
                          (try clear hk)
                          (try clear hi)
                          (try clear ho0)
                          obtain ⟨Ao30, co30, eo30⟩ := Kd.R_slice HO194.out
                          (first | subst eo30 | (injection eo30 with f1_ f2_ f3_; have f4_ := f1_.symm; have f5_ := f3_.symm; clear f1_ f2_ f3_; subst f4_; subst f5_))
                          refine hK.out _ _ trivial (fun hHeld => ?_)
                          clear hK K
                          refine norm_ (a' := ?_) ?_ ?_
                          rotate_left
                          · show Act.put _ (some 62) _ = _
                            simp only [Act.put, List.setIfInBounds_toArray, List.set_cons_zero, List.set_cons_succ, i64_w, i32_w]
                            rfl
                          refine one_ (i := 6) (N := some 67) #[true, true, true, true, true, true, true, false] rfl rfl (one_of HT_.out (by kernel_rfl)) (by decide) (fun K hK => ?_)
                          refine goes_ Tryd.func70 (by kernel_rfl) rfl #[.slice Ao30 t192.length co30, .slice A0 (l0.take ((ji18) : Int).toNat).length c0] (by rfl) rfl rfl (by (try simp only [List.map_toArray, List.map_cons, List.map_nil]); first | done | (rw [show (l0.take ((ji18) : Int).toNat).length = (ji18).toNat from (by rw [List.length_take]; have h_ : ((ji18) : Int) ≤ (l0.length : Int) := of_decide_eq_true (by first | (with_reducible assumption) | assumption); omega)] <;> rfl) | (simp only [hji18]; rfl) | rfl | (simp only [List.length_drop, List.length_take]; rfl)) ?_
                          with_reducible refine (quorateref01_same.calls _ _ t192 _ _ (l0.take ((ji18) : Int).toNat) false _ ?side1 ?side2 ?side3 ?side4 A21.out).mono ?_
                          (case side1 => repeat (first | exact (Kd.R_reads' HO194.out).2.2 | (with_reducible refine Kd.C_alloc ?_ _) | (with_reducible refine Kd.C_drewN ?_ _) | (with_reducible refine Kd.C_drew ?_)))
                          (case side2 => exact (Kd.R_reads' HO194.out).2.1)
                          (case side3 => repeat (first | exact (Kd.C_below HR195.out HB.out) | (with_reducible refine Kd.C_alloc ?_ _) | (with_reducible refine Kd.C_drewN ?_ _) | (with_reducible refine Kd.C_drew ?_)))
                          (case side4 => exact HC195.out)
                          rintro e w' ⟨rfl, ⟨nd, rfl⟩⟩
                          refine ⟨_, rfl, ?_⟩
                          refine hK.out _ _ trivial (fun hHeld => ?_)
                          clear hK K
                          refine norm_ (a' := ?_) ?_ ?_
                          rotate_left
                          · show Act.put _ (some 67) _ = _
                            simp only [Act.put, List.setIfInBounds_toArray, List.set_cons_zero, List.set_cons_succ, i64_w, i32_w]
                            rfl
                          refine pure_ (i := 7) (N := some 68) (v := ?_) (a' := ?_) #[true, true, true, true, true, true, true, true] rfl rfl (any_of HT_.out (by kernel_rfl)) (fun _ _ _ h => h) (Or.inl ⟨by rfl, ?_⟩) ?_ ?_
                          rotate_left
                          · intro w'
                            go_simp
                            with_reducible rfl
                          rotate_left
                          · simp only [Act.put, List.setIfInBounds_toArray, List.set_cons_zero, List.set_cons_succ, i64_w, i32_w]
                            rfl
                          refine done_ (done_of HT_.out (by kernel_rfl)) ?_
                          try go_wp2
                          go_ret3
                          exact ⟨by first | rfl | (simp [errW_none, errW_some] <;> rfl) | (simp only [← hji18]; first | rfl | (simp [errW_none, errW_some] <;> rfl)) | (simp [*, errW_none, errW_some] <;> rfl), by repeat (first | (with_reducible first | exact HB.out | apply below_alloc | apply pw_below_drewN | apply below_drew1) | exact HB.out)⟩
                      · rw [if_neg c20] at H
                        exact absurd H (by simp)
                    · rw [if_neg c19] at H
                      exact absurd H (by simp)
end Go.Proofs.YtfkfboigkpofkaaDoor.PMsgTakes
end
section
namespace Go.Proofs.YtfkfboigkpofkaaDoor.M
open Go.RowKit Go.Proofs.YtfkfboigkpofkaaDoorW.PrintWords Go.Proofs.YtfkfboigkpofkaaDoorW.PrintLast Go.Proofs.YtfkfboigkpofkaaDoorW.PrintMore Go.Proofs.YtfkfboigkpofkaaDoor.PMsgPuts
set_option linter.unusedVariables false
set_option linter.unusedSimpArgs false
open PMsgTakes (quorateref01_Take.f quorateref01_Take.l0 quorateref01_Take.l1 quorateref01_Take.j1 quorateref01_Take.j2)
theorem uint_fT : ∀ (k n : Nat), n < 128 ^ (k + 1) → n < 18446744073709551616 → PMsgTakes.quorateref01_Uint.f (k + 1) (n : Int) = some (uv n)
  | 0, n, h, _ => by
    have h1 : n < 128 := by simpa using h
    rw [PMsgTakes.quorateref01_Uint.f, if_pos (by omega), uv_small h1, show (n : Int) % 256 = n by omega]
  | k + 1, n, h, hu => by
    by_cases h1 : n < 128
    · rw [PMsgTakes.quorateref01_Uint.f, if_pos (by omega), uv_small h1, show (n : Int) % 256 = n by omega]
    · have ih := uint_fT k (n / 128) (by rw [Nat.div_lt_iff_lt_mul (by decide)]; rwa [Nat.pow_succ] at h) (by omega)
      have hl : (uv (n / 128)).length ≤ 10 := uv_len 9 _ (by have := pow10; omega)
      have e1 : IntKind.u64.wrap (Int.tdiv (n : Int) 128) = ((n / 128 : Nat) : Int) := by
        rw [Int.tdiv_eq_ediv_of_nonneg (by omega), IntKind.wrap_u64]
        omega
      have e2 : IntKind.u64.wrap (128 + Int.tmod (n : Int) 128) % 256 = ((n % 128 + 128 : Nat) : Int) := by
        rw [Int.tmod_eq_emod_of_nonneg (by omega), IntKind.wrap_u64]
        omega
      have e3 : uv n = ((n % 128 + 128 : Nat) : Int) :: uv (n / 128) := by
        conv => lhs; rw [uv, if_neg h1]
      rw [PMsgTakes.quorateref01_Uint.f, if_neg (by omega), e1, e2, ih, e3, Option.bind_some, Option.bind_some, if_pos (by show 1 + _ < _; omega)]
      rfl
theorem uint_lawT {k n : Nat} (hk : 10 ≤ k) (hn : n < 18446744073709551616) : PMsgTakes.quorateref01_Uint.f k (n : Int) = some (uv n) := by
  obtain ⟨k', rfl⟩ : ∃ k', k = k' + 1 := ⟨k - 1, by omega⟩
  exact uint_fT k' n (Nat.lt_of_lt_of_le (by have := pow10; omega) (Nat.pow_le_pow_right (by decide) hk)) (by omega)
def leadN : Nat → List Int → Nat
  | 0, _ => 0
  | _ + 1, [] => 0
  | f + 1, c :: t => if 128 ≤ c then leadN f t + 1 else 0
theorem leadN_le : ∀ (f : Nat) (l : List Int), leadN f l ≤ f ∧ leadN f l ≤ l.length
  | 0, _ => ⟨Nat.le_refl _, Nat.zero_le _⟩
  | _ + 1, [] => ⟨Nat.zero_le _, Nat.le_refl _⟩
  | f + 1, c :: t => by
    have := leadN_le f t
    unfold leadN
    split
    · simp only [List.length_cons]; omega
    · simp
theorem leadN_uv : ∀ (n f : Nat) (r : List Int), (uv n).length ≤ f → leadN f (uv n ++ r) + 1 = (uv n).length
  | n, f, r, h => by
    by_cases h1 : n < 128
    · rw [uv_small h1] at h ⊢
      obtain ⟨g, rfl⟩ : ∃ g, f = g + 1 := ⟨f - 1, by simp only [List.length_cons, List.length_nil] at h; omega⟩
      show leadN (g + 1) ((n : Int) :: r) + 1 = 1
      unfold leadN
      rw [if_neg (by omega)]
    · have e : uv n = ((n % 128 + 128 : Nat) : Int) :: uv (n / 128) := by
        conv => lhs; rw [uv, if_neg h1]
      rw [e] at h ⊢
      rw [List.length_cons] at h ⊢
      obtain ⟨g, rfl⟩ : ∃ g, f = g + 1 := ⟨f - 1, by omega⟩
      show leadN (g + 1) (((n % 128 + 128 : Nat) : Int) :: (uv (n / 128) ++ r)) + 1 = _
      unfold leadN
      rw [if_pos (by omega), leadN_uv (n / 128) g r (by omega)]
def valN : List Int → Nat
  | [] => 0
  | c :: t => c.toNat % 128 + 128 * valN t
theorem valN_uv : ∀ n : Nat, valN (uv n) = n
  | n => by
    by_cases h1 : n < 128
    · rw [uv_small h1]
      show (n : Int).toNat % 128 + 128 * 0 = n
      omega
    · have e : uv n = ((n % 128 + 128 : Nat) : Int) :: uv (n / 128) := by
        conv => lhs; rw [uv, if_neg h1]
      rw [e]
      show (((n % 128 + 128 : Nat) : Int)).toNat % 128 + 128 * valN (uv (n / 128)) = n
      rw [valN_uv (n / 128)]
      omega
theorem valN_snoc : ∀ (l : List Int) (c : Int), valN (l ++ [c]) = valN l + 128 ^ l.length * (c.toNat % 128)
  | [], c => by simp [valN]
  | d :: l, c => by
    show d.toNat % 128 + 128 * valN (l ++ [c]) = d.toNat % 128 + 128 * valN l + 128 ^ (l.length + 1) * (c.toNat % 128)
    rw [valN_snoc l c, Nat.mul_add, Nat.pow_succ]
    have : 128 * (128 ^ l.length * (c.toNat % 128)) = 128 ^ l.length * 128 * (c.toNat % 128) := by
      rw [Nat.mul_comm (128 ^ l.length) 128, Nat.mul_assoc]
    omega
theorem valN_lt : ∀ l : List Int, valN l < 128 ^ l.length
  | [] => by decide
  | c :: t => by
    have := valN_lt t
    show c.toNat % 128 + 128 * valN t < 128 ^ (t.length + 1)
    rw [Nat.pow_succ]
    omega
theorem valN_drop_le : ∀ (l : List Int) (j : Nat), valN (l.drop j) ≤ valN l
  | [], j => by simp
  | c :: t, 0 => Nat.le_refl _
  | c :: t, j + 1 => by
    have := valN_drop_le t j
    show valN (t.drop j) ≤ c.toNat % 128 + 128 * valN t
    omega
theorem leadN_stop : ∀ (f : Nat) (l : List Int), leadN f l < f → ∀ h : leadN f l < l.length, l[leadN f l] < 128
  | 0, _, h => absurd h (Nat.not_lt_zero _)
  | _ + 1, [], _ => fun h => absurd h (Nat.not_lt_zero _)
  | f + 1, c :: t, h => by
    intro hl
    by_cases hc : 128 ≤ c
    · have e : leadN (f + 1) (c :: t) = leadN f t + 1 := by rw [leadN, if_pos hc]
      have h1 : leadN f t < f := by omega
      have h2 : leadN f t < t.length := by rw [e] at hl; simpa using hl
      have h3 := leadN_stop f t h1 h2
      simp only [e, List.getElem_cons_succ]
      exact h3
    · have e : leadN (f + 1) (c :: t) = 0 := by rw [leadN, if_neg hc]
      simp only [e, List.getElem_cons_zero]
      omega
theorem rd_at (l : List Int) (i : Nat) (h : i < l.length) : rd l (i : Int) = l[i] := by
  show l.getD (i : Int).toNat 0 = _
  rw [Int.toNat_natCast, List.getD_eq_getElem?_getD, List.getElem?_eq_getElem h]
  rfl
theorem take_l0 (l : List Int) (hl : l.length < 9223372036854775807) : ∀ (f i c : Nat), i + f = 10 → i ≤ l.length → quorateref01_Take.l0 (c + leadN f (l.drop i) + 1) l (i : Int) = quorateref01_Take.j1 c l ((i + leadN f (l.drop i) : Nat) : Int)
  | 0, i, c, hi, hil => by
    rw [show c + leadN 0 (l.drop i) + 1 = c + 1 from rfl, quorateref01_Take.l0, show i + leadN 0 (l.drop i) = i from rfl]
    by_cases h : (i : Int) < (l.length : Int)
    · rw [if_pos h, if_neg (by omega)]
    · rw [if_neg h]
  | f + 1, i, c, hi, hil => by
    by_cases h : i < l.length
    · rw [List.drop_eq_getElem_cons h]
      have hw : wrap64 ((i : Int) + 1) = ((i + 1 : Nat) : Int) := by unfold wrap64; omega
      by_cases h1 : 128 ≤ l[i]
      · have e : leadN (f + 1) (l[i] :: l.drop (i + 1)) = leadN f (l.drop (i + 1)) + 1 := by rw [leadN, if_pos h1]
        have ih := take_l0 l hl f (i + 1) c (by omega) h
        rw [e, show c + (leadN f (l.drop (i + 1)) + 1) + 1 = (c + leadN f (l.drop (i + 1)) + 1) + 1 by omega, quorateref01_Take.l0, if_pos (by omega), if_pos (by omega), if_pos (by omega), rd_at l i h, if_pos h1, hw, ih, show i + 1 + leadN f (l.drop (i + 1)) = i + (leadN f (l.drop (i + 1)) + 1) by omega]
      · have e : leadN (f + 1) (l[i] :: l.drop (i + 1)) = 0 := by rw [leadN, if_neg h1]
        rw [e, quorateref01_Take.l0, if_pos (by omega), if_pos (by omega), if_pos (by omega), rd_at l i h, if_neg h1, Nat.add_zero]
    · have e : leadN (f + 1) (l.drop i) = 0 := by rw [List.drop_of_length_le (by omega)]; rfl
      rw [e, quorateref01_Take.l0, if_neg (by omega), Nat.add_zero]
theorem or_step (x c : Nat) (hx : x * 128 + c % 128 < 18446744073709551616) (hc : c < 256) : Go.bits .or .u64 (IntKind.u64.wrap ((x : Int) * 128)) (IntKind.u64.wrap (Go.bits .and .u8 (c : Int) 127)) = ((c % 128 + 128 * x : Nat) : Int) := by
  have h1 : Go.bits .and .u8 (c : Int) 127 = ((c % 128 : Nat) : Int) := by
    rw [show (127 : Int) = ((127 : Nat) : Int) from rfl, u8_and_nat c 127 hc (by decide)]
    congr 1
    exact Nat.and_two_pow_sub_one_eq_mod _ 7
  have h2 : IntKind.u64.wrap ((x : Int) * 128) = ((x * 128 : Nat) : Int) := by rw [IntKind.wrap_u64]; omega
  have h3 : IntKind.u64.wrap (((c % 128 : Nat)) : Int) = ((c % 128 : Nat) : Int) := by rw [IntKind.wrap_u64]; omega
  rw [h1, h2, h3, u64_or_nat _ _ (by omega) (by omega)]
  congr 1
  have h4 : c % 128 < 2 ^ 7 := Nat.mod_lt _ (by decide)
  have h5 := Nat.two_pow_add_eq_or_of_lt h4 x
  rw [Nat.mul_comm x 128, show (128 : Nat) = 2 ^ 7 from rfl, ← h5]
  omega
theorem take_l1 (l : List Int) (hl : l.length < 9223372036854775807) (hb : Bys l) (x5 : Int) (q : Nat) (hq : q ≤ l.length) (hv : valN (l.take q) < 18446744073709551616) : ∀ (j c : Nat), j ≤ q → quorateref01_Take.l1 (c + j + 1) l x5 ((valN ((l.take q).drop j) : Nat) : Int) ((j : Int) - 1) = quorateref01_Take.l1 (c + 1) l x5 ((valN (l.take q) : Nat) : Int) (-1)
  | 0, c, _ => by
    rw [List.drop_zero]
    rfl
  | j + 1, c, hj => by
    have hjl : j < l.length := by omega
    have hg := hb l[j] (List.getElem_mem hjl)
    obtain ⟨b, hbb⟩ := Int.eq_ofNat_of_zero_le hg.1
    have hb2 : b < 256 := by have := hg.2; omega
    have hjt : j < (l.take q).length := by rw [List.length_take]; omega
    have hd : (l.take q).drop j = (b : Int) :: (l.take q).drop (j + 1) := by
      rw [List.drop_eq_getElem_cons hjt, List.getElem_take, hbb]
    have hval : valN ((l.take q).drop j) = b % 128 + 128 * valN ((l.take q).drop (j + 1)) := by
      rw [hd]
      rfl
    have hle := valN_drop_le (l.take q) j
    have ih := take_l1 l hl hb x5 q hq hv j c (by omega)
    have hw : wrap64 (((j + 1 : Nat) : Int) - 1 - 1) = (j : Int) - 1 := by unfold wrap64; omega
    rw [show c + (j + 1) + 1 = (c + j + 1) + 1 by omega, quorateref01_Take.l1, if_pos (by omega), if_pos (by omega), if_pos (by omega), hw, show ((j + 1 : Nat) : Int) - 1 = (j : Int) by omega, rd_at l j hjl, hbb, or_step _ _ (by omega) hb2, ← hval]
    exact ih
theorem back_bys (l : List Int) (h : Bys l) : (l.map fun n => UInt8.ofNat n.toNat).map (fun b => (b.toNat : Int)) = l := by
  rw [List.map_map]
  conv => rhs; rw [← List.map_id l]
  refine List.map_congr_left fun x hx => ?_
  obtain ⟨h0, h1⟩ := h x hx
  show ((UInt8.ofNat x.toNat).toNat : Int) = x
  rw [UInt8.toNat_ofNat', Nat.mod_eq_of_lt (by omega)]
  omega
theorem str_inj {a b : List Int} (ha : Bys a) (hb : Bys b) (h : (strOfNums a).toList = (strOfNums b).toList) : a = b := by
  rw [toL, toL] at h
  rw [← back_bys a ha, h, back_bys b hb]
theorem bys_take {l : List Int} (h : Bys l) (k : Nat) : Bys (l.take k) := fun x hx => h x (List.mem_of_mem_take hx)
theorem bys_drop {l : List Int} (h : Bys l) (k : Nat) : Bys (l.drop k) := fun x hx => h x (List.mem_of_mem_drop hx)
def dRes (l : List Int) (e : Int) : Int × Int × Int :=
  match dU 10 l with
  | some (n, r) => ((n : Int), ((l.length - r.length : Nat) : Int), 0)
  | none => (0, 0, e)
theorem take_law (l : List Int) (hb : Bys l) (hf : Fits l.length) {k : Nat} (hk : 60 ≤ k) : ∃ e : Int, e ≠ 0 ∧ quorateref01_Take.f k l = some (dRes l e) := by
  have hl : l.length < 9223372036854775806 := by unfold Fits at hf; omega
  obtain ⟨q, hq⟩ : ∃ q, leadN 10 l = q := ⟨_, rfl⟩
  have hle := leadN_le 10 l
  rw [hq] at hle
  have h0 := take_l0 l (by omega) 10 0 (k - q - 1) (by omega) (by omega)
  rw [List.drop_zero, hq, show k - q - 1 + q + 1 = k by omega, Nat.zero_add] at h0
  unfold quorateref01_Take.f
  rw [show (0 : Int) = ((0 : Nat) : Int) from rfl, h0]
  obtain ⟨c, hc⟩ : ∃ c, k - q - 1 = c + 2 := ⟨k - q - 3, by omega⟩
  rw [hc]
  clear h0
  -- the decoder's answer, and what it says of the head
  have hsome : ∀ n r, dU 10 l = some (n, r) → l = uv n ++ r ∧ n < 18446744073709551616 ∧ q + 1 = (uv n).length := by
    intro n r h
    obtain ⟨h1, h2, _⟩ := dU_back 9 l n r hb (by decide) h
    have h3 : n < 18446744073709551616 := h2
    have h4 : (uv n).length ≤ 10 := uv_len 9 n (by have := pow10; omega)
    refine ⟨h1, h3, ?_⟩
    rw [← hq, h1]
    exact leadN_uv n 10 r h4
  by_cases c10 : q = 10
  · have hn : dU 10 l = none := by
      cases h : dU 10 l with
      | none => rfl
      | some p =>
        obtain ⟨h1, h2, h3⟩ := hsome p.1 p.2 h
        have h4 : (uv p.1).length ≤ 10 := uv_len 9 p.1 (by have := pow10; omega)
        omega
    refine ⟨11, by decide, ?_⟩
    unfold dRes
    rw [hn, quorateref01_Take.j1, if_pos (by omega), quorateref01_Take.j2, if_pos rfl]
  -- the ways that go on to the value
  have hgo : (q = 9 → q < l.length → ∀ h : 9 < l.length, l[9] ≤ 1) → ∃ e : Int, e ≠ 0 ∧ quorateref01_Take.j2 (c + 1) l (q : Int) false = some (dRes l e) := by
    intro h9
    by_cases cl : q = l.length
    · have hn : dU 10 l = none := by
        cases h : dU 10 l with
        | none => rfl
        | some p =>
          obtain ⟨h1, h2, h3⟩ := hsome p.1 p.2 h
          have h4 := congrArg List.length h1
          rw [List.length_append] at h4
          omega
      refine ⟨10, by decide, ?_⟩
      unfold dRes
      rw [hn, quorateref01_Take.j2, if_neg (by decide), if_pos (by omega)]
    have hql : q < l.length := by omega
    have hv : valN (l.take (q + 1)) < 18446744073709551616 := by
      have h1 := valN_lt (l.take q)
      rw [List.length_take, Nat.min_eq_left (by omega)] at h1
      rw [List.take_succ_eq_append_getElem hql, valN_snoc, List.length_take, Nat.min_eq_left (by omega)]
      by_cases hq9 : q = 9
      · subst hq9
        have h2 := h9 rfl hql hql
        have h3 := hb l[9] (List.getElem_mem hql)
        have h4 : (l[9].toNat % 128) ≤ 1 := by omega
        have h5 : (128 : Nat) ^ 9 = 9223372036854775808 := by decide
        rw [h5] at h1 ⊢
        have h6 := Nat.mul_le_mul_left 9223372036854775808 h4
        omega
      · have h2 : (128 : Nat) ^ q ≤ 128 ^ 8 := Nat.pow_le_pow_right (by decide) (by omega)
        have h3 : l[q].toNat % 128 ≤ 127 := by omega
        have h4 := Nat.mul_le_mul h2 h3
        have h5 : (128 : Nat) ^ 8 * 127 + 128 ^ 8 ≤ 18446744073709551616 := by decide
        omega
    have h1 := take_l1 l (by omega) hb (q : Int) (q + 1) (by omega) hv (q + 1) (c - (q + 2)) (Nat.le_refl _)
    have e0 : valN ((l.take (q + 1)).drop (q + 1)) = 0 := by
      rw [List.drop_of_length_le (by rw [List.length_take]; omega)]
      rfl
    rw [e0, show c - (q + 2) + (q + 1) + 1 = c by omega, show (((q + 1 : Nat)) : Int) - 1 = (q : Int) by omega] at h1
    rw [quorateref01_Take.j2, if_neg (by decide), if_neg (by omega)]
    rw [show (((0 : Nat)) : Int) = 0 from rfl] at h1
    rw [h1, quorateref01_Take.l1, if_neg (by decide), uint_lawT (by omega) hv, Option.bind_some]
    have hw : wrap64 ((q : Int) + 1) = ((q + 1 : Nat) : Int) := by unfold wrap64; omega
    rw [hw, if_pos (by omega), if_pos (by omega), Int.toNat_natCast]
    show ∃ e : Int, e ≠ 0 ∧ (Option.bind (some _) _) = _
    rw [Option.bind_some]
    by_cases hs : uv (valN (l.take (q + 1))) = l.take (q + 1)
    · have hd : dU 10 l = some (valN (l.take (q + 1)), l.drop (q + 1)) := by
        have h2 := dU_put hv (l.drop (q + 1))
        rw [hs, List.take_append_drop] at h2
        exact h2
      refine ⟨11, by decide, ?_⟩
      unfold dRes
      rw [hd, if_pos (by rw [hs]; simp)]
      simp only [List.length_drop]
      rw [show l.length - (l.length - (q + 1)) = q + 1 by omega]
    · have hd : dU 10 l = none := by
        cases h : dU 10 l with
        | none => rfl
        | some p =>
          obtain ⟨h2, h3, h4⟩ := hsome p.1 p.2 h
          exfalso
          apply hs
          have h5 : l.take (q + 1) = uv p.1 := by rw [h2, h4, List.take_left]
          rw [h5, valN_uv]
      refine ⟨11, by decide, ?_⟩
      unfold dRes
      rw [hd, if_neg (by
        intro h2
        rw [beq_iff_eq] at h2
        exact hs (str_inj (bys_uv _) (bys_take hb _) h2))]
  by_cases c9 : q = 9
  · by_cases cl : 9 < l.length
    · by_cases c1 : l[9] ≤ 1
      · obtain ⟨e, he, h2⟩ := hgo (fun _ _ h => c1)
        refine ⟨e, he, ?_⟩
        rw [quorateref01_Take.j1, if_neg (by omega), if_pos (by omega), if_pos (by omega), if_pos (by omega), show (9 : Int) = ((9 : Nat) : Int) from rfl, rd_at l 9 cl, decide_eq_false (by omega)]
        exact h2
      · have hn : dU 10 l = none := by
          cases h : dU 10 l with
          | none => rfl
          | some p =>
            obtain ⟨h1, h2, h3⟩ := hsome p.1 p.2 h
            exfalso
            have h5 : l.take 10 = uv p.1 := by rw [h1, show 10 = (uv p.1).length by omega, List.take_left]
            have h6 := valN_uv p.1
            rw [← h5, List.take_succ_eq_append_getElem cl, valN_snoc, List.length_take, Nat.min_eq_left (by omega)] at h6
            have h7 := hb l[9] (List.getElem_mem cl)
            have h8 : l[9] < 128 := by
              have := leadN_stop 10 l (by rw [hq, c9]; decide) (by rw [hq, c9]; exact cl)
              simp only [hq, c9] at this
              exact this
            have h9 : 2 ≤ l[9].toNat % 128 := by omega
            have h10 := Nat.mul_le_mul_left (128 ^ 9) h9
            have h11 : (128 : Nat) ^ 9 * 2 = 18446744073709551616 := by decide
            omega
        refine ⟨11, by decide, ?_⟩
        unfold dRes
        rw [hn, quorateref01_Take.j1, if_neg (by omega), if_pos (by omega), if_pos (by omega), if_pos (by omega), show (9 : Int) = ((9 : Nat) : Int) from rfl, rd_at l 9 cl, decide_eq_true (by omega), quorateref01_Take.j2, if_pos rfl]
    · obtain ⟨e, he, h2⟩ := hgo (fun _ _ h => absurd h cl)
      refine ⟨e, he, ?_⟩
      rw [quorateref01_Take.j1, if_neg (by omega), if_pos (by omega), if_neg (by omega)]
      exact h2
  · obtain ⟨e, he, h2⟩ := hgo (fun h => absurd h c9)
    refine ⟨e, he, ?_⟩
    rw [quorateref01_Take.j1, if_neg (show ¬ (q : Int) = 10 from fun h => c10 (Int.ofNat.inj h)), if_neg (show ¬ (q : Int) = 9 from fun h => c9 (Int.ofNat.inj h))]
    exact h2
end Go.Proofs.YtfkfboigkpofkaaDoor.M
end
