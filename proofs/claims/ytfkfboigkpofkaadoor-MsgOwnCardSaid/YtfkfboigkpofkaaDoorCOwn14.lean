/- Parts of a proof, pruned and joined by flat.py out of: OH, MZ. -/
import Derived.Test.YtfkfboigkpofkaaDoorCOwn13
import Derived.Test.YtfkfboigkpofkaaDoorRows
import Derived.ProofKit
import Derived.LaidMore
import Derived.OpenShut
import Derived.Stop.Joined
import Derived.Deep.Slices
import Derived.Lib.LaidTab
section
namespace Go.Proofs.YtfkfboigkpofkaaDoor.M
open Go.RowKit Go.Proofs.YtfkfboigkpofkaaDoorW.PrintWords Go.Proofs.YtfkfboigkpofkaaDoorW.PrintLast Go.Proofs.YtfkfboigkpofkaaDoorW.PrintMore Go.Proofs.YtfkfboigkpofkaaDoor.PMsgPuts
set_option linter.unusedVariables false
set_option linter.unusedSimpArgs false
set_option maxHeartbeats 1000000 in
set_option maxRecDepth 100000 in
theorem owns_great (m : Mg) (A6 A7 A8 : Option Addr) (c6 c7 c8 : Nat) (w : World) (T : Tabs w) (h : Lies m w A6 A7 A8 c6 c7 c8) (hg : greatB m = true) :
    Calls Tryd.prog 6 #[.agg (m.cells A6 A7 A8 c6 c7 c8)] w fun e w' => e = .returned (.bool true) ∧ Below w.heap.size w w' := by
  have hT := Aside0.mk T
  have hL := Aside0.mk h
  have hX := Aside0.mk (heap_alloc_new w (.cells #[.int .u8 m.k, .int .u64 m.n, .int .i64 m.r, .int .u64 m.first, .int .u64 m.last, .int .u64 m.commit, .slice A6 m.V.length c6, .slice A7 m.B.length c7, .slice A8 m.S.length c8] 29))
  have hB := Aside0.mk (bel1 w (.cells #[.int .u8 m.k, .int .u64 m.n, .int .i64 m.r, .int .u64 m.first, .int .u64 m.last, .int .u64 m.commit, .slice A6 m.V.length c6, .slice A7 m.B.length c7, .slice A8 m.S.length c8] 29))
  clear T h
  have hG := Aside0.mk hg
  clear hg
  unfold Mg.cells
  go_enter Tryd.func6, Tryd.ntmps6
  repeat (first
    | ((with_reducible refine gate_callee (f := 7) rfl ?_); (with_reducible refine gate_dst (N := 19) rfl ?_); refine goesL_ (some 19) rfl rfl Tryd.func7 (by kernel_rfl) rfl #[.agg #[.int .u8 m.k, .int .u64 m.n, .int .i64 m.r, .int .u64 m.first, .int .u64 m.last, .int .u64 m.commit, .slice A6 m.V.length c6, .slice A7 m.B.length c7, .slice A8 m.S.length c8]] rfl (by (try simp only [List.map_toArray, List.map_cons, List.map_nil]); first | done | rfl) ?_; refine (great_at m A6 A7 A8 c6 c7 c8 _ (hL.out.below hB.out)).mono ?_; rintro e w1 ⟨rfl, HB1⟩; refine ⟨_, rfl, ?_⟩; rw [hG.out]; have hB1 := Aside0.mk (below_step hB.out HB1); have hX1 := Aside0.mk (blk_below hX.out HB1); clear HB1; have hq0 := (blk_cell (hX1.out) 0).trans rfl; have hq1 := (blk_cell (hX1.out) 1).trans rfl; have hq2 := (blk_cell (hX1.out) 2).trans rfl; have hq3 := (blk_cell (hX1.out) 3).trans rfl; have hq4 := (blk_cell (hX1.out) 4).trans rfl; have hq5 := (blk_cell (hX1.out) 5).trans rfl; have hq6 := (blk_cell (hX1.out) 6).trans rfl; have hq7 := (blk_cell (hX1.out) 7).trans rfl; have hq8 := (blk_cell (hX1.out) 8).trans rfl; (try dsimp only))
    | ((with_reducible refine gate_callee (f := 8) rfl ?_); (with_reducible refine gate_dst (N := 20) rfl ?_); refine goesL_ (some 20) rfl rfl Tryd.func8 (by kernel_rfl) rfl #[] rfl (by (try simp only [List.map_toArray, List.map_cons, List.map_nil]); first | done | rfl) ?_; refine (wakes_at w _ hT.out hB1.out).mono ?_; rintro e w2 ⟨rfl, HB2⟩; refine ⟨_, rfl, ?_⟩; have hB2 := Aside0.mk (below_step hB1.out HB2); clear HB2; (try dsimp only))
    | go_step)
  go_ret
  exact ⟨rfl, hB2.out⟩
set_option maxHeartbeats 1000000 in
set_option maxRecDepth 100000 in
theorem owns_no (m : Mg) (k : Nat) (hw : Whole m k) (A6 A7 A8 : Option Addr) (c6 c7 c8 : Nat) (w : World) (T : Tabs w) (h : Lies m w A6 A7 A8 c6 c7 c8) (hg : greatB m = false) (hc : checkM m k = false) :
    Calls Tryd.prog 6 #[.agg (m.cells A6 A7 A8 c6 c7 c8)] w fun e w' => e = .returned (.bool true) ∧ Below w.heap.size w w' := by
  have hT := Aside0.mk T
  have hL := Aside0.mk h
  have hX := Aside0.mk (heap_alloc_new w (.cells #[.int .u8 m.k, .int .u64 m.n, .int .i64 m.r, .int .u64 m.first, .int .u64 m.last, .int .u64 m.commit, .slice A6 m.V.length c6, .slice A7 m.B.length c7, .slice A8 m.S.length c8] 29))
  have hB := Aside0.mk (bel1 w (.cells #[.int .u8 m.k, .int .u64 m.n, .int .i64 m.r, .int .u64 m.first, .int .u64 m.last, .int .u64 m.commit, .slice A6 m.V.length c6, .slice A7 m.B.length c7, .slice A8 m.S.length c8] 29))
  have hW := Aside0.mk hw
  clear T h hw
  have hG := Aside0.mk hg
  have hc1 := Aside0.mk hc
  clear hg hc
  unfold Mg.cells
  go_enter Tryd.func6, Tryd.ntmps6
  repeat (first
    | ((with_reducible refine gate_callee (f := 7) rfl ?_); (with_reducible refine gate_dst (N := 19) rfl ?_); refine goesL_ (some 19) rfl rfl Tryd.func7 (by kernel_rfl) rfl #[.agg #[.int .u8 m.k, .int .u64 m.n, .int .i64 m.r, .int .u64 m.first, .int .u64 m.last, .int .u64 m.commit, .slice A6 m.V.length c6, .slice A7 m.B.length c7, .slice A8 m.S.length c8]] rfl (by (try simp only [List.map_toArray, List.map_cons, List.map_nil]); first | done | rfl) ?_; refine (great_at m A6 A7 A8 c6 c7 c8 _ (hL.out.below hB.out)).mono ?_; rintro e w1 ⟨rfl, HB1⟩; refine ⟨_, rfl, ?_⟩; rw [hG.out]; have hB1 := Aside0.mk (below_step hB.out HB1); have hX1 := Aside0.mk (blk_below hX.out HB1); clear HB1; have hq0 := (blk_cell (hX1.out) 0).trans rfl; have hq1 := (blk_cell (hX1.out) 1).trans rfl; have hq2 := (blk_cell (hX1.out) 2).trans rfl; have hq3 := (blk_cell (hX1.out) 3).trans rfl; have hq4 := (blk_cell (hX1.out) 4).trans rfl; have hq5 := (blk_cell (hX1.out) 5).trans rfl; have hq6 := (blk_cell (hX1.out) 6).trans rfl; have hq7 := (blk_cell (hX1.out) 7).trans rfl; have hq8 := (blk_cell (hX1.out) 8).trans rfl; (try dsimp only))
    | ((with_reducible refine gate_callee (f := 11) rfl ?_); (with_reducible refine gate_dst (N := 23) rfl ?_); refine goesL_ (some 23) rfl rfl Tryd.func11 (by kernel_rfl) rfl #[.agg #[.int .u8 m.k, .int .u64 m.n, .int .i64 m.r, .int .u64 m.first, .int .u64 m.last, .int .u64 m.commit, .slice A6 m.V.length c6, .slice A7 m.B.length c7, .slice A8 m.S.length c8]] rfl (by (try simp only [List.map_toArray, List.map_cons, List.map_nil]); first | done | rfl) ?_; refine (put_at_no m k hW.out hc1.out A6 A7 A8 c6 c7 c8 _ (hT.out.below hB1.out) (hL.out.below hB1.out)).mono ?_; rintro e w2 ⟨rfl, HB2⟩; refine ⟨_, rfl, ?_⟩; have hB2 := Aside0.mk (below_step hB1.out HB2); clear HB2; (try dsimp only))
    | ((with_reducible refine gate_callee (f := 8) rfl ?_); (with_reducible refine gate_dst (N := 32) rfl ?_); refine goesL_ (some 32) rfl rfl Tryd.func8 (by kernel_rfl) rfl #[] rfl (by (try simp only [List.map_toArray, List.map_cons, List.map_nil]); first | done | rfl) ?_; refine (wakes_at w _ hT.out hB2.out).mono ?_; rintro e w3 ⟨rfl, HB3⟩; refine ⟨_, rfl, ?_⟩; have hB3 := Aside0.mk (below_step hB2.out HB3); clear HB3; (try dsimp only))
    | ((with_reducible refine Calls.mono (wakes_at w _ hT.out hB2.out) ?_); rintro e w3 ⟨rfl, HB3⟩; have hB3 := Aside0.mk (below_step hB2.out HB3); clear HB3; (try dsimp only))
    | go_step)
  go_ret
  exact ⟨rfl, hB3.out⟩
set_option maxHeartbeats 1000000 in
set_option maxRecDepth 100000 in
theorem owns_yes (m : Mg) (k : Nat) (hw : Whole m k) (hby : Byt m) (A6 A7 A8 : Option Addr) (c6 c7 c8 : Nat) (w : World) (T : Tabs w) (h : Lies m w A6 A7 A8 c6 c7 c8) (hg : greatB m = false) (hc : checkM m k = true) :
    Calls Tryd.prog 6 #[.agg (m.cells A6 A7 A8 c6 c7 c8)] w fun e w' => e = .returned (.bool true) ∧ Below w.heap.size w w' := by
  have hT := Aside0.mk T
  have hL := Aside0.mk h
  have hX := Aside0.mk (heap_alloc_new w (.cells #[.int .u8 m.k, .int .u64 m.n, .int .i64 m.r, .int .u64 m.first, .int .u64 m.last, .int .u64 m.commit, .slice A6 m.V.length c6, .slice A7 m.B.length c7, .slice A8 m.S.length c8] 29))
  have hB := Aside0.mk (bel1 w (.cells #[.int .u8 m.k, .int .u64 m.n, .int .i64 m.r, .int .u64 m.first, .int .u64 m.last, .int .u64 m.commit, .slice A6 m.V.length c6, .slice A7 m.B.length c7, .slice A8 m.S.length c8] 29))
  have hW := Aside0.mk hw
  have hBy := Aside0.mk hby
  have hS3 := Aside0.mk (great_no hg)
  have hSm := Aside0.mk (great_no hg).small
  obtain ⟨n, hn0⟩ : ∃ n, (putB m k).length = n := ⟨_, rfl⟩
  have hn := Aside0.mk hn0
  have hn1 := hn
  have hnk : Aside0 (n < 200000010) := ⟨by rw [← hn0]; exact putB_len m hSm.out hw.ok k (known_of_check hc).2⟩
  obtain ⟨s, hs0⟩ : ∃ s, strOfNums (putB m k) = s := ⟨_, rfl⟩
  clear T h hw hby hn0
  have hG := Aside0.mk hg
  have hc1 := Aside0.mk hc
  clear hg hc
  unfold Mg.cells
  go_enter Tryd.func6, Tryd.ntmps6
  repeat (first
    | ((with_reducible refine gate_callee (f := 7) rfl ?_); (with_reducible refine gate_dst (N := 19) rfl ?_); refine goesL_ (some 19) rfl rfl Tryd.func7 (by kernel_rfl) rfl #[.agg #[.int .u8 m.k, .int .u64 m.n, .int .i64 m.r, .int .u64 m.first, .int .u64 m.last, .int .u64 m.commit, .slice A6 m.V.length c6, .slice A7 m.B.length c7, .slice A8 m.S.length c8]] rfl (by (try simp only [List.map_toArray, List.map_cons, List.map_nil]); first | done | rfl) ?_; refine (great_at m A6 A7 A8 c6 c7 c8 _ (hL.out.below hB.out)).mono ?_; rintro e w1 ⟨rfl, HB1⟩; refine ⟨_, rfl, ?_⟩; rw [hG.out]; have hB1 := Aside0.mk (below_step hB.out HB1); have hX1 := Aside0.mk (blk_below hX.out HB1); clear HB1; have hq0 := (blk_cell (hX1.out) 0).trans rfl; have hq1 := (blk_cell (hX1.out) 1).trans rfl; have hq2 := (blk_cell (hX1.out) 2).trans rfl; have hq3 := (blk_cell (hX1.out) 3).trans rfl; have hq4 := (blk_cell (hX1.out) 4).trans rfl; have hq5 := (blk_cell (hX1.out) 5).trans rfl; have hq6 := (blk_cell (hX1.out) 6).trans rfl; have hq7 := (blk_cell (hX1.out) 7).trans rfl; have hq8 := (blk_cell (hX1.out) 8).trans rfl; (try dsimp only))
    | ((with_reducible refine gate_callee (f := 11) rfl ?_); (with_reducible refine gate_dst (N := 23) rfl ?_); refine goesL_ (some 23) rfl rfl Tryd.func11 (by kernel_rfl) rfl #[.agg #[.int .u8 m.k, .int .u64 m.n, .int .i64 m.r, .int .u64 m.first, .int .u64 m.last, .int .u64 m.commit, .slice A6 m.V.length c6, .slice A7 m.B.length c7, .slice A8 m.S.length c8]] rfl (by (try simp only [List.map_toArray, List.map_cons, List.map_nil]); first | done | rfl) ?_; refine (putW_at m k hW.out hSm.out hc1.out n hn.out A6 A7 A8 c6 c7 c8 _ (hT.out.below hB1.out) (hL.out.below hB1.out)).mono ?_; rintro e w2 ⟨Ab, g, cb, rfl, hcb0, hg0, hg2, hR2, hC2, HB2⟩; refine ⟨_, rfl, ?_⟩; have hgg := Aside0.mk (Nat.lt_of_lt_of_le (blk_lt hX1.out) hg0); have hg2' := Aside0.mk hg2; have hRb := Aside0.mk hR2; have hCb := Aside0.mk hC2; have hcb := Aside0.mk hcb0; have hB2 := Aside0.mk (below_step hB1.out HB2); have hX2 := Aside0.mk (blk_below hX1.out HB2); have hcv := Kd.C_string (P := Tryd.prog) (A := Ab) (c := cb) Tryd.underlying27 Tryd.underlying5 Tryd.underlying9 hC2; clear HB2 hg0 hg2 hR2 hC2 hcb0 hq0 hq1 hq2 hq3 hq4 hq5 hq6 hq7 hq8; (try dsimp only))
    | ((with_reducible refine gate_callee (f := 17) rfl ?_); (with_reducible refine gate_dst (N := 38) rfl ?_); refine goesL_ (some 38) rfl rfl Tryd.func17 (by kernel_rfl) rfl #[.slice Ab n cb] rfl (by (try simp only [List.map_toArray, List.map_cons, List.map_nil]); first | done | rfl) ?_; refine (takeW_at m k hW.out hSm.out hBy.out hc1.out n hn.out Ab cb hcb.out _ (hT.out.below hB2.out) hCb.out).mono ?_; rintro e w3 ⟨vVd, vBd, vSd, rfl, HV6, HV7, HV8, HVb⟩; refine ⟨_, rfl, ?_⟩; obtain ⟨D6, d6, rfl⟩ := V2_slice HV6; obtain ⟨D7, d7, rfl⟩ := V2_slice HV7; obtain ⟨D8, d8, rfl⟩ := V2_slice HV8; clear hcv; have hV6 := Aside0.mk HV6; have hV7 := Aside0.mk HV7; have hV8 := Aside0.mk HV8; have hB3 := Aside0.mk HVb; have hB3' := Aside0.mk (below_alloc HVb (.cells #[.int .u8 m.k, .int .u64 m.n, .int .i64 m.r, .int .u64 m.first, .int .u64 m.last, .int .u64 m.commit, .slice D6 m.V.length d6, .slice D7 m.B.length d7, .slice D8 m.S.length d8] 29)); clear HV6 HV7 HV8 HVb; (try dsimp only))
    | ((with_reducible refine gate_callee (f := 17) rfl ?_); (with_reducible refine gate_dst (N := 43) rfl ?_); refine goesL_ (some 43) rfl rfl Tryd.func17 (by kernel_rfl) rfl #[.slice Ab n cb] rfl (by (try simp only [List.map_toArray, List.map_cons, List.map_nil]); first | done | rfl) ?_; refine (takeW_at m k hW.out hSm.out hBy.out hc1.out n hn.out Ab cb hcb.out _ (hT.out.below (below_step hB2.out hB3'.out)) (Kd.C_below hCb.out hB3'.out)).mono ?_; rintro e w4 ⟨vVe, vBe, vSe, rfl, HE6, HE7, HE8, HEb⟩; refine ⟨_, rfl, ?_⟩; obtain ⟨E6, e6, rfl⟩ := V2_slice HE6; obtain ⟨E7, e7, rfl⟩ := V2_slice HE7; obtain ⟨E8, e8, rfl⟩ := V2_slice HE8; have hO := Aside0.mk (ownS_mk hSm.out hB2.out hX2.out hgg.out hg2'.out hRb.out hV6.out hV7.out hV8.out hB3.out HE6 HE7 HE8 HEb); clear HE6 HE7 HE8 HEb hRb hV6 hV7 hV8 hB3 hB3' hCb hgg hg2' hB2 hX2; (try dsimp only))
    | go_step)
  obtain ⟨W0, hW0⟩ : ∃ W0, w4.alloc (.cells #[.int .u8 m.k, .int .u64 m.n, .int .i64 m.r, .int .u64 m.first, .int .u64 m.last, .int .u64 m.commit, .slice E6 m.V.length e6, .slice E7 m.B.length e7, .slice E8 m.S.length e8] 29) = W0 := ⟨_, rfl⟩
  have hO1 : Aside0 (OwnS m n w W0 g w2.heap.size w3.heap.size w4.heap.size Ab A6 A7 A8 D6 D7 D8 E6 E7 E8 c6 c7 c8 d6 d7 d8 e6 e7 e8) := ⟨by rw [← hW0]; exact hO.out⟩
  rw [hW0]
  have hM0 := Aside0.mk hO1.out.mu
  have hn9 : Aside0 (n < 9223372036854775806) := ⟨by have := hnk.out; omega⟩
  have hV9 : Aside0 (m.V.length < 9223372036854775806) := ⟨by have := hSm.out.nV; omega⟩
  have hB9 : Aside0 (m.B.length < 9223372036854775806) := ⟨by have := hSm.out.nB; omega⟩
  have hS9 : Aside0 (m.S.length < 9223372036854775806) := ⟨by have := hSm.out.nS; omega⟩
  clear hO hW0 hn

  repeat go_step
  go_loopg [10] n (fun kq v10 w' => ∃ i : Nat, v10 = .int .i64 i ∧ Aside0 (kq + i = n) ∧ Aside0 (Mut (SO g w2.heap.size w3.heap.size) W0 w' Ab D6 D7 D8 n m.V.length m.B.length m.S.length))
  case atStart => exact ⟨0, rfl, ⟨rfl⟩, hM0⟩
  case round =>
    clear hM0
    obtain ⟨i, rfl, hk, hM⟩ := hrel
    skip
    cases gk with
    | succ k2 =>
      have c3 : decide ((i : Int) < (n : Int)) = true := decide_eq_true (by have := hk.out; omega)
      have c4 : decide (i < n) = true := decide_eq_true (by have := hk.out; omega)
      have p0 : (0 ≤ (i : Int)) = True := eq_true (by omega)
      have q0 : ((i : Int) < (n : Int)) = True := eq_true (by have := hk.out; omega)
      have hi := Aside0.mk (show i < n by have := hk.out; omega)
      have hw : (i : Int) < 9223372036854775806 := by have := hn9.out; have := hi.out; omega
      obtain ⟨ad, x, rfl, hx, hf, hs⟩ := hM.out.b i hi.out
      have hs' := Aside0.mk hs
      clear hs
      repeat go_step
      go_roundg k2
      case measure => omega
      case rel => exact ⟨i + 1, by go_num, ⟨by have := hk.out; omega⟩, ⟨hM.out.byte hx (by rw [add_block]; exact hs'.out)⟩⟩
    | zero =>
      have c3 : decide ((i : Int) < (n : Int)) = false := decide_eq_false (by have := hk.out; omega)
      have c4 : decide (i < n) = false := decide_eq_false (by have := hk.out; omega)
      repeat go_step
      have hM3 := hM
      clear hM
      repeat go_step
      go_loopg [11] m.V.length (fun kq v11 w' => ∃ i : Nat, v11 = .int .i64 i ∧ Aside0 (kq + i = m.V.length) ∧ Aside0 (Mut (SO g w2.heap.size w3.heap.size) W0 w' Ab D6 D7 D8 n m.V.length m.B.length m.S.length))
      case atStart => exact ⟨0, rfl, ⟨rfl⟩, hM3⟩
      case round =>
        clear hM3
        obtain ⟨i, rfl, hk, hM⟩ := hrel
        have hq := (blk_cell (hO1.out.box6 hM.out) 6).trans rfl
        cases gk with
        | succ k2 =>
          have c3 : decide ((i : Int) < (m.V.length : Int)) = true := decide_eq_true (by have := hk.out; omega)
          have c4 : decide (i < m.V.length) = true := decide_eq_true (by have := hk.out; omega)
          have p0 : (0 ≤ (i : Int)) = True := eq_true (by omega)
          have q0 : ((i : Int) < (m.V.length : Int)) = True := eq_true (by have := hk.out; omega)
          have hi := Aside0.mk (show i < m.V.length by have := hk.out; omega)
          have hw : (i : Int) < 9223372036854775806 := by have := hV9.out; have := hi.out; omega
          obtain ⟨ad, s1, A', n', c', rfl, hx0, hf0, hs, hw3, hx3, hRB, hn'⟩ := hM.out.V i hi.out
          have hw3' := Aside0.mk hw3
          have hn3 := Aside0.mk hn'
          clear hw3 hn'
          have hs' := Aside0.mk hs
          clear hs hRB
          repeat go_step
          go_loopg [12] n' (fun kq v12 w' => ∃ j : Nat, v12 = .int .i64 j ∧ Aside0 (kq + j = n') ∧ Aside0 (Mut (SO g w2.heap.size w3.heap.size) W0 w' Ab (some ad) D7 D8 n m.V.length m.B.length m.S.length))
          case atStart => exact ⟨0, rfl, ⟨rfl⟩, hM⟩
          case round =>
            clear hq hx0 hf0 hx3 hM hw c3 c4
            obtain ⟨j, rfl, hk2, hM2⟩ := hrel
            have hq := (blk_cell (hO1.out.box6 hM2.out) 6).trans rfl
            obtain ⟨ad2, s2, A2, n2, c2, e2, hx0, hf0, hs2, hw32, hx3, hRB2, hn2⟩ := hM2.out.V i hi.out
            obtain rfl := Option.some.inj e2
            have e3 := hw3'.out.symm.trans hw32
            simp only [Option.some.injEq, Value.slice.injEq] at e3
            obtain ⟨rfl, rfl, rfl⟩ := e3
            clear hw32 e2 hn2
            cases gk with
            | zero =>
              have c3 : decide ((j : Int) < (n' : Int)) = false := decide_eq_false (by have := hk2.out; omega)
              have c4 : decide (j < n') = false := decide_eq_false (by have := hk2.out; omega)
              have hw : (i : Int) < 9223372036854775806 := by have := hV9.out; have := hi.out; omega
              repeat go_step
              go_roundg k2
              case measure => omega
              case rel => exact ⟨i + 1, by go_num, ⟨by have := hk.out; omega⟩, ⟨hM2.out.slot hx0 (by rw [add_block]; exact hs'.out)⟩⟩
            | succ k3 =>
              have c3 : decide ((j : Int) < (n' : Int)) = true := decide_eq_true (by have := hk2.out; omega)
              have c4 : decide (j < n') = true := decide_eq_true (by have := hk2.out; omega)
              have p1 : (0 ≤ (j : Int)) = True := eq_true (by omega)
              have q1 : ((j : Int) < (n' : Int)) = True := eq_true (by have := hk2.out; omega)
              have hj := Aside0.mk (show j < n' by have := hk2.out; omega)
              have hw : (j : Int) < 9223372036854775806 := by have := hn3.out; have := hj.out; omega
              obtain ⟨ad3, y, rfl, hy, hfy, hsy⟩ := hRB2 j hj.out
              have hs3 := Aside0.mk hsy
              clear hsy hRB2
              repeat go_step
              go_roundg k3
              case measure => omega
              case rel => exact ⟨j + 1, by go_num, ⟨by have := hk2.out; omega⟩, ⟨hM2.out.byte hy (by rw [add_block]; exact hs3.out)⟩⟩
        | zero =>
          have c3 : decide ((i : Int) < (m.V.length : Int)) = false := decide_eq_false (by have := hk.out; omega)
          have c4 : decide (i < m.V.length) = false := decide_eq_false (by have := hk.out; omega)
          repeat go_step
          have hM4 := hM
          clear hM hq
          repeat go_step
          go_loopg [13] m.B.length (fun kq v13 w' => ∃ i : Nat, v13 = .int .i64 i ∧ Aside0 (kq + i = m.B.length) ∧ Aside0 (Mut (SO g w2.heap.size w3.heap.size) W0 w' Ab D6 D7 D8 n m.V.length m.B.length m.S.length))
          case atStart => exact ⟨0, rfl, ⟨rfl⟩, hM4⟩
          case round =>
            clear hM4
            obtain ⟨i, rfl, hk, hM⟩ := hrel
            have hq := (blk_cell (hO1.out.box6 hM.out) 7).trans rfl
            cases gk with
            | succ k2 =>
              have c3 : decide ((i : Int) < (m.B.length : Int)) = true := decide_eq_true (by have := hk.out; omega)
              have c4 : decide (i < m.B.length) = true := decide_eq_true (by have := hk.out; omega)
              have p0 : (0 ≤ (i : Int)) = True := eq_true (by omega)
              have q0 : ((i : Int) < (m.B.length : Int)) = True := eq_true (by have := hk.out; omega)
              have hi := Aside0.mk (show i < m.B.length by have := hk.out; omega)
              have hw : (i : Int) < 9223372036854775806 := by have := hB9.out; have := hi.out; omega
              obtain ⟨ad, A', n', c', rfl, hw3, hx3, hRB, hn'⟩ := hM.out.B i hi.out
              have hw3' := Aside0.mk hw3
              have hn3 := Aside0.mk hn'
              clear hw3 hn'
              clear hRB
              repeat go_step
              go_loopg [14] n' (fun kq v14 w' => ∃ j : Nat, v14 = .int .i64 j ∧ Aside0 (kq + j = n') ∧ Aside0 (Mut (SO g w2.heap.size w3.heap.size) W0 w' Ab D6 (some ad) D8 n m.V.length m.B.length m.S.length))
              case atStart => exact ⟨0, rfl, ⟨rfl⟩, hM⟩
              case round =>
                clear hq hx3 hM hw c3 c4
                obtain ⟨j, rfl, hk2, hM2⟩ := hrel
                have hq := (blk_cell (hO1.out.box6 hM2.out) 7).trans rfl
                obtain ⟨ad2, A2, n2, c2, e2, hw32, hx3, hRB2, hn2⟩ := hM2.out.B i hi.out
                obtain rfl := Option.some.inj e2
                have e3 := hw3'.out.symm.trans hw32
                simp only [Option.some.injEq, Value.slice.injEq] at e3
                obtain ⟨rfl, rfl, rfl⟩ := e3
                clear hw32 e2 hn2
                cases gk with
                | zero =>
                  have c3 : decide ((j : Int) < (n' : Int)) = false := decide_eq_false (by have := hk2.out; omega)
                  have c4 : decide (j < n') = false := decide_eq_false (by have := hk2.out; omega)
                  have hw : (i : Int) < 9223372036854775806 := by have := hB9.out; have := hi.out; omega
                  repeat go_step
                  go_roundg k2
                  case measure => omega
                  case rel => exact ⟨i + 1, by go_num, ⟨by have := hk.out; omega⟩, ⟨hM2.out⟩⟩
                | succ k3 =>
                  have c3 : decide ((j : Int) < (n' : Int)) = true := decide_eq_true (by have := hk2.out; omega)
                  have c4 : decide (j < n') = true := decide_eq_true (by have := hk2.out; omega)
                  have p1 : (0 ≤ (j : Int)) = True := eq_true (by omega)
                  have q1 : ((j : Int) < (n' : Int)) = True := eq_true (by have := hk2.out; omega)
                  have hj := Aside0.mk (show j < n' by have := hk2.out; omega)
                  have hw : (j : Int) < 9223372036854775806 := by have := hn3.out; have := hj.out; omega
                  obtain ⟨ad3, y, rfl, hy, hfy, hsy⟩ := hRB2 j hj.out
                  have hs3 := Aside0.mk hsy
                  clear hsy hRB2
                  repeat go_step
                  go_roundg k3
                  case measure => omega
                  case rel => exact ⟨j + 1, by go_num, ⟨by have := hk2.out; omega⟩, ⟨hM2.out.byte hy (by rw [add_block]; exact hs3.out)⟩⟩
            | zero =>
              have c3 : decide ((i : Int) < (m.B.length : Int)) = false := decide_eq_false (by have := hk.out; omega)
              have c4 : decide (i < m.B.length) = false := decide_eq_false (by have := hk.out; omega)
              repeat go_step
              have hM5 := hM
              clear hM hq
              repeat go_step
              go_loopg [15] m.S.length (fun kq v15 w' => ∃ i : Nat, v15 = .int .i64 i ∧ Aside0 (kq + i = m.S.length) ∧ Aside0 (Mut (SO g w2.heap.size w3.heap.size) W0 w' Ab D6 D7 D8 n m.V.length m.B.length m.S.length))
              case atStart => exact ⟨0, rfl, ⟨rfl⟩, hM5⟩
              case round =>
                clear hM5
                obtain ⟨i, rfl, hk, hM⟩ := hrel
                have hq := (blk_cell (hO1.out.box6 hM.out) 8).trans rfl
                cases gk with
                | succ k2 =>
                  have c3 : decide ((i : Int) < (m.S.length : Int)) = true := decide_eq_true (by have := hk.out; omega)
                  have c4 : decide (i < m.S.length) = true := decide_eq_true (by have := hk.out; omega)
                  have p0 : (0 ≤ (i : Int)) = True := eq_true (by omega)
                  have q0 : ((i : Int) < (m.S.length : Int)) = True := eq_true (by have := hk.out; omega)
                  have hi := Aside0.mk (show i < m.S.length by have := hk.out; omega)
                  have hw : (i : Int) < 9223372036854775806 := by have := hS9.out; have := hi.out; omega
                  obtain ⟨ad, x, rfl, hx, hf, hs⟩ := hM.out.S i hi.out
                  have hs' := Aside0.mk hs
                  clear hs
                  repeat go_step
                  go_roundg k2
                  case measure => omega
                  case rel => exact ⟨i + 1, by go_num, ⟨by have := hk.out; omega⟩, ⟨hM.out.byte hx (by rw [add_block]; exact hs'.out)⟩⟩
                | zero =>
                  have c3 : decide ((i : Int) < (m.S.length : Int)) = false := decide_eq_false (by have := hk.out; omega)
                  have c4 : decide (i < m.S.length) = false := decide_eq_false (by have := hk.out; omega)
                  have hBw := Aside0.mk (hO1.out.below hM.out)
                  have hLc := Aside0.mk (hO1.out.lies hM.out)
                  have hX1 := Aside0.mk (hO1.out.box1 hM.out)
                  have hX8 := Aside0.mk (hO1.out.box8 hM.out)
                  have hz0 := (blk_cell (hX8.out) 0).trans rfl
                  have hz1 := (blk_cell (hX8.out) 1).trans rfl
                  have hz2 := (blk_cell (hX8.out) 2).trans rfl
                  have hz3 := (blk_cell (hX8.out) 3).trans rfl
                  have hz4 := (blk_cell (hX8.out) 4).trans rfl
                  have hz5 := (blk_cell (hX8.out) 5).trans rfl
                  have hz6 := (blk_cell (hX8.out) 6).trans rfl
                  have hz7 := (blk_cell (hX8.out) 7).trans rfl
                  have hz8 := (blk_cell (hX8.out) 8).trans rfl
                  have hn : Aside0 ((putB m k).length = n) := hn1
                  repeat (first
                    | ((with_reducible refine gate_callee (f := 11) rfl ?_); (with_reducible refine gate_dst (N := 135) rfl ?_); refine goesL_ (some 135) rfl rfl Tryd.func11 (by kernel_rfl) rfl #[.agg #[.int .u8 m.k, .int .u64 m.n, .int .i64 m.r, .int .u64 m.first, .int .u64 m.last, .int .u64 m.commit, .slice E6 m.V.length e6, .slice E7 m.B.length e7, .slice E8 m.S.length e8]] rfl (by (try simp only [List.map_toArray, List.map_cons, List.map_nil]); first | done | rfl) ?_; refine (putW_at m k hW.out hSm.out hc1.out n hn.out E6 E7 E8 e6 e7 e8 _ (hT.out.below hBw.out) hLc.out).mono ?_; rintro e w5 ⟨Az, gz, cz, rfl, _, _, _, _, hCz, HBz⟩; refine ⟨_, rfl, ?_⟩; have hB5 := Aside0.mk (below_step hBw.out HBz); have hX15 := Aside0.mk (blk_below hX1.out HBz); have hX85 := Aside0.mk (blk_below hX8.out HBz); have hL5 := Aside0.mk (hLc.out.below HBz); have hcv := Kd.C_string (P := Tryd.prog) (A := Az) (c := cz) Tryd.underlying27 Tryd.underlying5 Tryd.underlying9 hCz; clear HBz hCz hz0 hz1 hz2 hz3 hz4 hz5 hz6 hz7 hz8; have hy0 := (blk_cell (hX85.out) 0).trans rfl; have hy1 := (blk_cell (hX85.out) 1).trans rfl; have hy2 := (blk_cell (hX85.out) 2).trans rfl; have hy3 := (blk_cell (hX85.out) 3).trans rfl; have hy4 := (blk_cell (hX85.out) 4).trans rfl; have hy5 := (blk_cell (hX85.out) 5).trans rfl; have hy6 := (blk_cell (hX85.out) 6).trans rfl; have hy7 := (blk_cell (hX85.out) 7).trans rfl; have hy8 := (blk_cell (hX85.out) 8).trans rfl; have hv0 := (blk_cell (hX15.out) 0).trans rfl; have hv1 := (blk_cell (hX15.out) 1).trans rfl; have hv2 := (blk_cell (hX15.out) 2).trans rfl; have hv3 := (blk_cell (hX15.out) 3).trans rfl; have hv4 := (blk_cell (hX15.out) 4).trans rfl; have hv5 := (blk_cell (hX15.out) 5).trans rfl; have hv6 := (blk_cell (hX15.out) 6).trans rfl; have hv7 := (blk_cell (hX15.out) 7).trans rfl; have hv8 := (blk_cell (hX15.out) 8).trans rfl; (try dsimp only))
                    | ((with_reducible refine gate_callee (f := 19) rfl ?_); (with_reducible refine gate_dst (N := 149) rfl ?_); refine goesL_ (some 149) rfl rfl Tryd.func19 (by kernel_rfl) rfl #[.agg #[.int .u8 m.k, .int .u64 m.n, .int .i64 m.r, .int .u64 m.first, .int .u64 m.last, .int .u64 m.commit, .slice E6 m.V.length e6, .slice E7 m.B.length e7, .slice E8 m.S.length e8], .agg #[.int .u8 m.k, .int .u64 m.n, .int .i64 m.r, .int .u64 m.first, .int .u64 m.last, .int .u64 m.commit, .slice A6 m.V.length c6, .slice A7 m.B.length c7, .slice A8 m.S.length c8]] rfl (by (try simp only [List.map_toArray, List.map_cons, List.map_nil]); first | done | rfl) ?_; refine (alike_calls m hSm.out E6 E7 E8 A6 A7 A8 e6 e7 e8 c6 c7 c8 _ hL5.out (hL.out.below hB5.out)).mono ?_; rintro e w6 ⟨rfl, HB6⟩; refine ⟨_, rfl, ?_⟩; have hB6 := Aside0.mk (below_step hB5.out HB6); clear HB6; (try dsimp only))
                    | ((with_reducible refine Calls.mono (alike_calls m hSm.out E6 E7 E8 A6 A7 A8 e6 e7 e8 c6 c7 c8 _ hL5.out (hL.out.below hB5.out)) ?_); rintro e w6 ⟨rfl, HB6⟩; have hB6 := Aside0.mk (below_step hB5.out HB6); clear HB6; (try dsimp only))
                    | ((with_reducible refine gate_callee (f := 8) rfl ?_); (with_reducible refine gate_dst (N := 152) rfl ?_); refine goesL_ (some 152) rfl rfl Tryd.func8 (by kernel_rfl) rfl #[] rfl (by (try simp only [List.map_toArray, List.map_cons, List.map_nil]); first | done | rfl) ?_; refine (wakes_at w _ hT.out hB6.out).mono ?_; rintro e w7 ⟨rfl, HB7⟩; refine ⟨_, rfl, ?_⟩; have hB7 := Aside0.mk (below_step hB6.out HB7); clear HB7; (try dsimp only))
                    | ((with_reducible refine Calls.mono (wakes_at w _ hT.out hB6.out) ?_); rintro e w7 ⟨rfl, HB7⟩; have hB7 := Aside0.mk (below_step hB6.out HB7); clear HB7; (try dsimp only))
                    | go_step)
                  go_ret
                  exact ⟨rfl, hB7.out⟩
theorem owns_calls (m : Mg) (k : Nat) (hw : greatB m = false → Whole m k) (hby : Byt m) (A6 A7 A8 : Option Addr) (c6 c7 c8 : Nat) (w : World) (T : Tabs w) (h : Lies m w A6 A7 A8 c6 c7 c8) :
    Calls Tryd.prog 6 #[.agg (m.cells A6 A7 A8 c6 c7 c8)] w fun e w' => e = .returned (.bool true) ∧ Below w.heap.size w w' := by
  by_cases hg : greatB m = true
  · exact owns_great m A6 A7 A8 c6 c7 c8 w T h hg
  have hg0 : greatB m = false := by simpa using hg
  by_cases hc : checkM m k = true
  · exact owns_yes m k (hw hg0) hby A6 A7 A8 c6 c7 c8 w T h hg0 hc
  · exact owns_no m k (hw hg0) A6 A7 A8 c6 c7 c8 w T h hg0 (by simpa using hc)
end Go.Proofs.YtfkfboigkpofkaaDoor.M
end
section
namespace Go.Proofs.YtfkfboigkpofkaaDoor.M
open Go.RowKit Go.Proofs.YtfkfboigkpofkaaDoorW.PrintWords Go.Proofs.YtfkfboigkpofkaaDoorW.PrintLast Go.Proofs.YtfkfboigkpofkaaDoorW.PrintMore Go.Proofs.YtfkfboigkpofkaaDoor.PMsgPuts
set_option linter.unusedVariables false
set_option linter.unusedSimpArgs false
open Go.ChangeShapes Go.WideShapes Go.ChangeAt Go.Deep
abbrev laidL : List (String × DataW Unit) := [("quorate/crc.steps", Rows.laid_quorate_crc_steps), ("quorate/msg.fields", Rows.laid_quorate_msg_fields)]
theorem gSteps : Tryd.prog.globalNamed "quorate/crc.steps" = some 2 := by kernel_rfl
theorem gFields : Tryd.prog.globalNamed "quorate/msg.fields" = some 0 := by kernel_rfl
theorem tSteps : (Tryd.prog.globals[2]?).map (·.type) = some 115 := by kernel_rfl
theorem tFields : (Tryd.prog.globals[0]?).map (·.type) = some 57 := by kernel_rfl
theorem cells_strs {H : Type} {enc : TypeId × Value → H} {P : Program} {w : World} {base : Nat} {sp : Nat → Bool} {held : Bool} {fuel : Nat} {t e : TypeId} {n : Nat} {cs : List Value} {ls : List (List UInt8)} {p : List MemPlace}
    (ht : P.underlying t = some (.array n e)) (he : P.underlying e = some .string) (hce : P.cellsOf e = 1)
    (h : DataW.trod enc P w base sp held fuel t cs = some (.agg (ls.map fun l => DataW.lit (Lit.string l)), p)) : ∀ (i : Nat) (l : List UInt8), ls[i]? = some l → cs[i]? = some (Value.string ⟨l.toArray⟩) := by
  obtain ⟨xs, m, _, hx, _, hn, hel⟩ := DataW.trod_array ht h
  simp only [Prod.mk.injEq, DataW.agg.injEq] at hx
  intro i l hl
  have h1 : (xs.map (·.1))[i]? = some (DataW.lit (.string l) : DataW H) := by
    rw [← hx.1, List.getElem?_map, hl]
    rfl
  rw [List.getElem?_map, Option.map_eq_some_iff] at h1
  obtain ⟨y, hy, hy2⟩ := h1
  have hin : i < n := by rw [← hn]; exact (List.getElem?_eq_some_iff.1 hy).1
  have h2 := hel i hin
  rw [hy, hce] at h2
  obtain ⟨s, hs1, hs2, _⟩ := DataW.trod_string he h2
  have h3 : cs[i]? = some (.string s) := by
    have := congrArg (·[0]?) hs1
    simpa [List.getElem?_take, List.getElem?_drop] using this
  rw [hs2] at hy2
  simp only [DataW.lit.injEq, Lit.string.injEq] at hy2
  rw [h3, ← hy2]
theorem tabs_of_laid {W : World} (h : laidMetH Tryd.prog laidL W) : Tabs W := by
  rw [MakeChecks.laidMetH_plain _ _ _ (by kernel_rfl)] at h
  obtain ⟨ps, ⟨g0, t0, cs0, f0, p0, q0, hg0, ht0, hv0, hd0, ⟨g1, t1, cs1, f1, p1, q1, hg1, ht1, hv1, hd1, _, _⟩, _⟩, _, _⟩ := h
  obtain rfl := Option.some.inj (gSteps.symm.trans hg0)
  obtain rfl := Option.some.inj (gFields.symm.trans hg1)
  obtain rfl := Option.some.inj (tSteps.symm.trans ht0)
  obtain rfl := Option.some.inj (tFields.symm.trans ht1)
  have e0 := Lib.cells_of_tab (zs := (List.range 16).map fun i => stp i) (k := .u32) Tryd.underlying115 Tryd.underlying64 (by kernel_rfl) (by kernel_rfl) hd0
  have e1 := cells_strs (ls := (List.range 9).map fun i => fld i) Tryd.underlying57 Tryd.underlying9 (by kernel_rfl) hd1
  refine ⟨fun i hi => ?_, fun i hi => ?_⟩
  · rw [World.var?_cell hg1 hv1 i]
    have h1 := e1 i (fld i) (by rw [List.getElem?_map, List.getElem?_range hi]; rfl)
    rw [Array.getElem?_toList] at h1
    exact h1
  · rw [World.var?_cell hg0 hv0 i, ← Array.getElem?_toList, e0]
    simp [List.getElem?_range hi]
section
variable {H : Type} {enc : TypeId × Value → H} {w : World}
theorem slice_C {t e : TypeId} {α : Type} (d : Kd α) (Good : α → Prop) (ht : Tryd.prog.underlying t = some (.slice e)) (hC : Tryd.prog.cellsOf e = d.sz)
    (hel : ∀ (n : Nat) (cs : List Value) (x : DataW H × List MemPlace), cs.length = d.sz → DataW.trod enc Tryd.prog w 0 (fun _ => true) true n e cs = some x → ∃ p : α, d.K w p cs ∧ Good p)
    {fuel : Nat} {cs : List Value} {x : DataW H × List MemPlace} (h : DataW.trod enc Tryd.prog w 0 (fun _ => true) true fuel t cs = some x) :
    ∃ A c l, cs = [.slice A (l : List α).length c] ∧ l.length ≤ c ∧ d.C w A l.length l ∧ ∀ p ∈ l, Good p := by
  rcases open_slice ht h with ⟨rfl, _⟩ | ⟨a, len, cap, m, n, D, Pl, rfl, _, hl, hm, hmm, _, hi⟩
  · exact ⟨none, 0, [], rfl, Nat.le_refl _, Kd.C_nil d w, fun p hp => by cases hp⟩
  · have hmc : m = cap := by simpa using hmm
    have hex : ∀ i : Fin len, ∃ p : α, (∃ cs', w.cells? 0 (a.add (i * d.sz)) d.sz = some cs' ∧ d.K w p cs') ∧ Good p := by
      intro i
      obtain ⟨cs', h1, h2⟩ := hi i.1 (by omega)
      rw [hC] at h1
      obtain ⟨_, hlen, _⟩ := World.cells?_some h1
      obtain ⟨p, hp, hg⟩ := hel n cs' _ hlen h2
      exact ⟨p, ⟨cs', h1, hp⟩, hg⟩
    let f : Fin len → α := fun i => Classical.choose (hex i)
    have hf : ∀ i : Fin len, (∃ cs', w.cells? 0 (a.add (i * d.sz)) d.sz = some cs' ∧ d.K w (f i) cs') ∧ Good (f i) := fun i => Classical.choose_spec (hex i)
    have hlen : (List.ofFn f).length = len := List.length_ofFn
    refine ⟨some a, cap, List.ofFn f, by rw [hlen], by rw [hlen]; exact hl, ⟨rfl, by rw [hlen]; unfold maxLen at hm; omega, fun _ => ⟨a, rfl, fun j p hj => ?_⟩⟩, fun p hp => ?_⟩
    · obtain ⟨hjl, hjp⟩ := List.getElem?_eq_some_iff.1 hj
      rw [hlen] at hjl
      obtain ⟨⟨cs', h1, h2⟩, _⟩ := hf ⟨j, hjl⟩
      have e : p = f ⟨j, hjl⟩ := by rw [← hjp, List.getElem_ofFn]
      rw [e]
      obtain ⟨_, hcl, hat⟩ := World.cells?_some h1
      refine ⟨cs', hcl, h2, fun i u hu => ?_⟩
      have hil : i < d.sz := by rw [← hcl]; exact (List.getElem?_eq_some_iff.1 hu).1
      have h3 := hat i hil
      rw [Deep.add_add] at h3
      exact h3.trans hu
    · obtain ⟨i, rfl⟩ := List.mem_ofFn.1 hp
      exact (hf i).2
theorem wf_u8 {n : Int} (h : (Lit.int .u8 n).wf = true) : 0 ≤ n ∧ n < 256 := by
  simp [Lit.wf, IntKind.min, IntKind.max, IntKind.signed, IntKind.bits] at h
  omega
theorem wf_u64 {n : Int} (h : (Lit.int .u64 n).wf = true) : U n := by
  simp [Lit.wf, IntKind.min, IntKind.max, IntKind.signed, IntKind.bits] at h
  unfold U
  omega
theorem wf_i64 {n : Int} (h : (Lit.int .i64 n).wf = true) : -9223372036854775808 ≤ n ∧ n ≤ 9223372036854775807 := by
  simp [Lit.wf, IntKind.min, IntKind.max, IntKind.signed, IntKind.bits] at h
  omega
theorem open_bytes {fuel : Nat} {cs : List Value} {x : DataW H × List MemPlace} (h : DataW.trod enc Tryd.prog w 0 (fun _ => true) true fuel 27 cs = some x) :
    ∃ A c l, cs = [.slice A (l : List Int).length c] ∧ l.length ≤ c ∧ (Kd.int .u8).C w A l.length l ∧ Bys l :=
  slice_C (Kd.int .u8) (fun n => 0 ≤ n ∧ n < 256) Tryd.underlying27 (by kernel_rfl) (fun n cs x _ h => by
    obtain ⟨n, rfl, _, hw⟩ := DataW.trod_int Tryd.underlying5 h
    exact ⟨n, rfl, wf_u8 hw⟩) h
theorem open_rows {fuel : Nat} {cs : List Value} {x : DataW H × List MemPlace} (h : DataW.trod enc Tryd.prog w 0 (fun _ => true) true fuel 26 cs = some x) :
    ∃ A c l, cs = [.slice A (l : List (List Int)).length c] ∧ l.length ≤ c ∧ (Kd.slice 5 (Kd.int .u8)).C w A l.length l ∧ ∀ p ∈ l, Bys p :=
  slice_C (Kd.slice 5 (Kd.int .u8)) Bys Tryd.underlying26 (by kernel_rfl) (fun n cs x _ h => by
    obtain ⟨A, c, l, rfl, hl, hC, hb⟩ := open_bytes h
    exact ⟨l, ⟨A, c, rfl, hl, hC⟩, hb⟩) h
theorem two_of {l : List Value} (h : l.length = 2) : ∃ a b, l = [a, b] := by
  match l, h with
  | [a, b], _ => exact ⟨a, b, rfl⟩
theorem four_of {l : List Value} (h : l.length = 4) : ∃ a b c d, l = [a, b, c, d] := by
  match l, h with
  | [a, b, c, d], _ => exact ⟨a, b, c, d, rfl⟩
theorem open_ballot {fuel : Nat} {cs : List Value} {x : DataW H × List MemPlace} (h : DataW.trod enc Tryd.prog w 0 (fun _ => true) true fuel 24 cs = some x) (hl : cs.length = 2) :
    ∃ n r, cs = [.int .u64 n, .int .i64 r] ∧ U n ∧ -9223372036854775808 ≤ r ∧ r ≤ 9223372036854775807 := by
  obtain ⟨c0, c1, rfl⟩ := two_of hl
  obtain ⟨ys, n, _, _, _, hyl, hf⟩ := DataW.trod_struct Tryd.underlying24 h
  · have c22 : Tryd.prog.cellsOf 22 = 1 := by kernel_rfl
    have c3 : Tryd.prog.cellsOf 3 = 1 := by kernel_rfl
    have h0 : DataW.trod enc Tryd.prog w 0 (fun _ => true) true n 22 (([c0, c1].drop 0).take (Tryd.prog.cellsOf 22)) = ys[0]? := hf 0 _ rfl
    have h1 : DataW.trod enc Tryd.prog w 0 (fun _ => true) true n 3 (([c0, c1].drop 1).take (Tryd.prog.cellsOf 3)) = ys[1]? := hf 1 _ rfl
    rw [c22] at h0
    rw [c3] at h1
    have hy2 : ys.length = 2 := hyl
    rw [List.getElem?_eq_getElem (by omega)] at h0 h1
    replace h0 : DataW.trod enc Tryd.prog w 0 (fun _ => true) true n 22 [c0] = _ := h0
    replace h1 : DataW.trod enc Tryd.prog w 0 (fun _ => true) true n 3 [c1] = _ := h1
    obtain ⟨a, ha, _, wa⟩ := DataW.trod_int Tryd.underlying22 h0
    obtain ⟨b, hb, _, wb⟩ := DataW.trod_int Tryd.underlying3 h1
    simp only [List.cons.injEq, and_true] at ha hb
    subst ha hb
    exact ⟨a, b, rfl, wf_u64 wa, (wf_i64 wb).1, (wf_i64 wb).2⟩
theorem open_vote {fuel : Nat} {cs : List Value} {x : DataW H × List MemPlace} (hl : cs.length = 4) (h : DataW.trod enc Tryd.prog w 0 (fun _ => true) true fuel 52 cs = some x) :
    ∃ p : S52, k52.K w p cs ∧ UV p ∧ Bys p.f2 := by
  obtain ⟨c0, c1, c2, c3, rfl⟩ := four_of hl
  obtain ⟨ys, n, _, _, _, hyl, hf⟩ := DataW.trod_struct Tryd.underlying52 h
  · have c22 : Tryd.prog.cellsOf 22 = 1 := by kernel_rfl
    have c24 : Tryd.prog.cellsOf 24 = 2 := by kernel_rfl
    have c27 : Tryd.prog.cellsOf 27 = 1 := by kernel_rfl
    have h0 : DataW.trod enc Tryd.prog w 0 (fun _ => true) true n 22 (([c0, c1, c2, c3].drop 0).take (Tryd.prog.cellsOf 22)) = ys[0]? := hf 0 _ rfl
    have h1 : DataW.trod enc Tryd.prog w 0 (fun _ => true) true n 24 (([c0, c1, c2, c3].drop 1).take (Tryd.prog.cellsOf 24)) = ys[1]? := hf 1 _ rfl
    have h2 : DataW.trod enc Tryd.prog w 0 (fun _ => true) true n 27 (([c0, c1, c2, c3].drop 3).take (Tryd.prog.cellsOf 27)) = ys[2]? := hf 2 _ rfl
    rw [c22] at h0
    rw [c24] at h1
    rw [c27] at h2
    have hy3 : ys.length = 3 := hyl
    rw [List.getElem?_eq_getElem (by omega)] at h0 h1 h2
    replace h0 : DataW.trod enc Tryd.prog w 0 (fun _ => true) true n 22 [c0] = _ := h0
    replace h1 : DataW.trod enc Tryd.prog w 0 (fun _ => true) true n 24 [c1, c2] = _ := h1
    replace h2 : DataW.trod enc Tryd.prog w 0 (fun _ => true) true n 27 [c3] = _ := h2
    obtain ⟨a, ha, _, wa⟩ := DataW.trod_int Tryd.underlying22 h0
    obtain ⟨b, r, hbr, wb, _, _⟩ := open_ballot h1 rfl
    obtain ⟨A, c, l, hle, hlc, hC, hb⟩ := open_bytes h2
    simp only [List.cons.injEq, and_true] at ha hbr hle
    obtain ⟨hb1, hb2⟩ := hbr
    subst ha hb1 hb2 hle
    exact ⟨⟨a, ⟨b, r⟩, l⟩, k52_mk w ⟨a, ⟨b, r⟩, l⟩ hlc hC, ⟨wf_u64 wa, wb⟩, hb⟩
theorem cons_of {l : List Value} {n : Nat} (h : l.length = n + 1) : ∃ a t, l = a :: t ∧ t.length = n := by
  cases l with
  | nil => cases h
  | cons a t => exact ⟨a, t, rfl, Nat.succ.inj h⟩
theorem nine_of {l : List Value} (h : l.length = 9) : ∃ a b c d e f g i j, l = [a, b, c, d, e, f, g, i, j] := by
  obtain ⟨x0, l0, rfl, h0⟩ := cons_of h
  obtain ⟨x1, l1, rfl, h1⟩ := cons_of h0
  obtain ⟨x2, l2, rfl, h2⟩ := cons_of h1
  obtain ⟨x3, l3, rfl, h3⟩ := cons_of h2
  obtain ⟨x4, l4, rfl, h4⟩ := cons_of h3
  obtain ⟨x5, l5, rfl, h5⟩ := cons_of h4
  obtain ⟨x6, l6, rfl, h6⟩ := cons_of h5
  obtain ⟨x7, l7, rfl, h7⟩ := cons_of h6
  obtain ⟨x8, l8, rfl, h8⟩ := cons_of h7
  obtain rfl := List.length_eq_zero_iff.mp h8
  exact ⟨x0, x1, x2, x3, x4, x5, x6, x7, x8, rfl⟩
structure Rng (m : Mg) (k : Nat) : Prop where
  n : U m.n
  first : U m.first
  last : U m.last
  commit : U m.commit
  V : ∀ x ∈ m.V, UV x ∧ Bys x.f2
  B : ∀ x ∈ m.B, Bys x
  S : Bys m.S
  hk : m.k = k
  k8 : k < 256
theorem Rng.whole {m : Mg} {k : Nat} (h : Rng m k) (hs : Small m) : Whole m k :=
  ⟨⟨h.n, h.first, h.last, h.commit, fun x hx => (h.V x hx).1, by have := hs.nV; unfold Fits; omega, by have := hs.nB; unfold Fits; omega⟩, h.hk, h.k8⟩
set_option maxRecDepth 100000 in
theorem open_msg {r : Reach} {b0 : Nat} {v : Value} {d : DataW H} {p : List MemPlace} (hv : Value.okWide Tryd.prog w r b0 29 v) (h : DataW.Trod enc Tryd.prog w 0 (fun _ => true) true 29 v d p) :
    ∃ (m : Mg) (k : Nat) (A6 A7 A8 : Option Addr) (c6 c7 c8 : Nat), v = Value.agg (m.cells A6 A7 A8 c6 c7 c8) ∧ Lies m w A6 A7 A8 c6 c7 c8 ∧ Rng m k := by
  obtain ⟨cs, hcs, hsz⟩ := okWide_struct (P := Tryd.prog) (w := w) (r := r) (base := b0) (t := 29) (v := v) Tryd.underlying29 hv
  subst hcs
  have h9 : Tryd.prog.cellsOf 29 = 9 := by kernel_rfl
  rw [h9] at hsz
  obtain ⟨l⟩ := cs
  obtain ⟨c0, c1, c2, c3, c4, c5, c6, c7, c8, rfl⟩ := nine_of hsz
  obtain ⟨fuel, hf0⟩ := h
  obtain ⟨ys, n, _, _, _, hyl, hf⟩ := DataW.trod_struct Tryd.underlying29 hf0
  have c5_ : Tryd.prog.cellsOf 5 = 1 := by kernel_rfl
  have c22 : Tryd.prog.cellsOf 22 = 1 := by kernel_rfl
  have c24 : Tryd.prog.cellsOf 24 = 2 := by kernel_rfl
  have c25 : Tryd.prog.cellsOf 25 = 1 := by kernel_rfl
  have c26 : Tryd.prog.cellsOf 26 = 1 := by kernel_rfl
  have c27 : Tryd.prog.cellsOf 27 = 1 := by kernel_rfl
  have hy8 : ys.length = 8 := hyl
  have h0 : DataW.trod enc Tryd.prog w 0 (fun _ => true) true n 5 (([c0, c1, c2, c3, c4, c5, c6, c7, c8].drop 0).take (Tryd.prog.cellsOf 5)) = ys[0]? := hf 0 _ rfl
  have h1 : DataW.trod enc Tryd.prog w 0 (fun _ => true) true n 24 (([c0, c1, c2, c3, c4, c5, c6, c7, c8].drop 1).take (Tryd.prog.cellsOf 24)) = ys[1]? := hf 1 _ rfl
  have h2 : DataW.trod enc Tryd.prog w 0 (fun _ => true) true n 22 (([c0, c1, c2, c3, c4, c5, c6, c7, c8].drop 3).take (Tryd.prog.cellsOf 22)) = ys[2]? := hf 2 _ rfl
  have h3 : DataW.trod enc Tryd.prog w 0 (fun _ => true) true n 22 (([c0, c1, c2, c3, c4, c5, c6, c7, c8].drop 4).take (Tryd.prog.cellsOf 22)) = ys[3]? := hf 3 _ rfl
  have h4 : DataW.trod enc Tryd.prog w 0 (fun _ => true) true n 22 (([c0, c1, c2, c3, c4, c5, c6, c7, c8].drop 5).take (Tryd.prog.cellsOf 22)) = ys[4]? := hf 4 _ rfl
  have h5 : DataW.trod enc Tryd.prog w 0 (fun _ => true) true n 25 (([c0, c1, c2, c3, c4, c5, c6, c7, c8].drop 6).take (Tryd.prog.cellsOf 25)) = ys[5]? := hf 5 _ rfl
  have h6 : DataW.trod enc Tryd.prog w 0 (fun _ => true) true n 26 (([c0, c1, c2, c3, c4, c5, c6, c7, c8].drop 7).take (Tryd.prog.cellsOf 26)) = ys[6]? := hf 6 _ rfl
  have h7 : DataW.trod enc Tryd.prog w 0 (fun _ => true) true n 27 (([c0, c1, c2, c3, c4, c5, c6, c7, c8].drop 8).take (Tryd.prog.cellsOf 27)) = ys[7]? := hf 7 _ rfl
  rw [c5_] at h0
  rw [c24] at h1
  rw [c22] at h2 h3 h4
  rw [c25] at h5
  rw [c26] at h6
  rw [c27] at h7
  rw [List.getElem?_eq_getElem (by omega)] at h0 h1 h2 h3 h4 h5 h6 h7
  replace h0 : DataW.trod enc Tryd.prog w 0 (fun _ => true) true n 5 [c0] = _ := h0
  replace h1 : DataW.trod enc Tryd.prog w 0 (fun _ => true) true n 24 [c1, c2] = _ := h1
  replace h2 : DataW.trod enc Tryd.prog w 0 (fun _ => true) true n 22 [c3] = _ := h2
  replace h3 : DataW.trod enc Tryd.prog w 0 (fun _ => true) true n 22 [c4] = _ := h3
  replace h4 : DataW.trod enc Tryd.prog w 0 (fun _ => true) true n 22 [c5] = _ := h4
  replace h5 : DataW.trod enc Tryd.prog w 0 (fun _ => true) true n 25 [c6] = _ := h5
  replace h6 : DataW.trod enc Tryd.prog w 0 (fun _ => true) true n 26 [c7] = _ := h6
  replace h7 : DataW.trod enc Tryd.prog w 0 (fun _ => true) true n 27 [c8] = _ := h7
  obtain ⟨k, e0, _, w0⟩ := DataW.trod_int Tryd.underlying5 h0
  obtain ⟨bn, br, e1, w1, _, _⟩ := open_ballot h1 rfl
  obtain ⟨f, e2, _, w2⟩ := DataW.trod_int Tryd.underlying22 h2
  obtain ⟨la, e3, _, w3⟩ := DataW.trod_int Tryd.underlying22 h3
  obtain ⟨co, e4, _, w4⟩ := DataW.trod_int Tryd.underlying22 h4
  obtain ⟨A6, d6, V, e5, l6, r6, g6⟩ := slice_C k52 (fun x => UV x ∧ Bys x.f2) Tryd.underlying25 (by kernel_rfl) (fun n cs x hl h => open_vote hl h) h5
  obtain ⟨A7, d7, B, e6, l7, r7, g7⟩ := open_rows h6
  obtain ⟨A8, d8, S, e7, l8, r8, g8⟩ := open_bytes h7
  simp only [List.cons.injEq, and_true] at e0 e1 e2 e3 e4 e5 e6 e7
  obtain ⟨e1, e1b⟩ := e1
  subst e0 e1 e1b e2 e3 e4 e5 e6 e7
  have hk := wf_u8 w0
  exact ⟨⟨k, bn, br, f, la, co, V, B, S⟩, k.toNat, A6, A7, A8, d6, d7, d8, rfl, ⟨⟨r6, r7, r8⟩, l6, l7, l8⟩, ⟨w1, wf_u64 w2, wf_u64 w3, wf_u64 w4, g6, g7, g8, (Int.toNat_of_nonneg hk.1).symm, by omega⟩⟩
end
end Go.Proofs.YtfkfboigkpofkaaDoor.M
end
