/- Parts of a proof, pruned and joined by flat.py out of: OE, OF, OG. -/
import Derived.Test.YtfkfboigkpofkaaDoorCOwn12
section
namespace Go.Proofs.YtfkfboigkpofkaaDoor.M
open Go.RowKit Go.Proofs.YtfkfboigkpofkaaDoorW.PrintWords Go.Proofs.YtfkfboigkpofkaaDoorW.PrintLast Go.Proofs.YtfkfboigkpofkaaDoorW.PrintMore Go.Proofs.YtfkfboigkpofkaaDoor.PMsgPuts
set_option linter.unusedVariables false
set_option linter.unusedSimpArgs false
theorem bytes_alike (l : List Int) (A1 A2 : Option Addr) (c1 c2 : Nat) (w : World) (h1 : Kd.C (Kd.int .u8) w A1 l.length l) (l1 : l.length ≤ c1) (h2 : Kd.C (Kd.int .u8) w A2 l.length l) (l2 : l.length ≤ c2) : Calls Tryd.prog 35 #[.slice A1 l.length c1, .slice A2 l.length c2] w fun e w' => e = .returned (.bool true) ∧ Below w.heap.size w w' := by
  refine (bytes_Equal.calls A1 c1 l A2 c2 l true w h1 l1 h2 l2 (by unfold bytes_Equal.f; simp)).mono ?_
  rintro e w' ⟨rfl, hD⟩
  exact ⟨rfl, below_drawn hD⟩
set_option maxHeartbeats 1000000 in
set_option maxRecDepth 100000 in
theorem vote_alike (x : S52) (A1 A2 : Option Addr) (c1 c2 : Nat) (w : World) (h1 : Kd.C (Kd.int .u8) w A1 x.f2.length x.f2) (l1 : x.f2.length ≤ c1) (h2 : Kd.C (Kd.int .u8) w A2 x.f2.length x.f2) (l2 : x.f2.length ≤ c2) :
    Calls Tryd.prog 44 #[.agg #[.int .u64 x.f0, .int .u64 x.f1.f0, .int .i64 x.f1.f1, .slice A1 x.f2.length c1], .agg #[.int .u64 x.f0, .int .u64 x.f1.f0, .int .i64 x.f1.f1, .slice A2 x.f2.length c2]] w fun e w' => e = .returned (.bool true) ∧ Below w.heap.size w w' := by
  have hx := Aside0.mk (blk_alloc (heap_alloc_new w (.cells #[.int .u64 x.f0, .int .u64 x.f1.f0, .int .i64 x.f1.f1, .slice A1 x.f2.length c1] 52)) (.cells #[.int .u64 x.f0, .int .u64 x.f1.f0, .int .i64 x.f1.f1, .slice A2 x.f2.length c2] 52))
  have hy : Aside0 (((w.alloc (.cells #[.int .u64 x.f0, .int .u64 x.f1.f0, .int .i64 x.f1.f1, .slice A1 x.f2.length c1] 52)).alloc (.cells #[.int .u64 x.f0, .int .u64 x.f1.f0, .int .i64 x.f1.f1, .slice A2 x.f2.length c2] 52)).heap[w.heap.size + 1]? = some (.cells #[.int .u64 x.f0, .int .u64 x.f1.f0, .int .i64 x.f1.f1, .slice A2 x.f2.length c2] 52 (0, 0))) := ⟨by have h9 := heap_alloc_new (w.alloc (.cells #[.int .u64 x.f0, .int .u64 x.f1.f0, .int .i64 x.f1.f1, .slice A1 x.f2.length c1] 52)) (.cells #[.int .u64 x.f0, .int .u64 x.f1.f0, .int .i64 x.f1.f1, .slice A2 x.f2.length c2] 52); simpa using h9⟩
  have hB := Aside0.mk (below_alloc (bel1 w (.cells #[.int .u64 x.f0, .int .u64 x.f1.f0, .int .i64 x.f1.f1, .slice A1 x.f2.length c1] 52)) (.cells #[.int .u64 x.f0, .int .u64 x.f1.f0, .int .i64 x.f1.f1, .slice A2 x.f2.length c2] 52))
  have hc : Aside0 (∀ W, Below w.heap.size w W → Calls Tryd.prog 35 #[.slice A1 x.f2.length c1, .slice A2 x.f2.length c2] W fun e w' => e = .returned (.bool true) ∧ Below W.heap.size W w') := ⟨fun W hW => bytes_alike x.f2 A1 A2 c1 c2 W (Kd.C_below h1 hW) l1 (Kd.C_below h2 hW) l2⟩
  have hp0 := (blk_cell (hx.out) 0).trans rfl
  have hp1 := (blk_cell (hx.out) 1).trans rfl
  have hp2 := (blk_cell (hx.out) 2).trans rfl
  have hp3 := (blk_cell (hx.out) 3).trans rfl
  have hq0 := (blk_cell (hy.out) 0).trans rfl
  have hq1 := (blk_cell (hy.out) 1).trans rfl
  have hq2 := (blk_cell (hy.out) 2).trans rfl
  have hq3 := (blk_cell (hy.out) 3).trans rfl
  clear h1 h2 l1 l2
  go_enter Tryd.func44, Tryd.ntmps44
  repeat (first
    | ((with_reducible refine gate_callee (f := 35) rfl ?_); (with_reducible refine gate_dst (N := 22) rfl ?_); refine goesL_ (some 22) rfl rfl Tryd.func35 (by kernel_rfl) rfl #[.slice A1 x.f2.length c1, .slice A2 x.f2.length c2] rfl (by (try simp only [List.map_toArray, List.map_cons, List.map_nil]); first | done | rfl) ?_; refine (hc.out _ hB.out).mono ?_; rintro e w2 ⟨rfl, HB2⟩; refine ⟨_, rfl, ?_⟩; have hB2 := Aside0.mk (below_step hB.out HB2); clear HB2; (try dsimp only))
    | ((with_reducible refine Calls.mono (hc.out _ hB.out) ?_); rintro e w2 ⟨rfl, HB2⟩; have hB2 := Aside0.mk (below_step hB.out HB2); clear HB2; (try dsimp only))
    | go_step)
  go_ret
  exact ⟨rfl, hB2.out⟩
set_option maxHeartbeats 1000000 in
set_option maxRecDepth 100000 in
theorem votes_alike (V : List S52) (A1 A2 : Option Addr) (c1 c2 : Nat) (w : World) (hn : V.length < 9223372036854775806) (h1 : Kd.C k52 w A1 V.length V) (h2 : Kd.C k52 w A2 V.length V) :
    Calls Tryd.prog 43 #[.slice A1 V.length c1, .slice A2 V.length c2, .func (.func 44) #[] #[]] w fun e w' => e = .returned (.bool true) ∧ Below w.heap.size w w' := by
  have Ha := Aside0.mk h1
  have Hb := Aside0.mk h2
  clear h1 h2
  go_enter Tryd.func43, Tryd.ntmps43
  repeat go_step
  go_loopg [17] V.length (fun kq v17 w' => ∃ i : Nat, v17 = .int .i64 i ∧ Aside0 (kq + i = V.length) ∧ Aside0 (Below w.heap.size w w'))
  case atStart => exact ⟨0, rfl, ⟨rfl⟩, ⟨Below.refl _ _⟩⟩
  case round =>
    obtain ⟨i, rfl, hk, hB⟩ := hrel
    cases gk with
    | zero =>
      have c3 : decide ((i : Int) < (V.length : Int)) = false := decide_eq_false (by have := hk.out; omega)
      have c4 : decide (i < V.length) = false := decide_eq_false (by have := hk.out; omega)
      repeat go_step
      go_ret
      exact ⟨rfl, hB.out⟩
    | succ k2 =>
      have c3 : decide ((i : Int) < (V.length : Int)) = true := decide_eq_true (by have := hk.out; omega)
      have c4 : decide (i < V.length) = true := decide_eq_true (by have := hk.out; omega)
      have p0 : 0 ≤ (i : Int) := by omega
      have q0 : (i : Int) < (V.length : Int) := by have := hk.out; omega
      obtain ⟨ad1, B1, e1, rfl, hx1, hx2, hx3, hx4, hl1, hi1⟩ := at_T52 Ha.out (i : Int) p0 q0
      obtain ⟨ad2, B2, e2, rfl, hy1, hy2, hy3, hy4, hl2, hi2⟩ := at_T52 Hb.out (i : Int) p0 q0
      obtain ⟨x, hxe⟩ : ∃ x, rd_T52 V (i : Int) = x := ⟨_, rfl⟩
      rw [hxe] at hx1 hx2 hx3 hx4 hl1 hi1 hy1 hy2 hy3 hy4 hl2 hi2
      replace hx1 := pw_cell_below hB.out hx1
      replace hx2 := pw_cell_below hB.out hx2
      replace hx3 := pw_cell_below hB.out hx3
      replace hx4 := pw_cell_below hB.out hx4
      replace hy1 := pw_cell_below hB.out hy1
      replace hy2 := pw_cell_below hB.out hy2
      replace hy3 := pw_cell_below hB.out hy3
      replace hy4 := pw_cell_below hB.out hy4
      rw [Int.toNat_natCast] at hx1 hx2 hx3 hx4 hy1 hy2 hy3 hy4
      have hz1 := pw_cell_below (bel1 wr (.cells #[.int .u64 x.f0, .int .u64 x.f1.f0, .int .i64 x.f1.f1, .slice B1 x.f2.length e1] 52)) hy1
      have hz2 := pw_cell_below (bel1 wr (.cells #[.int .u64 x.f0, .int .u64 x.f1.f0, .int .i64 x.f1.f1, .slice B1 x.f2.length e1] 52)) hy2
      have hz3 := pw_cell_below (bel1 wr (.cells #[.int .u64 x.f0, .int .u64 x.f1.f0, .int .i64 x.f1.f1, .slice B1 x.f2.length e1] 52)) hy3
      have hz4 := pw_cell_below (bel1 wr (.cells #[.int .u64 x.f0, .int .u64 x.f1.f0, .int .i64 x.f1.f1, .slice B1 x.f2.length e1] 52)) hy4
      have hX := Aside0.mk (blk_alloc (heap_alloc_new wr (.cells #[.int .u64 x.f0, .int .u64 x.f1.f0, .int .i64 x.f1.f1, .slice B1 x.f2.length e1] 52)) (.cells #[.int .u64 x.f0, .int .u64 x.f1.f0, .int .i64 x.f1.f1, .slice B2 x.f2.length e2] 52))
      have hY : Aside0 (((wr.alloc (.cells #[.int .u64 x.f0, .int .u64 x.f1.f0, .int .i64 x.f1.f1, .slice B1 x.f2.length e1] 52)).alloc (.cells #[.int .u64 x.f0, .int .u64 x.f1.f0, .int .i64 x.f1.f1, .slice B2 x.f2.length e2] 52)).heap[wr.heap.size + 1]? = some (.cells #[.int .u64 x.f0, .int .u64 x.f1.f0, .int .i64 x.f1.f1, .slice B2 x.f2.length e2] 52 (0, 0))) := ⟨by have h9 := heap_alloc_new (wr.alloc (.cells #[.int .u64 x.f0, .int .u64 x.f1.f0, .int .i64 x.f1.f1, .slice B1 x.f2.length e1] 52)) (.cells #[.int .u64 x.f0, .int .u64 x.f1.f0, .int .i64 x.f1.f1, .slice B2 x.f2.length e2] 52); simpa using h9⟩
      have hB1 := Aside0.mk (below_alloc (below_alloc hB.out (.cells #[.int .u64 x.f0, .int .u64 x.f1.f0, .int .i64 x.f1.f1, .slice B1 x.f2.length e1] 52)) (.cells #[.int .u64 x.f0, .int .u64 x.f1.f0, .int .i64 x.f1.f1, .slice B2 x.f2.length e2] 52))
      have hcl : Aside0 (Calls Tryd.prog 44 #[.agg #[.int .u64 x.f0, .int .u64 x.f1.f0, .int .i64 x.f1.f1, .slice B1 x.f2.length e1], .agg #[.int .u64 x.f0, .int .u64 x.f1.f0, .int .i64 x.f1.f1, .slice B2 x.f2.length e2]] ((wr.alloc (.cells #[.int .u64 x.f0, .int .u64 x.f1.f0, .int .i64 x.f1.f1, .slice B1 x.f2.length e1] 52)).alloc (.cells #[.int .u64 x.f0, .int .u64 x.f1.f0, .int .i64 x.f1.f1, .slice B2 x.f2.length e2] 52)) fun e w' => e = .returned (.bool true) ∧ Below ((wr.alloc (.cells #[.int .u64 x.f0, .int .u64 x.f1.f0, .int .i64 x.f1.f1, .slice B1 x.f2.length e1] 52)).alloc (.cells #[.int .u64 x.f0, .int .u64 x.f1.f0, .int .i64 x.f1.f1, .slice B2 x.f2.length e2] 52)).heap.size ((wr.alloc (.cells #[.int .u64 x.f0, .int .u64 x.f1.f0, .int .i64 x.f1.f1, .slice B1 x.f2.length e1] 52)).alloc (.cells #[.int .u64 x.f0, .int .u64 x.f1.f0, .int .i64 x.f1.f1, .slice B2 x.f2.length e2] 52)) w') := ⟨vote_alike x B1 B2 e1 e2 _ (Kd.C_below hi1 hB1.out) hl1 (Kd.C_below hi2 hB1.out) hl2⟩
      have hp0 := (blk_cell (hX.out) 0).trans rfl
      have hp1 := (blk_cell (hX.out) 1).trans rfl
      have hp2 := (blk_cell (hX.out) 2).trans rfl
      have hp3 := (blk_cell (hX.out) 3).trans rfl
      have hq0 := (blk_cell (hY.out) 0).trans rfl
      have hq1 := (blk_cell (hY.out) 1).trans rfl
      have hq2 := (blk_cell (hY.out) 2).trans rfl
      have hq3 := (blk_cell (hY.out) 3).trans rfl
      clear hi1 hi2 hl1 hl2 hy1 hy2 hy3 hy4 hxe
      have hw : (i : Int) < 9223372036854775806 := by omega
      replace p0 := eq_true p0
      replace q0 := eq_true q0
      repeat (first
        | ((with_reducible refine gate_dst (N := 29) rfl ?_); (with_reducible refine gate_tmp rfl ?_); refine closL_ _ rfl rfl Tryd.func44 (by kernel_rfl) rfl #[.agg #[.int .u64 x.f0, .int .u64 x.f1.f0, .int .i64 x.f1.f1, .slice B1 x.f2.length e1], .agg #[.int .u64 x.f0, .int .u64 x.f1.f0, .int .i64 x.f1.f1, .slice B2 x.f2.length e2]] rfl rfl (by (try simp only [List.map_toArray, List.map_cons, List.map_nil]); first | done | rfl) ?_; refine (hcl.out).mono ?_; rintro e w2 ⟨rfl, HB2⟩; refine ⟨_, rfl, ?_⟩; have hB2 := Aside0.mk (below_step hB1.out HB2); clear HB2; (try dsimp only))
        | go_step)
      go_roundg k2
      case measure => omega
      case rel => exact ⟨i + 1, by go_num, ⟨by have := hk.out; omega⟩, hB2⟩
set_option maxHeartbeats 1000000 in
set_option maxRecDepth 100000 in
theorem rows_alike (V : List (List Int)) (A1 A2 : Option Addr) (c1 c2 : Nat) (w : World) (hn : V.length < 9223372036854775806) (h1 : Kd.C (Kd.slice 5 (Kd.int .u8)) w A1 V.length V) (h2 : Kd.C (Kd.slice 5 (Kd.int .u8)) w A2 V.length V) :
    Calls Tryd.prog 45 #[.slice A1 V.length c1, .slice A2 V.length c2, .func (.func 35) #[] #[]] w fun e w' => e = .returned (.bool true) ∧ Below w.heap.size w w' := by
  have Ha := Aside0.mk h1
  have Hb := Aside0.mk h2
  clear h1 h2
  go_enter Tryd.func45, Tryd.ntmps45
  repeat go_step
  go_loopg [17] V.length (fun kq v17 w' => ∃ i : Nat, v17 = .int .i64 i ∧ Aside0 (kq + i = V.length) ∧ Aside0 (Below w.heap.size w w'))
  case atStart => exact ⟨0, rfl, ⟨rfl⟩, ⟨Below.refl _ _⟩⟩
  case round =>
    obtain ⟨i, rfl, hk, hB⟩ := hrel
    cases gk with
    | zero =>
      have c3 : decide ((i : Int) < (V.length : Int)) = false := decide_eq_false (by have := hk.out; omega)
      have c4 : decide (i < V.length) = false := decide_eq_false (by have := hk.out; omega)
      repeat go_step
      go_ret
      exact ⟨rfl, hB.out⟩
    | succ k2 =>
      have c3 : decide ((i : Int) < (V.length : Int)) = true := decide_eq_true (by have := hk.out; omega)
      have c4 : decide (i < V.length) = true := decide_eq_true (by have := hk.out; omega)
      have p0 : 0 ≤ (i : Int) := by omega
      have q0 : (i : Int) < (V.length : Int) := by have := hk.out; omega
      obtain ⟨ad1, B1, e1, rfl, hx1, hl1, hi1⟩ := at_L4 Ha.out (i : Int) p0 q0
      obtain ⟨ad2, B2, e2, rfl, hy1, hl2, hi2⟩ := at_L4 Hb.out (i : Int) p0 q0
      obtain ⟨x, hxe⟩ : ∃ x, rd_L4 V (i : Int) = x := ⟨_, rfl⟩
      rw [hxe] at hx1 hl1 hi1 hy1 hl2 hi2
      replace hx1 := pw_cell_below hB.out hx1
      replace hy1 := pw_cell_below hB.out hy1
      rw [Int.toNat_natCast] at hx1 hy1
      have hcl : Aside0 (Calls Tryd.prog 35 #[.slice B1 x.length e1, .slice B2 x.length e2] wr fun e w' => e = .returned (.bool true) ∧ Below wr.heap.size wr w') := ⟨bytes_alike x B1 B2 e1 e2 _ (Kd.C_below hi1 hB.out) hl1 (Kd.C_below hi2 hB.out) hl2⟩
      clear hi1 hi2 hl1 hl2 hxe
      have hw : (i : Int) < 9223372036854775806 := by omega
      replace p0 := eq_true p0
      replace q0 := eq_true q0
      repeat (first
        | ((with_reducible refine gate_dst (N := 29) rfl ?_); (with_reducible refine gate_tmp rfl ?_); refine closL_ _ rfl rfl Tryd.func35 (by kernel_rfl) rfl #[.slice B1 x.length e1, .slice B2 x.length e2] rfl rfl (by (try simp only [List.map_toArray, List.map_cons, List.map_nil]); first | done | rfl) ?_; refine (hcl.out).mono ?_; rintro e w2 ⟨rfl, HB2⟩; refine ⟨_, rfl, ?_⟩; have hB2 := Aside0.mk (below_step hB.out HB2); clear HB2; (try dsimp only))
        | go_step)
      go_roundg k2
      case measure => omega
      case rel => exact ⟨i + 1, by go_num, ⟨by have := hk.out; omega⟩, hB2⟩
set_option maxHeartbeats 1000000 in
set_option maxRecDepth 100000 in
theorem alike_calls (m : Mg) (hs : Small m) (A6 A7 A8 E6 E7 E8 : Option Addr) (c6 c7 c8 d6 d7 d8 : Nat) (w : World) (ha : Lies m w A6 A7 A8 c6 c7 c8) (hb : Lies m w E6 E7 E8 d6 d7 d8) :
    Calls Tryd.prog 19 #[.agg #[.int .u8 m.k, .int .u64 m.n, .int .i64 m.r, .int .u64 m.first, .int .u64 m.last, .int .u64 m.commit, .slice A6 m.V.length c6, .slice A7 m.B.length c7, .slice A8 m.S.length c8], .agg #[.int .u8 m.k, .int .u64 m.n, .int .i64 m.r, .int .u64 m.first, .int .u64 m.last, .int .u64 m.commit, .slice E6 m.V.length d6, .slice E7 m.B.length d7, .slice E8 m.S.length d8]] w fun e w' => e = .returned (.bool true) ∧ Below w.heap.size w w' := by
  have hV9 : Aside0 (m.V.length < 9223372036854775806) := ⟨by have := hs.nV; omega⟩
  have hB9 : Aside0 (m.B.length < 9223372036854775806) := ⟨by have := hs.nB; omega⟩
  have Ha := Aside0.mk ha
  have Hb := Aside0.mk hb
  have hx := Aside0.mk (blk_alloc (heap_alloc_new w (.cells #[.int .u8 m.k, .int .u64 m.n, .int .i64 m.r, .int .u64 m.first, .int .u64 m.last, .int .u64 m.commit, .slice A6 m.V.length c6, .slice A7 m.B.length c7, .slice A8 m.S.length c8] 29)) (.cells #[.int .u8 m.k, .int .u64 m.n, .int .i64 m.r, .int .u64 m.first, .int .u64 m.last, .int .u64 m.commit, .slice E6 m.V.length d6, .slice E7 m.B.length d7, .slice E8 m.S.length d8] 29))
  have hy : Aside0 (((w.alloc (.cells #[.int .u8 m.k, .int .u64 m.n, .int .i64 m.r, .int .u64 m.first, .int .u64 m.last, .int .u64 m.commit, .slice A6 m.V.length c6, .slice A7 m.B.length c7, .slice A8 m.S.length c8] 29)).alloc (.cells #[.int .u8 m.k, .int .u64 m.n, .int .i64 m.r, .int .u64 m.first, .int .u64 m.last, .int .u64 m.commit, .slice E6 m.V.length d6, .slice E7 m.B.length d7, .slice E8 m.S.length d8] 29)).heap[w.heap.size + 1]? = some (.cells #[.int .u8 m.k, .int .u64 m.n, .int .i64 m.r, .int .u64 m.first, .int .u64 m.last, .int .u64 m.commit, .slice E6 m.V.length d6, .slice E7 m.B.length d7, .slice E8 m.S.length d8] 29 (0, 0))) := ⟨by have h9 := heap_alloc_new (w.alloc (.cells #[.int .u8 m.k, .int .u64 m.n, .int .i64 m.r, .int .u64 m.first, .int .u64 m.last, .int .u64 m.commit, .slice A6 m.V.length c6, .slice A7 m.B.length c7, .slice A8 m.S.length c8] 29)) (.cells #[.int .u8 m.k, .int .u64 m.n, .int .i64 m.r, .int .u64 m.first, .int .u64 m.last, .int .u64 m.commit, .slice E6 m.V.length d6, .slice E7 m.B.length d7, .slice E8 m.S.length d8] 29); simpa using h9⟩
  have hB := Aside0.mk (below_alloc (bel1 w (.cells #[.int .u8 m.k, .int .u64 m.n, .int .i64 m.r, .int .u64 m.first, .int .u64 m.last, .int .u64 m.commit, .slice A6 m.V.length c6, .slice A7 m.B.length c7, .slice A8 m.S.length c8] 29)) (.cells #[.int .u8 m.k, .int .u64 m.n, .int .i64 m.r, .int .u64 m.first, .int .u64 m.last, .int .u64 m.commit, .slice E6 m.V.length d6, .slice E7 m.B.length d7, .slice E8 m.S.length d8] 29))
  have hp0 := (blk_cell (hx.out) 0).trans rfl
  have hp1 := (blk_cell (hx.out) 1).trans rfl
  have hp2 := (blk_cell (hx.out) 2).trans rfl
  have hp3 := (blk_cell (hx.out) 3).trans rfl
  have hp4 := (blk_cell (hx.out) 4).trans rfl
  have hp5 := (blk_cell (hx.out) 5).trans rfl
  have hp6 := (blk_cell (hx.out) 6).trans rfl
  have hp7 := (blk_cell (hx.out) 7).trans rfl
  have hp8 := (blk_cell (hx.out) 8).trans rfl
  have hq0 := (blk_cell (hy.out) 0).trans rfl
  have hq1 := (blk_cell (hy.out) 1).trans rfl
  have hq2 := (blk_cell (hy.out) 2).trans rfl
  have hq3 := (blk_cell (hy.out) 3).trans rfl
  have hq4 := (blk_cell (hy.out) 4).trans rfl
  have hq5 := (blk_cell (hy.out) 5).trans rfl
  have hq6 := (blk_cell (hy.out) 6).trans rfl
  have hq7 := (blk_cell (hy.out) 7).trans rfl
  have hq8 := (blk_cell (hy.out) 8).trans rfl
  clear ha hb hs
  go_enter Tryd.func19, Tryd.ntmps19
  repeat (first
    | ((with_reducible refine gate_callee (f := 43) rfl ?_); (with_reducible refine gate_dst (N := 10) rfl ?_); refine goesL_ (some 10) rfl rfl Tryd.func43 (by kernel_rfl) rfl #[.slice A6 m.V.length c6, .slice E6 m.V.length d6, .func (.func 44) #[] #[]] rfl (by (try simp only [List.map_toArray, List.map_cons, List.map_nil]); first | done | rfl) ?_; refine (votes_alike m.V A6 E6 c6 d6 _ hV9.out (Kd.C_below Ha.out.at_.V hB.out) (Kd.C_below Hb.out.at_.V hB.out)).mono ?_; rintro e w2 ⟨rfl, HB2⟩; refine ⟨_, rfl, ?_⟩; have hB2 := Aside0.mk (below_step hB.out HB2); have hx2 := Aside0.mk (blk_below hx.out HB2); have hy2 := Aside0.mk (blk_below hy.out HB2); clear HB2 hp0 hp1 hp2 hp3 hp4 hp5 hp6 hp7 hp8 hq0 hq1 hq2 hq3 hq4 hq5 hq6 hq7 hq8; have hp0 := (blk_cell hx2.out 0).trans rfl; have hp1 := (blk_cell hx2.out 1).trans rfl; have hp2 := (blk_cell hx2.out 2).trans rfl; have hp3 := (blk_cell hx2.out 3).trans rfl; have hp4 := (blk_cell hx2.out 4).trans rfl; have hp5 := (blk_cell hx2.out 5).trans rfl; have hp6 := (blk_cell hx2.out 6).trans rfl; have hp7 := (blk_cell hx2.out 7).trans rfl; have hp8 := (blk_cell hx2.out 8).trans rfl; have hq0 := (blk_cell hy2.out 0).trans rfl; have hq1 := (blk_cell hy2.out 1).trans rfl; have hq2 := (blk_cell hy2.out 2).trans rfl; have hq3 := (blk_cell hy2.out 3).trans rfl; have hq4 := (blk_cell hy2.out 4).trans rfl; have hq5 := (blk_cell hy2.out 5).trans rfl; have hq6 := (blk_cell hy2.out 6).trans rfl; have hq7 := (blk_cell hy2.out 7).trans rfl; have hq8 := (blk_cell hy2.out 8).trans rfl; (try dsimp only))
    | ((with_reducible refine gate_callee (f := 45) rfl ?_); (with_reducible refine gate_dst (N := 52) rfl ?_); refine goesL_ (some 52) rfl rfl Tryd.func45 (by kernel_rfl) rfl #[.slice A7 m.B.length c7, .slice E7 m.B.length d7, .func (.func 35) #[] #[]] rfl (by (try simp only [List.map_toArray, List.map_cons, List.map_nil]); first | done | rfl) ?_; refine (rows_alike m.B A7 E7 c7 d7 _ hB9.out (Kd.C_below Ha.out.at_.B hB2.out) (Kd.C_below Hb.out.at_.B hB2.out)).mono ?_; rintro e w3 ⟨rfl, HB3⟩; refine ⟨_, rfl, ?_⟩; have hB3 := Aside0.mk (below_step hB2.out HB3); have hp8' := pw_cell_below HB3 hp8; have hq8' := pw_cell_below HB3 hq8; clear HB3; (try dsimp only))
    | ((with_reducible refine Calls.mono (rows_alike m.B A7 E7 c7 d7 _ hB9.out (Kd.C_below Ha.out.at_.B hB2.out) (Kd.C_below Hb.out.at_.B hB2.out)) ?_); rintro e w3 ⟨rfl, HB3⟩; have hB3 := Aside0.mk (below_step hB2.out HB3); have hp8' := pw_cell_below HB3 hp8; have hq8' := pw_cell_below HB3 hq8; clear HB3; (try dsimp only))
    | ((with_reducible refine gate_callee (f := 35) rfl ?_); (with_reducible refine gate_dst (N := 59) rfl ?_); refine goesL_ (some 59) rfl rfl Tryd.func35 (by kernel_rfl) rfl #[.slice A8 m.S.length c8, .slice E8 m.S.length d8] rfl (by (try simp only [List.map_toArray, List.map_cons, List.map_nil]); first | done | rfl) ?_; refine (bytes_alike m.S A8 E8 c8 d8 _ (Kd.C_below Ha.out.at_.S hB3.out) Ha.out.h8 (Kd.C_below Hb.out.at_.S hB3.out) Hb.out.h8).mono ?_; rintro e w4 ⟨rfl, HB4⟩; refine ⟨_, rfl, ?_⟩; have hB4 := Aside0.mk (below_step hB3.out HB4); clear HB4; (try dsimp only))
    | ((with_reducible refine Calls.mono (bytes_alike m.S A8 E8 c8 d8 _ (Kd.C_below Ha.out.at_.S hB3.out) Ha.out.h8 (Kd.C_below Hb.out.at_.S hB3.out) Hb.out.h8) ?_); rintro e w4 ⟨rfl, HB4⟩; have hB4 := Aside0.mk (below_step hB3.out HB4); clear HB4; (try dsimp only))
    | go_step)
  go_ret
  exact ⟨rfl, hB4.out⟩
end Go.Proofs.YtfkfboigkpofkaaDoor.M
end
section
namespace Go.Proofs.YtfkfboigkpofkaaDoor.M
open Go.RowKit Go.Proofs.YtfkfboigkpofkaaDoorW.PrintWords Go.Proofs.YtfkfboigkpofkaaDoorW.PrintLast Go.Proofs.YtfkfboigkpofkaaDoorW.PrintMore Go.Proofs.YtfkfboigkpofkaaDoor.PMsgPuts
set_option linter.unusedVariables false
set_option linter.unusedSimpArgs false
def RB (S : Nat → Prop) (W : World) (A : Option Addr) (n : Nat) : Prop := ∀ j, j < n → ∃ ad x, A = some ad ∧ W.cell? (ad.add j) = some (.int .u8 x) ∧ W.frozen? (ad.add j) = false ∧ S ad.block
def VB (S : Nat → Prop) (W0 W : World) (A : Option Addr) (n : Nat) : Prop := ∀ j, j < n → ∃ ad s A' n' c', A = some ad ∧ W.cell? (ad.add (j * 4)) = some (.int .u64 s) ∧ W.frozen? (ad.add (j * 4)) = false ∧ S ad.block ∧
  W0.cell? ⟨(ad.add (j * 4)).block, (ad.add (j * 4)).off + 3, none⟩ = some (.slice A' n' c') ∧ W.cell? ⟨(ad.add (j * 4)).block, (ad.add (j * 4)).off + 3, none⟩ = some (.slice A' n' c') ∧ RB S W A' n' ∧ n' ≤ 5000
def BB (S : Nat → Prop) (W0 W : World) (A : Option Addr) (n : Nat) : Prop := ∀ j, j < n → ∃ ad A' n' c', A = some ad ∧ W0.cell? (ad.add j) = some (.slice A' n' c') ∧ W.cell? (ad.add j) = some (.slice A' n' c') ∧ RB S W A' n' ∧ n' ≤ 5000
section
variable {S : Nat → Prop} {W0 W : World} {A : Option Addr} {n : Nat} {p : Addr} {y z : Int}
theorem cell_byte {q : Addr} {x : Int} (hp : W.cell? p = some (.int .u8 y)) (hq : W.cell? q = some (.int .u8 x)) : ∃ x', (W.setCell p (.int .u8 z)).cell? q = some (.int .u8 x') := by
  by_cases h : p = q
  · subst h
    exact ⟨z, World.cell?_setCell_same _ _ _ hp⟩
  · exact ⟨x, (World.cell?_setCell_other _ _ _ _ h).trans hq⟩
theorem cell_keep {q : Addr} {u v w : Value} (hp : W.cell? p = some u) (hq : W.cell? q = some v) (hne : u ≠ v) : (W.setCell p w).cell? q = some v := by
  have h : p ≠ q := fun e => by
    subst e
    rw [hp] at hq
    exact hne (Option.some.inj hq)
  exact (World.cell?_setCell_other _ _ _ _ h).trans hq
theorem RB.byte (h : RB S W A n) (hp : W.cell? p = some (.int .u8 y)) : RB S (W.setCell p (.int .u8 z)) A n := fun j hj => by
  obtain ⟨ad, x, e, h1, h2, h3⟩ := h j hj
  obtain ⟨x', h4⟩ := cell_byte (z := z) hp h1
  exact ⟨ad, x', e, h4, by rw [World.frozen?_setCell]; exact h2, h3⟩
theorem RB.slot (h : RB S W A n) (hp : W.cell? p = some (.int .u64 y)) : RB S (W.setCell p (.int .u64 z)) A n := fun j hj => by
  obtain ⟨ad, x, e, h1, h2, h3⟩ := h j hj
  exact ⟨ad, x, e, cell_keep hp h1 (fun e => by cases e), by rw [World.frozen?_setCell]; exact h2, h3⟩
theorem VB.byte (h : VB S W0 W A n) (hp : W.cell? p = some (.int .u8 y)) : VB S W0 (W.setCell p (.int .u8 z)) A n := fun j hj => by
  obtain ⟨ad, s, A', n', c', e, h1, h2, h3, h4, h5, h6, h7⟩ := h j hj
  exact ⟨ad, s, A', n', c', e, cell_keep hp h1 (fun e => by cases e), by rw [World.frozen?_setCell]; exact h2, h3, h4, cell_keep hp h5 (fun e => by cases e), h6.byte hp, h7⟩
theorem VB.slot (h : VB S W0 W A n) (hp : W.cell? p = some (.int .u64 y)) : VB S W0 (W.setCell p (.int .u64 z)) A n := fun j hj => by
  obtain ⟨ad, s, A', n', c', e, h1, h2, h3, h4, h5, h6, h7⟩ := h j hj
  refine ⟨ad, if p = ad.add (j * 4) then z else s, A', n', c', e, ?_, by rw [World.frozen?_setCell]; exact h2, h3, h4, cell_keep hp h5 (fun e => by cases e), h6.slot hp, h7⟩
  by_cases he : p = ad.add (j * 4)
  · rw [if_pos he, he]
    exact World.cell?_setCell_same _ _ _ h1
  · rw [if_neg he]
    exact (World.cell?_setCell_other _ _ _ _ he).trans h1
theorem BB.byte (h : BB S W0 W A n) (hp : W.cell? p = some (.int .u8 y)) : BB S W0 (W.setCell p (.int .u8 z)) A n := fun j hj => by
  obtain ⟨ad, A', n', c', e, h4, h5, h6, h7⟩ := h j hj
  exact ⟨ad, A', n', c', e, h4, cell_keep hp h5 (fun e => by cases e), h6.byte hp, h7⟩
theorem BB.slot (h : BB S W0 W A n) (hp : W.cell? p = some (.int .u64 y)) : BB S W0 (W.setCell p (.int .u64 z)) A n := fun j hj => by
  obtain ⟨ad, A', n', c', e, h4, h5, h6, h7⟩ := h j hj
  exact ⟨ad, A', n', c', e, h4, cell_keep hp h5 (fun e => by cases e), h6.slot hp, h7⟩
end
structure Mut (S : Nat → Prop) (W0 W : World) (Ab A6 A7 A8 : Option Addr) (nb n6 n7 n8 : Nat) : Prop where
  os : W.os = W0.os
  tape : W.tape = W0.tape
  output : W.output = W0.output
  kept : Kept W0 W S
  b : RB S W Ab nb
  V : VB S W0 W A6 n6
  B : BB S W0 W A7 n7
  S : RB S W A8 n8
section
variable {S : Nat → Prop} {W0 W : World} {Ab A6 A7 A8 : Option Addr} {nb n6 n7 n8 : Nat} {p : Addr} {y z : Int}
theorem kept_set (h : Kept W0 W S) (hS : S p.block) (u : Value) : Kept W0 (W.setCell p u) S :=
  ⟨by simpa [World.setCell] using h.1, fun i hi hn => (Below.heap_setCell W p u i (fun e => hn (e ▸ hS))).trans (h.2 i hi hn)⟩
theorem Mut.byte (h : Mut S W0 W Ab A6 A7 A8 nb n6 n7 n8) (hp : W.cell? p = some (.int .u8 y)) (hS : S p.block) : Mut S W0 (W.setCell p (.int .u8 z)) Ab A6 A7 A8 nb n6 n7 n8 :=
  ⟨h.os, h.tape, h.output, kept_set h.kept hS _, h.b.byte hp, h.V.byte hp, h.B.byte hp, h.S.byte hp⟩
theorem Mut.slot (h : Mut S W0 W Ab A6 A7 A8 nb n6 n7 n8) (hp : W.cell? p = some (.int .u64 y)) (hS : S p.block) : Mut S W0 (W.setCell p (.int .u64 z)) Ab A6 A7 A8 nb n6 n7 n8 :=
  ⟨h.os, h.tape, h.output, kept_set h.kept hS _, h.b.slot hp, h.V.slot hp, h.B.slot hp, h.S.slot hp⟩
theorem Mut.blk (h : Mut S W0 W Ab A6 A7 A8 nb n6 n7 n8) {k : Nat} {o : Obj} (hk : W0.heap[k]? = some o) (hn : ¬ S k) : W.heap[k]? = some o := (h.kept.2 k (blk_lt hk) hn).trans hk
theorem Mut.bel (h : Mut S W0 W Ab A6 A7 A8 nb n6 n7 n8) {base : Nat} (hb : base ≤ W0.heap.size) (hS : ∀ k, S k → base ≤ k) : Below base W0 W :=
  ⟨h.os, h.tape, h.output, h.kept.1, fun k hk => h.kept.2 k (Nat.lt_of_lt_of_le hk hb) (fun hs => by have := hS k hs; omega)⟩
end
theorem foot_in {P : World → Prop} {W : World} {ok : Nat → Prop} {a : Addr} (h : Foot P W ok) (hP : ∀ W', P W' → ∃ v, W'.cell? a = some v) : ok a.block := by
  obtain ⟨W', h1, h2⟩ := Kd.emptied W a.block
  rcases Classical.em (ok a.block) with h3 | h3
  · exact h3
  · obtain ⟨v, hv⟩ := hP W' (h W' (fun k hk _ => h1 k (fun e => h3 (e ▸ hk))))
    rw [h2 a rfl] at hv
    cases hv
theorem add_block (a : Addr) (j : Nat) : (a.add j).block = a.block := by unfold Addr.add; (try split) <;> rfl
theorem RB_of {S : Nat → Prop} {W : World} {ok : Nat → Prop} {l : List Int} {v : Value} {base : Nat} (h : V2 KW W base ok v l) (hS : ∀ k, ok k → k < W.heap.size → S k) {A : Option Addr} {n c : Nat} (hv : v = .slice A n c) : RB S W A n := by
  subst hv
  intro j hj
  obtain ⟨A', c', he, hl, hC, hfz⟩ := Kd.FK_now h.2
  simp only [List.cons.injEq, and_true, Value.slice.injEq] at he
  obtain ⟨rfl, rfl, rfl⟩ := he
  have hp : 0 < l.length := by omega
  obtain ⟨ad, rfl, hc⟩ := hC.2.2 hp
  have hC1 := hC
  obtain ⟨x, c, u, h1, h2, h3, h4⟩ := C_cellat hC1 (j := j) (by simpa [Kd.int, Kd.scalar] using hj)
  have hu : u = .int .u8 x := by
    have hk : c = [.int .u8 x] := h2
    subst hk
    have : j % (Kd.int .u8).sz = 0 := Nat.mod_one j
    rw [this] at h3
    exact (Option.some.inj h3).symm
  subst hu
  refine ⟨ad, x, rfl, h4, hfz ad rfl j (by simpa [Kd.int, Kd.scalar] using hj), ?_⟩
  have hin : ok (ad.add j).block := foot_in h.2 (fun W' hW' => by
    obtain ⟨A2, c2, he2, _, hC2, _⟩ := hW'
    simp only [List.cons.injEq, and_true, Value.slice.injEq] at he2
    obtain ⟨e1, _, _⟩ := he2
    subst e1
    obtain ⟨_, _, u2, _, _, _, h9⟩ := C_cellat hC2 (j := j) (by simpa [Kd.int, Kd.scalar] using hj)
    exact ⟨u2, h9⟩)
  rw [add_block] at hin
  have hlt := World.block_lt_of_cell? W _ h4
  rw [add_block] at hlt
  exact hS _ hin hlt
theorem foot_in2 {P : World → Prop} {W : World} {ok : Nat → Prop} {a b : Addr} {u : Value} (h : Foot P W ok) (ha : ok a.block) (hu : W.cell? a = some u) (hP : ∀ W', P W' → W'.cell? a = some u → ∃ v, W'.cell? b = some v) : ok b.block := by
  obtain ⟨W', h1, h2⟩ := Kd.emptied W b.block
  rcases Classical.em (ok b.block) with h3 | h3
  · exact h3
  · have hne : a.block ≠ b.block := fun e => h3 (e ▸ ha)
    obtain ⟨v, hv⟩ := hP W' (h W' (fun k hk _ => h1 k (fun e => h3 (e ▸ hk)))) (by
      unfold World.cell? at hu ⊢
      rw [h1 _ hne]
      exact hu)
    rw [h2 b rfl] at hv
    cases hv
theorem add_three (a : Addr) (j : Nat) : (⟨(a.add j).block, (a.add j).off + 3, none⟩ : Addr) = a.add (j + 3) := by
  unfold Addr.add
  split
  · next h => subst h; simp
  · next h => rw [if_neg (by omega)]; simp [Nat.add_assoc]
theorem RB_in {P : World → Prop} {S ok : Nat → Prop} {W : World} {a : Addr} {l : List Int} {A : Option Addr} {c : Nat} (hF : Foot P W ok) (ha : ok a.block) (hu : W.cell? a = some (.slice A l.length c))
    (hP : ∀ W', P W' → ∃ A' c', W'.cell? a = some (.slice A' l.length c') ∧ (Kd.int .u8).C W' A' l.length l)
    (hC : (Kd.int .u8).C W A l.length l) (hfz : ∀ ad, A = some ad → ∀ j, j < l.length * (Kd.int .u8).sz → W.frozen? (ad.add j) = false)
    (hS : ∀ k, ok k → k < W.heap.size → S k) : RB S W A l.length := by
  intro j hj
  obtain ⟨ad, rfl, hc⟩ := hC.2.2 (by omega)
  obtain ⟨x, c, u, h1, h2, h3, h4⟩ := C_cellat hC (j := j) (by simpa [Kd.int, Kd.scalar] using hj)
  have hu2 : u = .int .u8 x := by
    have hk : c = [.int .u8 x] := h2
    subst hk
    have : j % (Kd.int .u8).sz = 0 := Nat.mod_one j
    rw [this] at h3
    exact (Option.some.inj h3).symm
  subst hu2
  refine ⟨ad, x, rfl, h4, hfz ad rfl j (by simpa [Kd.int, Kd.scalar] using hj), ?_⟩
  have hin : ok (ad.add j).block := foot_in2 hF ha hu (fun W' hW' hw => by
    obtain ⟨A2, c2, hw2, hC2⟩ := hP W' hW'
    rw [hw] at hw2
    simp only [Option.some.injEq, Value.slice.injEq] at hw2
    obtain ⟨e1, _, _⟩ := hw2
    subst e1
    obtain ⟨_, _, u2, _, _, _, h9⟩ := C_cellat hC2 (j := j) (by simpa [Kd.int, Kd.scalar] using hj)
    exact ⟨u2, h9⟩)
  have hlt := World.block_lt_of_cell? W _ h4
  have := hS _ hin hlt
  rwa [add_block] at this
theorem vote_cells {w : World} {x : S52} {cs : List Value} (h : kvw.K w x cs) : ∃ A c, cs = [.int .u64 x.f0, .int .u64 x.f1.f0, .int .i64 x.f1.f1, .slice A x.f2.length c] ∧ (Kd.int .u8).C w A x.f2.length x.f2 ∧ ∀ ad, A = some ad → ∀ j, j < x.f2.length * (Kd.int .u8).sz → w.frozen? (ad.add j) = false := by
  obtain ⟨c0, c1, e, h0, c2, c3, e1, h1, A, c, h2, hl, hC, hf⟩ := h
  obtain rfl : c0 = [.int .u64 x.f0] := h0
  obtain ⟨d0, d1, e2, g0, g1⟩ := h1
  obtain rfl : d0 = [.int .u64 x.f1.f0] := g0
  obtain rfl : d1 = [.int .i64 x.f1.f1] := g1
  subst e2 h2 e1
  exact ⟨A, c, e, hC, hf⟩
theorem VB_of {S : Nat → Prop} {W : World} {ok : Nat → Prop} {l : List S52} {v : Value} {base : Nat} (h : V2 DV W base ok v l) (hS : ∀ k, ok k → k < W.heap.size → S k) (hV : ∀ x ∈ l, x.f2.length ≤ 5000) {A : Option Addr} {n c : Nat} (hv : v = .slice A n c) : VB S W W A n := by
  subst hv
  intro j hj
  obtain ⟨A', c', he, hl, hC, hfz⟩ := Kd.FK_now h.2
  simp only [List.cons.injEq, and_true, Value.slice.injEq] at he
  obtain ⟨rfl, rfl, rfl⟩ := he
  have hsz : kvw.sz = 4 := rfl
  have hp : 0 < l.length := by omega
  obtain ⟨ad, rfl, hc⟩ := hC.2.2 hp
  have hj0 : j < l.length := hj
  obtain ⟨cs, hcl, hK, hcc⟩ := hc j _ (List.getElem?_eq_getElem hj0)
  obtain ⟨x, hx⟩ : ∃ x, l[j] = x := ⟨_, rfl⟩
  have hmem : x ∈ l := hx ▸ List.getElem_mem hj0
  have hx2 : l[j]? = some x := by rw [List.getElem?_eq_getElem hj0, hx]
  rw [hx] at hK
  obtain ⟨A3, c3, rfl, hC3, hf3⟩ := vote_cells hK
  have q0 := hcc 0 _ rfl
  have q3 := hcc 3 _ rfl
  rw [hsz] at q0 q3
  have hall : ∀ W', DV.K W' l [.slice (some ad) l.length c] → ∃ A4 c4, W'.cell? (ad.add (j * 4)) = some (.int .u64 x.f0) ∧ W'.cell? (ad.add (j * 4 + 3)) = some (.slice A4 x.f2.length c4) ∧ (Kd.int .u8).C W' A4 x.f2.length x.f2 := by
    rintro W' ⟨A2, c2, he2, _, hC2, _⟩
    simp only [List.cons.injEq, and_true, Value.slice.injEq] at he2
    obtain ⟨e1, _, _⟩ := he2
    subst e1
    obtain ⟨ad2, e2, hc2⟩ := hC2.2.2 hp
    obtain rfl := Option.some.inj e2
    obtain ⟨cs2, _, hK2, hcc2⟩ := hc2 j _ hx2
    obtain ⟨A4, c4, rfl, hC4, _⟩ := vote_cells hK2
    have r0 := hcc2 0 _ rfl
    have r3 := hcc2 3 _ rfl
    rw [hsz] at r0 r3
    exact ⟨A4, c4, r0, r3, hC4⟩
  have hin : ok (ad.add (j * 4)).block := foot_in h.2 (fun W' hW' => by
    obtain ⟨_, _, h1, _⟩ := hall W' hW'
    exact ⟨_, h1⟩)
  have hin3 : ok (ad.add (j * 4 + 3)).block := by rw [add_block] at hin ⊢; exact hin
  have hlt := World.block_lt_of_cell? W _ q0
  have hSb := hS _ hin hlt
  rw [add_block] at hSb
  refine ⟨ad, x.f0, A3, x.f2.length, c3, rfl, q0, hfz ad rfl (j * 4) (by rw [hsz]; omega), hSb, ?_, ?_, ?_, hV x hmem⟩
  · rw [add_three]; exact q3
  · rw [add_three]; exact q3
  · exact RB_in h.2 hin3 q3 (fun W' hW' => by
      obtain ⟨A4, c4, _, h2, h3⟩ := hall W' hW'
      exact ⟨A4, c4, h2, h3⟩) hC3 hf3 hS
theorem BB_of {S : Nat → Prop} {W : World} {ok : Nat → Prop} {l : List (List Int)} {v : Value} {base : Nat} (h : V2 DB W base ok v l) (hS : ∀ k, ok k → k < W.heap.size → S k) (hB : ∀ x ∈ l, x.length ≤ 5000) {A : Option Addr} {n c : Nat} (hv : v = .slice A n c) : BB S W W A n := by
  subst hv
  intro j hj
  obtain ⟨A', c', he, hl, hC, hfz⟩ := Kd.FK_now h.2
  simp only [List.cons.injEq, and_true, Value.slice.injEq] at he
  obtain ⟨rfl, rfl, rfl⟩ := he
  have hsz : KW.sz = 1 := rfl
  have hp : 0 < l.length := by omega
  obtain ⟨ad, rfl, hc⟩ := hC.2.2 hp
  have hj0 : j < l.length := hj
  obtain ⟨cs, hcl, hK, hcc⟩ := hc j _ (List.getElem?_eq_getElem hj0)
  obtain ⟨x, hx⟩ : ∃ x, l[j] = x := ⟨_, rfl⟩
  have hmem : x ∈ l := hx ▸ List.getElem_mem hj0
  have hx2 : l[j]? = some x := by rw [List.getElem?_eq_getElem hj0, hx]
  rw [hx] at hK
  obtain ⟨A3, c3, rfl, hl3, hC3, hf3⟩ := hK
  have q0 := hcc 0 _ rfl
  rw [hsz, Nat.mul_one, Nat.add_zero] at q0
  have hall : ∀ W', DB.K W' l [.slice (some ad) l.length c] → ∃ A4 c4, W'.cell? (ad.add j) = some (.slice A4 x.length c4) ∧ (Kd.int .u8).C W' A4 x.length x := by
    rintro W' ⟨A2, c2, he2, _, hC2, _⟩
    simp only [List.cons.injEq, and_true, Value.slice.injEq] at he2
    obtain ⟨e1, _, _⟩ := he2
    subst e1
    obtain ⟨ad2, e2, hc2⟩ := hC2.2.2 hp
    obtain rfl := Option.some.inj e2
    obtain ⟨cs2, _, hK2, hcc2⟩ := hc2 j _ hx2
    obtain ⟨A4, c4, rfl, _, hC4, _⟩ := hK2
    have r0 := hcc2 0 _ rfl
    rw [hsz, Nat.mul_one, Nat.add_zero] at r0
    exact ⟨A4, c4, r0, hC4⟩
  have hin : ok (ad.add j).block := foot_in h.2 (fun W' hW' => by
    obtain ⟨_, _, h1, _⟩ := hall W' hW'
    exact ⟨_, h1⟩)
  exact ⟨ad, A3, x.length, c3, rfl, q0, q0, RB_in h.2 hin q0 hall hC3 hf3 hS, hB x hmem⟩
end Go.Proofs.YtfkfboigkpofkaaDoor.M
end
section
namespace Go.Proofs.YtfkfboigkpofkaaDoor.M
open Go.RowKit Go.Proofs.YtfkfboigkpofkaaDoorW.PrintWords Go.Proofs.YtfkfboigkpofkaaDoorW.PrintLast Go.Proofs.YtfkfboigkpofkaaDoorW.PrintMore Go.Proofs.YtfkfboigkpofkaaDoor.PMsgPuts
set_option linter.unusedVariables false
set_option linter.unusedSimpArgs false
section
variable {S S' : Nat → Prop} {W W' : World} {A : Option Addr} {n : Nat}
theorem RB.below (h : RB S W A n) (hb : Below W.heap.size W W') : RB S W' A n := fun j hj => by
  obtain ⟨ad, x, e, h1, h2, h3⟩ := h j hj
  exact ⟨ad, x, e, pw_cell_below hb h1, by rw [frozen_block (hb.block _ (World.block_lt_of_cell? W _ h1))]; exact h2, h3⟩
theorem RB.imp (h : RB S W A n) (hS : ∀ k, S k → S' k) : RB S' W A n := fun j hj => by
  obtain ⟨ad, x, e, h1, h2, h3⟩ := h j hj
  exact ⟨ad, x, e, h1, h2, hS _ h3⟩
theorem VB.below (h : VB S W W A n) (hb : Below W.heap.size W W') : VB S W' W' A n := fun j hj => by
  obtain ⟨ad, s, A', n', c', e, h1, h2, h3, h4, h5, h6, h7⟩ := h j hj
  exact ⟨ad, s, A', n', c', e, pw_cell_below hb h1, by rw [frozen_block (hb.block _ (World.block_lt_of_cell? W _ h1))]; exact h2, h3, pw_cell_below hb h4, pw_cell_below hb h5, h6.below hb, h7⟩
theorem BB.below (h : BB S W W A n) (hb : Below W.heap.size W W') : BB S W' W' A n := fun j hj => by
  obtain ⟨ad, A', n', c', e, h4, h5, h6, h7⟩ := h j hj
  exact ⟨ad, A', n', c', e, pw_cell_below hb h4, pw_cell_below hb h5, h6.below hb, h7⟩
end
structure Byt (m : Mg) : Prop where
  V : ∀ x ∈ m.V, Bys x.f2
  B : ∀ x ∈ m.B, Bys x
  S : Bys m.S
theorem uv_pos (n : Nat) : 0 < (uv n).length := by
  rw [uv]
  split
  · exact Nat.succ_pos _
  · exact Nat.succ_pos _
theorem put_five (m : Mg) (k : Nat) : 5 ≤ (putB m k).length := by
  have h1 : 0 < (uvI (k : Int)).length := uv_pos _
  have h2 : (sumB (bodyB m k)).length = 4 := rfl
  unfold putB
  rw [List.length_append, h2]
  unfold bodyB
  rw [List.length_append]
  omega
theorem bys_putB (m : Mg) (k : Nat) : Bys (putB m k) := bys_app (bys_sum _) (bys_body m k)
theorem putW_at (m : Mg) (k : Nat) (hw : Whole m k) (hs : Small m) (hc : checkM m k = true) (n : Nat) (hn : (putB m k).length = n) (A6 A7 A8 : Option Addr) (c6 c7 c8 : Nat) (W : World) (T : Tabs W) (h : Lies m W A6 A7 A8 c6 c7 c8) :
    Calls Tryd.prog 11 #[.agg #[.int .u8 m.k, .int .u64 m.n, .int .i64 m.r, .int .u64 m.first, .int .u64 m.last, .int .u64 m.commit, .slice A6 m.V.length c6, .slice A7 m.B.length c7, .slice A8 m.S.length c8]] W fun e w' => ∃ A g c, e = .returned (.tuple #[.slice A n c, .int .i64 0]) ∧ n ≤ c ∧ W.heap.size ≤ g ∧ g < w'.heap.size ∧ RB (fun k => k = g) w' A n ∧ Kd.C (Kd.int .u8) w' A n (putB m k) ∧ Below W.heap.size W w' := by
  have hC := checks_at m k hw A6 A7 A8 c6 c7 c8 W T h
  rw [hc] at hC
  have hk := known_of_check hc
  have h5 := put_five m k
  refine (put_yes m hw.ok k hw.hk hk.2 A6 A7 A8 c6 c7 c8 W T h.at_ hC (by have := putB_len m hs hw.ok k hk.2; unfold Fits; omega)).mono ?_
  rintro e w' ⟨v, rfl, hR, hb⟩
  obtain ⟨A, c, rfl, hl, hr⟩ := Kd.R_reads hR
  obtain ⟨g, c2, e2, hg, hg2⟩ := R_at hR (by omega)
  simp only [Value.slice.injEq] at e2
  obtain ⟨rfl, _, rfl⟩ := e2
  rw [hn] at hl hr ⊢
  refine ⟨_, g, c, rfl, hl, hg, hg2, fun j hj => ?_, hr, hb⟩
  obtain ⟨hc1, hc2⟩ := Kd.R_celln (d := (0 : Int)) hR (j : Int) (by omega) (by omega)
  rw [Int.toNat_natCast] at hc1 hc2
  have e9 : (⟨g, 0, none⟩ : Addr).add j = ⟨g, j, none⟩ := by rw [add_plain]
  exact ⟨⟨g, 0, none⟩, _, rfl, by rw [e9]; exact hc1, by rw [e9]; exact hc2, rfl⟩
theorem takeW_at (m : Mg) (k : Nat) (hw : Whole m k) (hs : Small m) (hB : Byt m) (hc : checkM m k = true) (n : Nat) (hn : (putB m k).length = n) (A : Option Addr) (c : Nat) (hnc : n ≤ c) (W : World) (T : Tabs W) (hC : Kd.C (Kd.int .u8) W A n (putB m k)) :
    Calls Tryd.prog 17 #[.slice A n c] W (TakeW W (m, 0)) := by
  have hk := known_of_check hc
  have hok := hw.ok
  obtain ⟨h1, h2, h3⟩ := put_back hw.hk hok.n hok.first hok.last hok.commit (fun x hx => ⟨hok.V x hx, hB.V x hx⟩) hB.B hB.S hs hc
  have hlen := putB_len m hs hok k hk.2
  have := Take_okW A n c (putB m k) hn (by rw [← hn]; exact put_five m k) hnc W T hC (bys_putB m k) (by unfold Fits; omega) h1 (by rw [h2]; unfold knownB; exact decide_eq_true (by omega)) (by rw [h3]) (by rw [h3]; rfl) (by rw [h3, h2]; exact hc)
  rw [h3] at this
  exact this
theorem lies_W {m : Mg} {w : World} {b1 b2 b3 : Nat} {o1 o2 o3 : Nat → Prop} {A6 A7 A8 : Option Addr} {c6 c7 c8 : Nat} (h6 : V2 DV w b1 o1 (.slice A6 m.V.length c6) m.V) (h7 : V2 DB w b2 o2 (.slice A7 m.B.length c7) m.B) (h8 : V2 KW w b3 o3 (.slice A8 m.S.length c8) m.S) : Lies m w A6 A7 A8 c6 c7 c8 :=
  ⟨⟨Cv_drop (V2_reads' h6).2.2, Cb_drop (V2_reads' h7).2.2, (V2_reads' h8).2.2⟩, (V2_reads' h6).2.1, (V2_reads' h7).2.1, (V2_reads' h8).2.1⟩
def SO (g h1 h2 : Nat) (k : Nat) : Prop := k = g ∨ (h1 ≤ k ∧ k < h2)
structure OwnS (m : Mg) (n : Nat) (w W0 : World) (g h1 h2 hz : Nat) (Ab A6 A7 A8 D6 D7 D8 E6 E7 E8 : Option Addr) (c6 c7 c8 d6 d7 d8 e6 e7 e8 : Nat) : Prop where
  bel : Below w.heap.size w W0
  x1 : W0.heap[w.heap.size]? = some (.cells (m.cells A6 A7 A8 c6 c7 c8) 29 (0, 0))
  x6 : W0.heap[h2]? = some (.cells (m.cells D6 D7 D8 d6 d7 d8) 29 (0, 0))
  x8 : W0.heap[hz]? = some (.cells (m.cells E6 E7 E8 e6 e7 e8) 29 (0, 0))
  mu : Mut (SO g h1 h2) W0 W0 Ab D6 D7 D8 n m.V.length m.B.length m.S.length
  V : V2 DV W0 0 (fun k => h2 < k) (.slice E6 m.V.length e6) m.V
  B : V2 DB W0 0 (fun k => h2 < k) (.slice E7 m.B.length e7) m.B
  S : V2 KW W0 0 (fun k => h2 < k) (.slice E8 m.S.length e8) m.S
  g0 : w.heap.size < g
  gh : g < h1
  h12 : h1 ≤ h2
  h2z : h2 < hz
section
variable {m : Mg} {n : Nat} {w W0 W : World} {g h1 h2 hz : Nat} {Ab A6 A7 A8 D6 D7 D8 E6 E7 E8 : Option Addr} {c6 c7 c8 d6 d7 d8 e6 e7 e8 : Nat}
theorem OwnS.no1 (h : OwnS m n w W0 g h1 h2 hz Ab A6 A7 A8 D6 D7 D8 E6 E7 E8 c6 c7 c8 d6 d7 d8 e6 e7 e8) : ¬ SO g h1 h2 w.heap.size := by
  have := h.g0; have := h.gh
  unfold SO; omega
theorem OwnS.no6 (h : OwnS m n w W0 g h1 h2 hz Ab A6 A7 A8 D6 D7 D8 E6 E7 E8 c6 c7 c8 d6 d7 d8 e6 e7 e8) : ¬ SO g h1 h2 h2 := by
  have := h.h12; have := h.gh
  unfold SO; omega
theorem OwnS.no8 (h : OwnS m n w W0 g h1 h2 hz Ab A6 A7 A8 D6 D7 D8 E6 E7 E8 c6 c7 c8 d6 d7 d8 e6 e7 e8) : ¬ SO g h1 h2 hz := by
  have := h.h12; have := h.gh; have := h.h2z
  unfold SO; omega
theorem OwnS.far (h : OwnS m n w W0 g h1 h2 hz Ab A6 A7 A8 D6 D7 D8 E6 E7 E8 c6 c7 c8 d6 d7 d8 e6 e7 e8) : ∀ k, h2 < k → ¬ SO g h1 h2 k := by
  intro k hk
  have := h.h12; have := h.gh
  unfold SO; omega
theorem OwnS.lies (h : OwnS m n w W0 g h1 h2 hz Ab A6 A7 A8 D6 D7 D8 E6 E7 E8 c6 c7 c8 d6 d7 d8 e6 e7 e8) (hM : Mut (SO g h1 h2) W0 W Ab D6 D7 D8 n m.V.length m.B.length m.S.length) : Lies m W E6 E7 E8 e6 e7 e8 :=
  lies_W (V2_kept h.V hM.kept h.far) (V2_kept h.B hM.kept h.far) (V2_kept h.S hM.kept h.far)
theorem OwnS.below (h : OwnS m n w W0 g h1 h2 hz Ab A6 A7 A8 D6 D7 D8 E6 E7 E8 c6 c7 c8 d6 d7 d8 e6 e7 e8) (hM : Mut (SO g h1 h2) W0 W Ab D6 D7 D8 n m.V.length m.B.length m.S.length) : Below w.heap.size w W :=
  h.bel.trans (hM.bel h.bel.size (fun k hk => by
    have := h.g0; have := h.gh
    unfold SO at hk; omega))
theorem OwnS.box6 (h : OwnS m n w W0 g h1 h2 hz Ab A6 A7 A8 D6 D7 D8 E6 E7 E8 c6 c7 c8 d6 d7 d8 e6 e7 e8) (hM : Mut (SO g h1 h2) W0 W Ab D6 D7 D8 n m.V.length m.B.length m.S.length) : W.heap[h2]? = some (.cells (m.cells D6 D7 D8 d6 d7 d8) 29 (0, 0)) := hM.blk h.x6 h.no6
theorem OwnS.box8 (h : OwnS m n w W0 g h1 h2 hz Ab A6 A7 A8 D6 D7 D8 E6 E7 E8 c6 c7 c8 d6 d7 d8 e6 e7 e8) (hM : Mut (SO g h1 h2) W0 W Ab D6 D7 D8 n m.V.length m.B.length m.S.length) : W.heap[hz]? = some (.cells (m.cells E6 E7 E8 e6 e7 e8) 29 (0, 0)) := hM.blk h.x8 h.no8
theorem OwnS.box1 (h : OwnS m n w W0 g h1 h2 hz Ab A6 A7 A8 D6 D7 D8 E6 E7 E8 c6 c7 c8 d6 d7 d8 e6 e7 e8) (hM : Mut (SO g h1 h2) W0 W Ab D6 D7 D8 n m.V.length m.B.length m.S.length) : W.heap[w.heap.size]? = some (.cells (m.cells A6 A7 A8 c6 c7 c8) 29 (0, 0)) := hM.blk h.x1 h.no1
end
theorem ownS_mk {m : Mg} {n : Nat} {w w2 w3 w4 : World} {g : Nat} {Ab A6 A7 A8 D6 D7 D8 E6 E7 E8 : Option Addr} {c6 c7 c8 d6 d7 d8 e6 e7 e8 : Nat} (hs : Small m)
    (hb : Below w.heap.size w w2) (hx1 : w2.heap[w.heap.size]? = some (.cells (m.cells A6 A7 A8 c6 c7 c8) 29 (0, 0))) (hg0 : w.heap.size < g) (hg2 : g < w2.heap.size) (hRb : RB (fun k => k = g) w2 Ab n)
    (h6 : V2 DV w3 w2.heap.size (fun k => w2.heap.size ≤ k) (.slice D6 m.V.length d6) m.V) (h7 : V2 DB w3 w2.heap.size (fun k => w2.heap.size ≤ k) (.slice D7 m.B.length d7) m.B) (h8 : V2 KW w3 w2.heap.size (fun k => w2.heap.size ≤ k) (.slice D8 m.S.length d8) m.S) (hB3 : Below w2.heap.size w2 w3)
    (i6 : V2 DV w4 (w3.alloc (.cells (m.cells D6 D7 D8 d6 d7 d8) 29)).heap.size (fun k => (w3.alloc (.cells (m.cells D6 D7 D8 d6 d7 d8) 29)).heap.size ≤ k) (.slice E6 m.V.length e6) m.V) (i7 : V2 DB w4 (w3.alloc (.cells (m.cells D6 D7 D8 d6 d7 d8) 29)).heap.size (fun k => (w3.alloc (.cells (m.cells D6 D7 D8 d6 d7 d8) 29)).heap.size ≤ k) (.slice E7 m.B.length e7) m.B) (i8 : V2 KW w4 (w3.alloc (.cells (m.cells D6 D7 D8 d6 d7 d8) 29)).heap.size (fun k => (w3.alloc (.cells (m.cells D6 D7 D8 d6 d7 d8) 29)).heap.size ≤ k) (.slice E8 m.S.length e8) m.S)
    (hB4 : Below (w3.alloc (.cells (m.cells D6 D7 D8 d6 d7 d8) 29)).heap.size (w3.alloc (.cells (m.cells D6 D7 D8 d6 d7 d8) 29)) w4) :
    OwnS m n w (w4.alloc (.cells (m.cells E6 E7 E8 e6 e7 e8) 29)) g w2.heap.size w3.heap.size w4.heap.size Ab A6 A7 A8 D6 D7 D8 E6 E7 E8 c6 c7 c8 d6 d7 d8 e6 e7 e8 := by
  have hsz : (w3.alloc (.cells (m.cells D6 D7 D8 d6 d7 d8) 29)).heap.size = w3.heap.size + 1 := World.size_alloc _ _
  have s23 := hB3.size
  have s34 := hB4.size
  have b3 : Below w3.heap.size w3 (w4.alloc (.cells (m.cells E6 E7 E8 e6 e7 e8) 29)) := below_alloc (below_step (bel1 w3 _) hB4) _
  have b2 : Below w2.heap.size w2 (w4.alloc (.cells (m.cells E6 E7 E8 e6 e7 e8) 29)) := below_step hB3 b3
  have b4 := bel1 w4 (.cells (m.cells E6 E7 E8 e6 e7 e8) 29)
  have f1 : ∀ k, w2.heap.size ≤ k → k < w3.heap.size → SO g w2.heap.size w3.heap.size k := fun k h1 h2 => Or.inr ⟨h1, h2⟩
  refine ⟨below_step hb b2, blk_below hx1 b2, blk_below (heap_alloc_new w3 _) (below_alloc hB4 _), heap_alloc_new w4 _, ⟨rfl, rfl, rfl, ⟨Nat.le_refl _, fun i hi hn => rfl⟩, (hRb.below b2).imp (fun k hk => Or.inl hk), (VB_of h6 f1 hs.V rfl).below b3, (BB_of h7 f1 hs.B rfl).below b3, (RB_of h8 f1 rfl).below b3⟩, ?_, ?_, ?_, hg0, hg2, s23, by omega⟩
  · exact V2_mono (V2_map (base' := 0) (V2_below i6 b4) (fun _ h => h)) (fun k hk => by omega)
  · exact V2_mono (V2_map (base' := 0) (V2_below i7 b4) (fun _ h => h)) (fun k hk => by omega)
  · exact V2_mono (V2_map (base' := 0) (V2_below i8 b4) (fun _ h => h)) (fun k hk => by omega)
end Go.Proofs.YtfkfboigkpofkaaDoor.M
end
