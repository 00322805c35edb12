/- Parts of a proof, pruned and joined by flat.py out of: KD. -/
import Derived.Test.YtfkfboigkpofkaaDoorCKnown9
import Derived.Great.BuildSlice
section
namespace Go.Proofs.YtfkfboigkpofkaaDoor.M
open Go.RowKit Go.Proofs.YtfkfboigkpofkaaDoorW.PrintWords Go.Proofs.YtfkfboigkpofkaaDoorW.PrintLast Go.Proofs.YtfkfboigkpofkaaDoorW.PrintMore Go.Proofs.YtfkfboigkpofkaaDoor.PMsgPuts
set_option linter.unusedVariables false
set_option linter.unusedSimpArgs false
structure Base4 (w0 : World) (a0 : Act) : Prop where
  sz : a0.tmps.size = 244
  t1 : ∃ g, g < w0.heap.size ∧ a0.tmps[1]? = some (.pointer (some ⟨g, 0, none⟩)) ∧ w0.heap[g]? = some (.cells #[.int .u64 2, .int .i64 1] 24 (0, 0))
  t2 : a0.tmps[2]? = some (.int .u64 18446744073709551615)
  t3 : ∃ v, a0.tmps[3]? = some v ∧ RW [[120]] v w0
theorem free4 {t : Nat} (h : t < 4) : ∀ i, i < 96 → tm4 i ≠ t := by
  intro i hi
  unfold tm4
  split <;> omega
theorem conv_byte {base : Nat} {W : World} {g : Nat} {x : Int} {fr : Nat × Nat} (hb : base ≤ g) (h : W.heap[g]? = some (.cells #[.int .u8 x] 5 fr)) :
    ∃ W', (convert 27 27 (.slice (some ⟨g, 0, none⟩) 1 1)).run Tryd.prog W = .ok (.slice (some ⟨g, 0, none⟩) 1 1) W' ∧ Grow base W W' ∧ Kd.C (Kd.int .u8) W' (some ⟨g, 0, none⟩) 1 [x] := by
  have hsh : W.shape? g = some (5, 1) := by simp [World.shape?, h]
  have hgl := blk_lt h
  have hg : Grow base W (W.freeze ⟨g, 1, none⟩ 1) := by
    refine ⟨rfl, rfl, rfl, by simp [World.freeze], fun k hk => ?_, fun k c t fr0 hk => ?_⟩
    · have hne : g ≠ k := by omega
      simp [World.freeze, Array.getElem?_modify, hne]
    · by_cases hkg : g = k
      · subst hkg
        rw [h] at hk
        simp only [Option.some.injEq, Obj.cells.injEq] at hk
        obtain ⟨rfl, rfl, rfl⟩ := hk
        obtain ⟨lo, hi⟩ := fr
        exact ⟨if lo == hi then (1, 2) else (min lo 1, max hi 2), by simp [World.freeze, Array.getElem?_modify, h]⟩
      · exact ⟨fr0, by simp [World.freeze, Array.getElem?_modify, hkg, hk]⟩
  refine ⟨W.freeze ⟨g, 1, none⟩ 1, ?_, hg, ?_⟩
  · simp [convert, run_underlying Tryd.underlying27, run_underlying Tryd.underlying5, markStringish, hsh, Result.andThen]
  · obtain ⟨f2, h2⟩ := hg.cells _ _ _ _ h
    exact C_one _ g x h2
theorem mk25 (W : World) : (Instr.makeSlice 25 (.int .i64 1) (.int .i64 1)).run Tryd.prog W = .ok (.slice (some ⟨W.heap.size, 0, none⟩) 1 1) (W.alloc (.cells #[.int .u64 0, .int .u64 0, .int .i64 0, .slice none 0 0] 52)) := by
  obtain ⟨i, hi, hz⟩ := Option.map_eq_some_iff.1 info52
  simp only [Prod.mk.injEq] at hz
  obtain ⟨h1, h2, h3⟩ := hz
  have := run_make (P := Tryd.prog) W 25 52 i _ Tryd.underlying25 hi h1 .i64 .i64 1 1 (by decide) (by decide) (by rw [h3]; decide) (by decide)
  rw [h2, show madeCells (Value.agg #[.int .u64 0, .int .u64 0, .int .i64 0, .slice none 0 0]).cells (Int.toNat 1 * 4) = #[.int .u64 0, .int .u64 0, .int .i64 0, .slice none 0 0] from by kernel_rfl] at this
  exact this
theorem mk26 (W : World) : (Instr.makeSlice 26 (.int .i64 17) (.int .i64 17)).run Tryd.prog W = .ok (.slice (some ⟨W.heap.size, 0, none⟩) 17 17) (W.alloc (.cells (Array.replicate 17 (.slice none 0 0)) 27)) := by
  obtain ⟨i, hi, hz⟩ := Option.map_eq_some_iff.1 info27
  simp only [Prod.mk.injEq] at hz
  obtain ⟨h1, h2, h3⟩ := hz
  have := run_make (P := Tryd.prog) W 26 27 i _ Tryd.underlying26 hi h1 .i64 .i64 17 17 (by decide) (by decide) (by rw [h3]; decide) (by decide)
  rw [h2, show madeCells (Value.slice none 0 0).cells (Int.toNat 17 * 1) = Array.replicate 17 (.slice none 0 0) from by kernel_rfl] at this
  exact this
theorem lit_op {a : Act} {W W' : World} {v : Value} {oi : Oper} {parts : Array (Nat × Operand)} (hop : oi.op = .buildSlice 53 30 parts) (ps : Array (Nat × Value)) (hps : (parts.map fun (i, x) => (i, a.eval x)) = ps) (hrun : (Instr.buildSlice 53 30 ps).run Tryd.prog W = .ok v W') : (execOp a.eval oi).run Tryd.prog W = .ok (.value v) W' := by
  unfold execOp
  simp only [hop, Sem.run_bind, hps, hrun, Result.andThen_ok]
  rfl
theorem info50 : (Tryd.prog.info? 50).map (fun i => (i.zero.isSome, i.size)) = some (true, 10) := by kernel_rfl
theorem lit_run (L : List Value) (W : World) (hlen : L.length = 30) (h : ∀ r v, L[r]? = some v → ROW r v W) (parts : Array (Nat × Value)) (hp : parts.toList = (L.zipIdx 0).map fun x => (x.2, x.1)) :
    ∃ cells, (Instr.buildSlice 53 30 parts).run Tryd.prog W = .ok (.slice (some ⟨W.heap.size, 0, none⟩) 30 30) (W.alloc (.cells cells 50)) ∧ LITAT W.heap.size (W.alloc (.cells cells 50)) := by
  obtain ⟨ie, hie, hz⟩ := Option.map_eq_some_iff.1 info50
  simp only [Prod.mk.injEq] at hz
  obtain ⟨h1, h2⟩ := hz
  obtain ⟨z, hzz⟩ := Option.isSome_iff_exists.1 h1
  have hc : ∀ v ∈ L, v.cells.size = 10 := by
    intro v hv
    obtain ⟨r, hr⟩ := List.mem_iff_getElem?.1 hv
    obtain ⟨A6, A7, A8, c6, c7, c8, rfl, _⟩ := h r v hr
    rfl
  obtain ⟨R, hf, hsz, hk⟩ := Great.fill_dense (s := 10) (by decide) L 0 ((Array.range (30 * 10)).map (z.cells[· % z.cells.size]!)) hc (by rw [hlen]; simp)
  refine ⟨R, ?_, ?_⟩
  · refine run_buildSlice W 53 50 30 parts R ie z Tryd.underlying53 hie hzz (by rw [h2]; decide) (by rw [h2]; decide) ?_
    rw [h2, hp]
    exact hf
  · intro r hr
    have hr' : r < L.length := by rw [hlen]; exact hr
    obtain ⟨A6, A7, A8, c6, c7, c8, hv, hL⟩ := h r L[r] (List.getElem?_eq_getElem hr')
    refine ⟨A6, A7, A8, c6, c7, c8, hL.below (bel1 W _), fun q u hu => ?_⟩
    have hq : q < 10 := (List.getElem?_eq_some_iff.1 hu).1
    rw [blk_cell (heap_alloc_new W (.cells R 50)) (r * 10 + q), hk, if_pos (by rw [hlen]; omega)]
    rw [show (r * 10 + q) / 10 - 0 = r by omega, show (r * 10 + q) % 10 = q by omega, List.getElem?_eq_getElem hr', hv]
    show ((rowC r A6 A7 A8 c6 c7 c8).toArray)[q]? = some u
    simpa using hu
theorem C_vote1 {W : World} {g : Nat} {x : S52} {A : Option Addr} {c : Nat} {fr : Nat × Nat} (hb : W.heap[g]? = some (.cells #[.int .u64 x.f0, .int .u64 x.f1.f0, .int .i64 x.f1.f1, .slice A x.f2.length c] 52 fr)) (hl : x.f2.length ≤ c) (hC : Kd.C (Kd.int .u8) W A x.f2.length x.f2) : Kd.C k52 W (some ⟨g, 0, none⟩) 1 [x] := by
  refine C_block k52 [x] hb (by simp) (fun j y hj => ?_)
  rcases j with _ | j
  · simp only [List.getElem?_cons_zero, Option.some.injEq] at hj
    subst hj
    refine ⟨[.int .u64 x.f0, .int .u64 x.f1.f0, .int .i64 x.f1.f1, .slice A x.f2.length c], rfl, ⟨[.int .u64 x.f0], [.int .u64 x.f1.f0, .int .i64 x.f1.f1, .slice A x.f2.length c], rfl, rfl, ⟨[.int .u64 x.f1.f0, .int .i64 x.f1.f1], [.slice A x.f2.length c], rfl, k24_mk W x.f1, ⟨A, c, rfl, hl, hC⟩⟩⟩, fun i u hu => ?_⟩
    rw [Nat.zero_mul, Nat.zero_add]
    simpa using hu
  · simp at hj
theorem C_vote2 {W : World} {g : Nat} {x y : S52} {A A' : Option Addr} {c c' : Nat} {fr : Nat × Nat} (hb : W.heap[g]? = some (.cells #[.int .u64 x.f0, .int .u64 x.f1.f0, .int .i64 x.f1.f1, .slice A x.f2.length c, .int .u64 y.f0, .int .u64 y.f1.f0, .int .i64 y.f1.f1, .slice A' y.f2.length c'] 52 fr)) (hl : x.f2.length ≤ c) (hC : Kd.C (Kd.int .u8) W A x.f2.length x.f2) (hl' : y.f2.length ≤ c') (hC' : Kd.C (Kd.int .u8) W A' y.f2.length y.f2) : Kd.C k52 W (some ⟨g, 0, none⟩) 2 [x, y] := by
  refine C_block k52 [x, y] hb (by simp) (fun j z hj => ?_)
  rcases j with _ | _ | j
  · simp only [List.getElem?_cons_zero, Option.some.injEq] at hj
    subst hj
    refine ⟨[.int .u64 x.f0, .int .u64 x.f1.f0, .int .i64 x.f1.f1, .slice A x.f2.length c], rfl, ⟨[.int .u64 x.f0], [.int .u64 x.f1.f0, .int .i64 x.f1.f1, .slice A x.f2.length c], rfl, rfl, ⟨[.int .u64 x.f1.f0, .int .i64 x.f1.f1], [.slice A x.f2.length c], rfl, k24_mk W x.f1, ⟨A, c, rfl, hl, hC⟩⟩⟩, fun i u hu => ?_⟩
    rcases i with _ | _ | _ | _ | i <;> first | exact hu | simp at hu
  · have hj' : y = z := by simpa using hj
    subst hj'
    refine ⟨[.int .u64 y.f0, .int .u64 y.f1.f0, .int .i64 y.f1.f1, .slice A' y.f2.length c'], rfl, ⟨[.int .u64 y.f0], [.int .u64 y.f1.f0, .int .i64 y.f1.f1, .slice A' y.f2.length c'], rfl, rfl, ⟨[.int .u64 y.f1.f0, .int .i64 y.f1.f1], [.slice A' y.f2.length c'], rfl, k24_mk W y.f1, ⟨A', c', rfl, hl', hC'⟩⟩⟩, fun i u hu => ?_⟩
    rcases i with _ | _ | _ | _ | i <;> first | exact hu | simp at hu
  · simp at hj
theorem C_nils {W : World} {g : Nat} {fr : Nat × Nat} (n : Nat) (hb : W.heap[g]? = some (.cells (Array.replicate n (.slice none 0 0)) 27 fr)) (hn : n ≤ 9223372036854775807) : Kd.C (Kd.slice 5 (Kd.int .u8)) W (some ⟨g, 0, none⟩) (List.replicate n ([] : List Int)).length (List.replicate n []) := by
  refine C_block (Kd.slice 5 (Kd.int .u8)) (List.replicate n []) hb (by simpa using hn) (fun j z hj => ?_)
  have hjn : j < n := by have := (List.getElem?_eq_some_iff.1 hj).1; simpa using this
  have hz : z = [] := by have := (List.getElem?_eq_some_iff.1 hj).2; simpa using this.symm
  subst hz
  refine ⟨[.slice none 0 0], rfl, ⟨none, 0, rfl, Nat.le_refl _, C_none _ _⟩, fun i u hu => ?_⟩
  rcases i with _ | i
  · have hu' : u = .slice none 0 0 := by simpa using hu.symm
    subst hu'
    show (Array.replicate n (Value.slice none 0 0))[j * 1 + 0]? = _
    simp [hjn]
  · simp at hu
section
variable {w0 : World} {a0 : Act} {Q : Exit → Act → World → Prop} {B : List Nat}
set_option maxRecDepth 100000 in
set_option maxHeartbeats 1000000 in
theorem s4_0 (hB : Base4 w0 a0) (hd : ([].all fun j => (B.getD 0 0).testBit j && decide (j < 96)) = true) : StepAt Tryd.prog ops4 Q B (List.range 96) (GI (G4 w0.heap.size) w0 a0) 0 := by
  refine gstep (fun i v w w' => G4_grow _ i v w w') hB.sz 0 (by decide) rfl rfl rfl [] hd ?_
  intro vs a W hdep hfree hR
  obtain ⟨g, hg, h1, hx⟩ := hB.t1
  have e1 : a.tmps[1]? = some (.pointer (some ⟨g, 0, none⟩)) := (hfree 1 (free4 (by decide))).trans h1
  have hx' : W.heap[g]? = some (.cells #[.int .u64 2, .int .i64 1] 24 (0, 0)) := (hR.low g hg).trans hx
  have c0 := (blk_cell hx' 0).trans rfl
  have c1 := (blk_cell hx' 1).trans rfl
  clear hdep hfree hR hx hx' h1 hg hB
  refine ⟨.agg #[.int .u64 2, .int .i64 1], W, ?_, rfl, Grow.refl _ _⟩
  go_simp
set_option maxRecDepth 100000 in
set_option maxHeartbeats 1000000 in
theorem s4_1 (hB : Base4 w0 a0) (hd : ([0].all fun j => (B.getD 1 0).testBit j && decide (j < 96)) = true) : StepAt Tryd.prog ops4 Q B (List.range 96) (GI (G4 w0.heap.size) w0 a0) 1 := by
  refine gstep (fun i v w w' => G4_grow _ i v w w') hB.sz 1 (by decide) rfl rfl rfl [0] hd ?_
  intro vs a W hdep hfree hR
  obtain ⟨e0, g0⟩ := hdep 0 (by decide)
  replace e0 : a.tmps[24]? = some (vs 0) := e0
  rw [show vs 0 = .agg #[.int .u64 2, .int .i64 1] from g0] at e0
  clear hdep hfree hR g0 
  refine ⟨_, W, ?_, ⟨none, none, none, 0, 0, 0, rfl, ⟨⟨C_none _ _, C_none _ _, C_none _ _⟩, Nat.le_refl _, Nat.le_refl _, Nat.le_refl _⟩⟩, Grow.refl _ _⟩
  go_simp
  (try first | rfl | (simp [rowM]; done))
set_option maxRecDepth 100000 in
set_option maxHeartbeats 1000000 in
theorem s4_2 (hB : Base4 w0 a0) (hd : ([1].all fun j => (B.getD 2 0).testBit j && decide (j < 96)) = true) : StepAt Tryd.prog ops4 Q B (List.range 96) (GI (G4 w0.heap.size) w0 a0) 2 := by
  refine gstep (fun i v w w' => G4_grow _ i v w w') hB.sz 2 (by decide) rfl rfl rfl [1] hd ?_
  intro vs a W hdep hfree hR
  obtain ⟨e1, g1⟩ := hdep 1 (by decide)
  replace e1 : a.tmps[25]? = some (vs 1) := e1
  obtain ⟨A6, A7, A8, c6, c7, c8, hv, hL⟩ := (show MSG 0 (vs 1) W from g1)
  have e1' : a.tmps[25]? = some (.agg #[.int .u8 (rowM 0).k, .int .u64 (rowM 0).n, .int .i64 (rowM 0).r, .int .u64 (rowM 0).first, .int .u64 (rowM 0).last, .int .u64 (rowM 0).commit, .slice A6 (rowM 0).V.length c6, .slice A7 (rowM 0).B.length c7, .slice A8 (rowM 0).S.length c8]) := by rw [e1, hv]
  clear hdep hfree hR g1 hv e1
  refine ⟨_, W, ?_, ⟨A6, A7, A8, c6, c7, c8, rfl, hL⟩, Grow.refl _ _⟩
  go_simp
  (try first | rfl | (simp [rowM]; done))
set_option maxRecDepth 100000 in
set_option maxHeartbeats 1000000 in
theorem s4_3 (hB : Base4 w0 a0) (hd : ([].all fun j => (B.getD 3 0).testBit j && decide (j < 96)) = true) : StepAt Tryd.prog ops4 Q B (List.range 96) (GI (G4 w0.heap.size) w0 a0) 3 := by
  refine gstep (fun i v w w' => G4_grow _ i v w w') hB.sz 3 (by decide) rfl rfl rfl [] hd ?_
  intro vs a W hdep hfree hR
  obtain ⟨g, hg, h1, hx⟩ := hB.t1
  have e1 : a.tmps[1]? = some (.pointer (some ⟨g, 0, none⟩)) := (hfree 1 (free4 (by decide))).trans h1
  have hx' : W.heap[g]? = some (.cells #[.int .u64 2, .int .i64 1] 24 (0, 0)) := (hR.low g hg).trans hx
  have c0 := (blk_cell hx' 0).trans rfl
  have c1 := (blk_cell hx' 1).trans rfl
  clear hdep hfree hR hx hx' h1 hg hB
  refine ⟨.agg #[.int .u64 2, .int .i64 1], W, ?_, rfl, Grow.refl _ _⟩
  go_simp
set_option maxRecDepth 100000 in
set_option maxHeartbeats 1000000 in
theorem s4_4 (hB : Base4 w0 a0) (hd : ([3].all fun j => (B.getD 4 0).testBit j && decide (j < 96)) = true) : StepAt Tryd.prog ops4 Q B (List.range 96) (GI (G4 w0.heap.size) w0 a0) 4 := by
  refine gstep (fun i v w w' => G4_grow _ i v w w') hB.sz 4 (by decide) rfl rfl rfl [3] hd ?_
  intro vs a W hdep hfree hR
  obtain ⟨e3, g3⟩ := hdep 3 (by decide)
  replace e3 : a.tmps[27]? = some (vs 3) := e3
  rw [show vs 3 = .agg #[.int .u64 2, .int .i64 1] from g3] at e3
  clear hdep hfree hR g3 
  refine ⟨_, W, ?_, ⟨none, none, none, 0, 0, 0, rfl, ⟨⟨C_none _ _, C_none _ _, C_none _ _⟩, Nat.le_refl _, Nat.le_refl _, Nat.le_refl _⟩⟩, Grow.refl _ _⟩
  go_simp
  (try first | rfl | (simp [rowM]; done))
set_option maxRecDepth 100000 in
set_option maxHeartbeats 1000000 in
theorem s4_5 (hB : Base4 w0 a0) (hd : ([4].all fun j => (B.getD 5 0).testBit j && decide (j < 96)) = true) : StepAt Tryd.prog ops4 Q B (List.range 96) (GI (G4 w0.heap.size) w0 a0) 5 := by
  refine gstep (fun i v w w' => G4_grow _ i v w w') hB.sz 5 (by decide) rfl rfl rfl [4] hd ?_
  intro vs a W hdep hfree hR
  obtain ⟨e4, g4⟩ := hdep 4 (by decide)
  replace e4 : a.tmps[28]? = some (vs 4) := e4
  obtain ⟨A6, A7, A8, c6, c7, c8, hv, hL⟩ := (show MSG 1 (vs 4) W from g4)
  have e4' : a.tmps[28]? = some (.agg #[.int .u8 (rowM 1).k, .int .u64 (rowM 1).n, .int .i64 (rowM 1).r, .int .u64 (rowM 1).first, .int .u64 (rowM 1).last, .int .u64 (rowM 1).commit, .slice A6 (rowM 1).V.length c6, .slice A7 (rowM 1).B.length c7, .slice A8 (rowM 1).S.length c8]) := by rw [e4, hv]
  clear hdep hfree hR g4 hv e4
  refine ⟨_, W, ?_, ⟨A6, A7, A8, c6, c7, c8, rfl, hL⟩, Grow.refl _ _⟩
  go_simp
  (try first | rfl | (simp [rowM]; done))
set_option maxRecDepth 100000 in
set_option maxHeartbeats 1000000 in
theorem s4_6 (hB : Base4 w0 a0) (hd : ([].all fun j => (B.getD 6 0).testBit j && decide (j < 96)) = true) : StepAt Tryd.prog ops4 Q B (List.range 96) (GI (G4 w0.heap.size) w0 a0) 6 := by
  refine gstep (fun i v w w' => G4_grow _ i v w w') hB.sz 6 (by decide) rfl rfl rfl [] hd ?_
  intro vs a W hdep hfree hR
  obtain ⟨g, hg, h1, hx⟩ := hB.t1
  have e1 : a.tmps[1]? = some (.pointer (some ⟨g, 0, none⟩)) := (hfree 1 (free4 (by decide))).trans h1
  have hx' : W.heap[g]? = some (.cells #[.int .u64 2, .int .i64 1] 24 (0, 0)) := (hR.low g hg).trans hx
  have c0 := (blk_cell hx' 0).trans rfl
  have c1 := (blk_cell hx' 1).trans rfl
  clear hdep hfree hR hx hx' h1 hg hB
  refine ⟨.agg #[.int .u64 2, .int .i64 1], W, ?_, rfl, Grow.refl _ _⟩
  go_simp
set_option maxRecDepth 100000 in
set_option maxHeartbeats 1000000 in
theorem s4_7 (hB : Base4 w0 a0) (hd : ([6].all fun j => (B.getD 7 0).testBit j && decide (j < 96)) = true) : StepAt Tryd.prog ops4 Q B (List.range 96) (GI (G4 w0.heap.size) w0 a0) 7 := by
  refine gstep (fun i v w w' => G4_grow _ i v w w') hB.sz 7 (by decide) rfl rfl rfl [6] hd ?_
  intro vs a W hdep hfree hR
  obtain ⟨e6, g6⟩ := hdep 6 (by decide)
  replace e6 : a.tmps[30]? = some (vs 6) := e6
  rw [show vs 6 = .agg #[.int .u64 2, .int .i64 1] from g6] at e6
  clear hdep hfree hR g6 
  refine ⟨_, W, ?_, ⟨none, none, none, 0, 0, 0, rfl, ⟨⟨C_none _ _, C_none _ _, C_none _ _⟩, Nat.le_refl _, Nat.le_refl _, Nat.le_refl _⟩⟩, Grow.refl _ _⟩
  go_simp
  (try first | rfl | (simp [rowM]; done))
set_option maxRecDepth 100000 in
set_option maxHeartbeats 1000000 in
theorem s4_8 (hB : Base4 w0 a0) (hd : ([7].all fun j => (B.getD 8 0).testBit j && decide (j < 96)) = true) : StepAt Tryd.prog ops4 Q B (List.range 96) (GI (G4 w0.heap.size) w0 a0) 8 := by
  refine gstep (fun i v w w' => G4_grow _ i v w w') hB.sz 8 (by decide) rfl rfl rfl [7] hd ?_
  intro vs a W hdep hfree hR
  obtain ⟨e7, g7⟩ := hdep 7 (by decide)
  replace e7 : a.tmps[31]? = some (vs 7) := e7
  obtain ⟨A6, A7, A8, c6, c7, c8, hv, hL⟩ := (show MSG 2 (vs 7) W from g7)
  have e7' : a.tmps[31]? = some (.agg #[.int .u8 (rowM 2).k, .int .u64 (rowM 2).n, .int .i64 (rowM 2).r, .int .u64 (rowM 2).first, .int .u64 (rowM 2).last, .int .u64 (rowM 2).commit, .slice A6 (rowM 2).V.length c6, .slice A7 (rowM 2).B.length c7, .slice A8 (rowM 2).S.length c8]) := by rw [e7, hv]
  clear hdep hfree hR g7 hv e7
  refine ⟨_, W, ?_, ⟨A6, A7, A8, c6, c7, c8, rfl, hL⟩, Grow.refl _ _⟩
  go_simp
  (try first | rfl | (simp [rowM]; done))
set_option maxRecDepth 100000 in
set_option maxHeartbeats 1000000 in
theorem s4_9 (hB : Base4 w0 a0) (hd : ([].all fun j => (B.getD 9 0).testBit j && decide (j < 96)) = true) : StepAt Tryd.prog ops4 Q B (List.range 96) (GI (G4 w0.heap.size) w0 a0) 9 := by
  refine gstep (fun i v w w' => G4_grow _ i v w w') hB.sz 9 (by decide) rfl rfl rfl [] hd ?_
  intro vs a W hdep hfree hR
  obtain ⟨g, hg, h1, hx⟩ := hB.t1
  have e1 : a.tmps[1]? = some (.pointer (some ⟨g, 0, none⟩)) := (hfree 1 (free4 (by decide))).trans h1
  have hx' : W.heap[g]? = some (.cells #[.int .u64 2, .int .i64 1] 24 (0, 0)) := (hR.low g hg).trans hx
  have c0 := (blk_cell hx' 0).trans rfl
  have c1 := (blk_cell hx' 1).trans rfl
  clear hdep hfree hR hx hx' h1 hg hB
  refine ⟨.agg #[.int .u64 2, .int .i64 1], W, ?_, rfl, Grow.refl _ _⟩
  go_simp
set_option maxRecDepth 100000 in
set_option maxHeartbeats 1000000 in
theorem s4_10 (hB : Base4 w0 a0) (hd : ([9].all fun j => (B.getD 10 0).testBit j && decide (j < 96)) = true) : StepAt Tryd.prog ops4 Q B (List.range 96) (GI (G4 w0.heap.size) w0 a0) 10 := by
  refine gstep (fun i v w w' => G4_grow _ i v w w') hB.sz 10 (by decide) rfl rfl rfl [9] hd ?_
  intro vs a W hdep hfree hR
  obtain ⟨e9, g9⟩ := hdep 9 (by decide)
  replace e9 : a.tmps[33]? = some (vs 9) := e9
  rw [show vs 9 = .agg #[.int .u64 2, .int .i64 1] from g9] at e9
  clear hdep hfree hR g9 
  refine ⟨_, W, ?_, ⟨none, none, none, 0, 0, 0, rfl, ⟨⟨C_none _ _, C_none _ _, C_none _ _⟩, Nat.le_refl _, Nat.le_refl _, Nat.le_refl _⟩⟩, Grow.refl _ _⟩
  go_simp
  (try first | rfl | (simp [rowM]; done))
set_option maxRecDepth 100000 in
set_option maxHeartbeats 1000000 in
theorem s4_11 (hB : Base4 w0 a0) (hd : ([10].all fun j => (B.getD 11 0).testBit j && decide (j < 96)) = true) : StepAt Tryd.prog ops4 Q B (List.range 96) (GI (G4 w0.heap.size) w0 a0) 11 := by
  refine gstep (fun i v w w' => G4_grow _ i v w w') hB.sz 11 (by decide) rfl rfl rfl [10] hd ?_
  intro vs a W hdep hfree hR
  obtain ⟨e10, g10⟩ := hdep 10 (by decide)
  replace e10 : a.tmps[34]? = some (vs 10) := e10
  obtain ⟨A6, A7, A8, c6, c7, c8, hv, hL⟩ := (show MSG 3 (vs 10) W from g10)
  have e10' : a.tmps[34]? = some (.agg #[.int .u8 (rowM 3).k, .int .u64 (rowM 3).n, .int .i64 (rowM 3).r, .int .u64 (rowM 3).first, .int .u64 (rowM 3).last, .int .u64 (rowM 3).commit, .slice A6 (rowM 3).V.length c6, .slice A7 (rowM 3).B.length c7, .slice A8 (rowM 3).S.length c8]) := by rw [e10, hv]
  clear hdep hfree hR g10 hv e10
  refine ⟨_, W, ?_, ⟨A6, A7, A8, c6, c7, c8, rfl, hL⟩, Grow.refl _ _⟩
  go_simp
  (try first | rfl | (simp [rowM]; done))
set_option maxRecDepth 100000 in
set_option maxHeartbeats 1000000 in
theorem s4_12 (hB : Base4 w0 a0) (hd : ([].all fun j => (B.getD 12 0).testBit j && decide (j < 96)) = true) : StepAt Tryd.prog ops4 Q B (List.range 96) (GI (G4 w0.heap.size) w0 a0) 12 := by
  refine gstep (fun i v w w' => G4_grow _ i v w w') hB.sz 12 (by decide) rfl rfl rfl [] hd ?_
  intro vs a W hdep hfree hR
  obtain ⟨g, hg, h1, hx⟩ := hB.t1
  have e1 : a.tmps[1]? = some (.pointer (some ⟨g, 0, none⟩)) := (hfree 1 (free4 (by decide))).trans h1
  have hx' : W.heap[g]? = some (.cells #[.int .u64 2, .int .i64 1] 24 (0, 0)) := (hR.low g hg).trans hx
  have c0 := (blk_cell hx' 0).trans rfl
  have c1 := (blk_cell hx' 1).trans rfl
  clear hdep hfree hR hx hx' h1 hg hB
  refine ⟨.agg #[.int .u64 2, .int .i64 1], W, ?_, rfl, Grow.refl _ _⟩
  go_simp
set_option maxRecDepth 100000 in
set_option maxHeartbeats 1000000 in
theorem s4_13 (hB : Base4 w0 a0) (hd : ([12].all fun j => (B.getD 13 0).testBit j && decide (j < 96)) = true) : StepAt Tryd.prog ops4 Q B (List.range 96) (GI (G4 w0.heap.size) w0 a0) 13 := by
  refine gstep (fun i v w w' => G4_grow _ i v w w') hB.sz 13 (by decide) rfl rfl rfl [12] hd ?_
  intro vs a W hdep hfree hR
  obtain ⟨e12, g12⟩ := hdep 12 (by decide)
  replace e12 : a.tmps[36]? = some (vs 12) := e12
  rw [show vs 12 = .agg #[.int .u64 2, .int .i64 1] from g12] at e12
  clear hdep hfree hR g12 
  refine ⟨_, W, ?_, ⟨none, none, none, 0, 0, 0, rfl, ⟨⟨C_none _ _, C_none _ _, C_none _ _⟩, Nat.le_refl _, Nat.le_refl _, Nat.le_refl _⟩⟩, Grow.refl _ _⟩
  go_simp
  (try first | rfl | (simp [rowM]; done))
set_option maxRecDepth 100000 in
set_option maxHeartbeats 1000000 in
theorem s4_14 (hB : Base4 w0 a0) (hd : ([13].all fun j => (B.getD 14 0).testBit j && decide (j < 96)) = true) : StepAt Tryd.prog ops4 Q B (List.range 96) (GI (G4 w0.heap.size) w0 a0) 14 := by
  refine gstep (fun i v w w' => G4_grow _ i v w w') hB.sz 14 (by decide) rfl rfl rfl [13] hd ?_
  intro vs a W hdep hfree hR
  obtain ⟨e13, g13⟩ := hdep 13 (by decide)
  replace e13 : a.tmps[37]? = some (vs 13) := e13
  obtain ⟨A6, A7, A8, c6, c7, c8, hv, hL⟩ := (show MSG 4 (vs 13) W from g13)
  have e13' : a.tmps[37]? = some (.agg #[.int .u8 (rowM 4).k, .int .u64 (rowM 4).n, .int .i64 (rowM 4).r, .int .u64 (rowM 4).first, .int .u64 (rowM 4).last, .int .u64 (rowM 4).commit, .slice A6 (rowM 4).V.length c6, .slice A7 (rowM 4).B.length c7, .slice A8 (rowM 4).S.length c8]) := by rw [e13, hv]
  clear hdep hfree hR g13 hv e13
  refine ⟨_, W, ?_, ⟨A6, A7, A8, c6, c7, c8, rfl, hL⟩, Grow.refl _ _⟩
  go_simp
  (try first | rfl | (simp [rowM]; done))
set_option maxRecDepth 100000 in
set_option maxHeartbeats 1000000 in
theorem s4_15 (hB : Base4 w0 a0) (hd : ([].all fun j => (B.getD 15 0).testBit j && decide (j < 96)) = true) : StepAt Tryd.prog ops4 Q B (List.range 96) (GI (G4 w0.heap.size) w0 a0) 15 := by
  refine gstep (fun i v w w' => G4_grow _ i v w w') hB.sz 15 (by decide) rfl rfl rfl [] hd ?_
  intro vs a W hdep hfree hR
  clear hdep hfree hR  
  refine ⟨_, W, ?_, ⟨none, none, none, 0, 0, 0, rfl, ⟨⟨C_none _ _, C_none _ _, C_none _ _⟩, Nat.le_refl _, Nat.le_refl _, Nat.le_refl _⟩⟩, Grow.refl _ _⟩
  go_simp
  (try first | rfl | (simp [rowM]; done))
set_option maxRecDepth 100000 in
set_option maxHeartbeats 1000000 in
theorem s4_16 (hB : Base4 w0 a0) (hd : ([15].all fun j => (B.getD 16 0).testBit j && decide (j < 96)) = true) : StepAt Tryd.prog ops4 Q B (List.range 96) (GI (G4 w0.heap.size) w0 a0) 16 := by
  refine gstep (fun i v w w' => G4_grow _ i v w w') hB.sz 16 (by decide) rfl rfl rfl [15] hd ?_
  intro vs a W hdep hfree hR
  obtain ⟨e15, g15⟩ := hdep 15 (by decide)
  replace e15 : a.tmps[39]? = some (vs 15) := e15
  obtain ⟨A6, A7, A8, c6, c7, c8, hv, hL⟩ := (show MSG 5 (vs 15) W from g15)
  have e15' : a.tmps[39]? = some (.agg #[.int .u8 (rowM 5).k, .int .u64 (rowM 5).n, .int .i64 (rowM 5).r, .int .u64 (rowM 5).first, .int .u64 (rowM 5).last, .int .u64 (rowM 5).commit, .slice A6 (rowM 5).V.length c6, .slice A7 (rowM 5).B.length c7, .slice A8 (rowM 5).S.length c8]) := by rw [e15, hv]
  clear hdep hfree hR g15 hv e15
  refine ⟨_, W, ?_, ⟨A6, A7, A8, c6, c7, c8, rfl, hL⟩, Grow.refl _ _⟩
  go_simp
  (try first | rfl | (simp [rowM]; done))
set_option maxRecDepth 100000 in
set_option maxHeartbeats 1000000 in
theorem s4_17 (hB : Base4 w0 a0) (hd : ([].all fun j => (B.getD 17 0).testBit j && decide (j < 96)) = true) : StepAt Tryd.prog ops4 Q B (List.range 96) (GI (G4 w0.heap.size) w0 a0) 17 := by
  refine gstep (fun i v w w' => G4_grow _ i v w w') hB.sz 17 (by decide) rfl rfl rfl [] hd ?_
  intro vs a W hdep hfree hR
  obtain ⟨v, h3, hv⟩ := hB.t3
  have e3 : a.tmps[3]? = some v := (hfree 3 (free4 (by decide))).trans h3
  have hv' := hv.grow hR
  clear hdep hfree hR h3 hv
  refine ⟨v, W, ?_, hv', Grow.refl _ _⟩
  go_simp
set_option maxRecDepth 100000 in
set_option maxHeartbeats 1000000 in
theorem s4_18 (hB : Base4 w0 a0) (hd : ([17].all fun j => (B.getD 18 0).testBit j && decide (j < 96)) = true) : StepAt Tryd.prog ops4 Q B (List.range 96) (GI (G4 w0.heap.size) w0 a0) 18 := by
  refine gstep (fun i v w w' => G4_grow _ i v w w') hB.sz 18 (by decide) rfl rfl rfl [17] hd ?_
  intro vs a W hdep hfree hR
  obtain ⟨e17, g17⟩ := hdep 17 (by decide)
  replace e17 : a.tmps[41]? = some (vs 17) := e17
  obtain ⟨A7, c7, hv7, hl7, hC7⟩ := (show RW [[120]] (vs 17) W from g17)
  rw [hv7] at e17
  clear hdep hfree hR g17 hv7
  refine ⟨_, W, ?_, ⟨none, A7, none, 0, c7, 0, rfl, ⟨⟨C_none _ _, hC7, C_none _ _⟩, Nat.le_refl _, hl7, Nat.le_refl _⟩⟩, Grow.refl _ _⟩
  go_simp
  (try first | rfl | (simp [rowM]; done))
set_option maxRecDepth 100000 in
set_option maxHeartbeats 1000000 in
theorem s4_19 (hB : Base4 w0 a0) (hd : ([18].all fun j => (B.getD 19 0).testBit j && decide (j < 96)) = true) : StepAt Tryd.prog ops4 Q B (List.range 96) (GI (G4 w0.heap.size) w0 a0) 19 := by
  refine gstep (fun i v w w' => G4_grow _ i v w w') hB.sz 19 (by decide) rfl rfl rfl [18] hd ?_
  intro vs a W hdep hfree hR
  obtain ⟨e18, g18⟩ := hdep 18 (by decide)
  replace e18 : a.tmps[42]? = some (vs 18) := e18
  obtain ⟨A6, A7, A8, c6, c7, c8, hv, hL⟩ := (show MSG 6 (vs 18) W from g18)
  have e18' : a.tmps[42]? = some (.agg #[.int .u8 (rowM 6).k, .int .u64 (rowM 6).n, .int .i64 (rowM 6).r, .int .u64 (rowM 6).first, .int .u64 (rowM 6).last, .int .u64 (rowM 6).commit, .slice A6 (rowM 6).V.length c6, .slice A7 (rowM 6).B.length c7, .slice A8 (rowM 6).S.length c8]) := by rw [e18, hv]
  clear hdep hfree hR g18 hv e18
  refine ⟨_, W, ?_, ⟨A6, A7, A8, c6, c7, c8, rfl, hL⟩, Grow.refl _ _⟩
  go_simp
  (try first | rfl | (simp [rowM]; done))
set_option maxRecDepth 100000 in
set_option maxHeartbeats 1000000 in
theorem s4_20 (hB : Base4 w0 a0) (hd : ([].all fun j => (B.getD 20 0).testBit j && decide (j < 96)) = true) : StepAt Tryd.prog ops4 Q B (List.range 96) (GI (G4 w0.heap.size) w0 a0) 20 := by
  refine gstep (fun i v w w' => G4_grow _ i v w w') hB.sz 20 (by decide) rfl rfl rfl [] hd ?_
  intro vs a W hdep hfree hR
  have hs := hR.size
  clear hdep hfree hR
  refine ⟨.slice (some ⟨W.heap.size, 0, none⟩) 1 1, W.alloc (.cells #[.int .u8 115] 5), ?_, ⟨W.heap.size, (0, 0), hs, rfl, heap_alloc_new W _⟩, Grow.alloc hs _⟩
  go_simp
set_option maxRecDepth 100000 in
set_option maxHeartbeats 1000000 in
theorem s4_21 (hB : Base4 w0 a0) (hd : ([20].all fun j => (B.getD 21 0).testBit j && decide (j < 96)) = true) : StepAt Tryd.prog ops4 Q B (List.range 96) (GI (G4 w0.heap.size) w0 a0) 21 := by
  refine gstep (fun i v w w' => G4_grow _ i v w w') hB.sz 21 (by decide) rfl rfl rfl [20] hd ?_
  intro vs a W hdep hfree hR
  obtain ⟨e20, g20⟩ := hdep 20 (by decide)
  replace e20 : a.tmps[44]? = some (vs 20) := e20
  obtain ⟨g, fr, hb, hv, hh⟩ := (show BYTE w0.heap.size 115 (vs 20) W from g20)
  rw [hv] at e20
  obtain ⟨W', hrun, hgr, hC⟩ := conv_byte hb hh
  clear hdep hfree hR g20 hv hh
  refine ⟨.slice (some ⟨g, 0, none⟩) 1 1, W', ?_, ⟨some ⟨g, 0, none⟩, 1, rfl, Nat.le_refl _, hC⟩, hgr⟩
  go_simp
set_option maxRecDepth 100000 in
set_option maxHeartbeats 1000000 in
theorem s4_22 (hB : Base4 w0 a0) (hd : ([21].all fun j => (B.getD 22 0).testBit j && decide (j < 96)) = true) : StepAt Tryd.prog ops4 Q B (List.range 96) (GI (G4 w0.heap.size) w0 a0) 22 := by
  refine gstep (fun i v w w' => G4_grow _ i v w w') hB.sz 22 (by decide) rfl rfl rfl [21] hd ?_
  intro vs a W hdep hfree hR
  obtain ⟨e21, g21⟩ := hdep 21 (by decide)
  replace e21 : a.tmps[45]? = some (vs 21) := e21
  obtain ⟨A8, c8, hv8, hl8, hC8⟩ := (show BS [115] (vs 21) W from g21)
  rw [hv8] at e21
  clear hdep hfree hR g21 hv8
  refine ⟨_, W, ?_, ⟨none, none, A8, 0, 0, c8, rfl, ⟨⟨C_none _ _, C_none _ _, hC8⟩, Nat.le_refl _, Nat.le_refl _, hl8⟩⟩, Grow.refl _ _⟩
  go_simp
  (try first | rfl | (simp [rowM]; done))
set_option maxRecDepth 100000 in
set_option maxHeartbeats 1000000 in
theorem s4_23 (hB : Base4 w0 a0) (hd : ([22].all fun j => (B.getD 23 0).testBit j && decide (j < 96)) = true) : StepAt Tryd.prog ops4 Q B (List.range 96) (GI (G4 w0.heap.size) w0 a0) 23 := by
  refine gstep (fun i v w w' => G4_grow _ i v w w') hB.sz 23 (by decide) rfl rfl rfl [22] hd ?_
  intro vs a W hdep hfree hR
  obtain ⟨e22, g22⟩ := hdep 22 (by decide)
  replace e22 : a.tmps[46]? = some (vs 22) := e22
  obtain ⟨A6, A7, A8, c6, c7, c8, hv, hL⟩ := (show MSG 7 (vs 22) W from g22)
  have e22' : a.tmps[46]? = some (.agg #[.int .u8 (rowM 7).k, .int .u64 (rowM 7).n, .int .i64 (rowM 7).r, .int .u64 (rowM 7).first, .int .u64 (rowM 7).last, .int .u64 (rowM 7).commit, .slice A6 (rowM 7).V.length c6, .slice A7 (rowM 7).B.length c7, .slice A8 (rowM 7).S.length c8]) := by rw [e22, hv]
  clear hdep hfree hR g22 hv e22
  refine ⟨_, W, ?_, ⟨A6, A7, A8, c6, c7, c8, rfl, hL⟩, Grow.refl _ _⟩
  go_simp
  (try first | rfl | (simp [rowM]; done))
set_option maxRecDepth 100000 in
set_option maxHeartbeats 1000000 in
theorem s4_24 (hB : Base4 w0 a0) (hd : ([].all fun j => (B.getD 24 0).testBit j && decide (j < 96)) = true) : StepAt Tryd.prog ops4 Q B (List.range 96) (GI (G4 w0.heap.size) w0 a0) 24 := by
  refine gstep (fun i v w w' => G4_grow _ i v w w') hB.sz 24 (by decide) rfl rfl rfl [] hd ?_
  intro vs a W hdep hfree hR
  clear hdep hfree hR
  refine ⟨.agg #[.int .u64 1, .int .i64 0], W, ?_, rfl, Grow.refl _ _⟩
  go_simp
set_option maxRecDepth 100000 in
set_option maxHeartbeats 1000000 in
theorem s4_25 (hB : Base4 w0 a0) (hd : ([].all fun j => (B.getD 25 0).testBit j && decide (j < 96)) = true) : StepAt Tryd.prog ops4 Q B (List.range 96) (GI (G4 w0.heap.size) w0 a0) 25 := by
  refine gstep (fun i v w w' => G4_grow _ i v w w') hB.sz 25 (by decide) rfl rfl rfl [] hd ?_
  intro vs a W hdep hfree hR
  clear hdep hfree hR
  refine ⟨.agg #[.int .u64 1, .int .i64 2], W, ?_, rfl, Grow.refl _ _⟩
  go_simp
set_option maxRecDepth 100000 in
set_option maxHeartbeats 1000000 in
theorem s4_26 (hB : Base4 w0 a0) (hd : ([].all fun j => (B.getD 26 0).testBit j && decide (j < 96)) = true) : StepAt Tryd.prog ops4 Q B (List.range 96) (GI (G4 w0.heap.size) w0 a0) 26 := by
  refine gstep (fun i v w w' => G4_grow _ i v w w') hB.sz 26 (by decide) rfl rfl rfl [] hd ?_
  intro vs a W hdep hfree hR
  have hs := hR.size
  clear hdep hfree hR
  refine ⟨.slice (some ⟨W.heap.size, 0, none⟩) 1 1, W.alloc (.cells #[.int .u8 121] 5), ?_, ⟨W.heap.size, (0, 0), hs, rfl, heap_alloc_new W _⟩, Grow.alloc hs _⟩
  go_simp
set_option maxRecDepth 100000 in
set_option maxHeartbeats 1000000 in
theorem s4_27 (hB : Base4 w0 a0) (hd : ([26].all fun j => (B.getD 27 0).testBit j && decide (j < 96)) = true) : StepAt Tryd.prog ops4 Q B (List.range 96) (GI (G4 w0.heap.size) w0 a0) 27 := by
  refine gstep (fun i v w w' => G4_grow _ i v w w') hB.sz 27 (by decide) rfl rfl rfl [26] hd ?_
  intro vs a W hdep hfree hR
  obtain ⟨e26, g26⟩ := hdep 26 (by decide)
  replace e26 : a.tmps[50]? = some (vs 26) := e26
  obtain ⟨g, fr, hb, hv, hh⟩ := (show BYTE w0.heap.size 121 (vs 26) W from g26)
  rw [hv] at e26
  obtain ⟨W', hrun, hgr, hC⟩ := conv_byte hb hh
  clear hdep hfree hR g26 hv hh
  refine ⟨.slice (some ⟨g, 0, none⟩) 1 1, W', ?_, ⟨some ⟨g, 0, none⟩, 1, rfl, Nat.le_refl _, hC⟩, hgr⟩
  go_simp
set_option maxRecDepth 100000 in
set_option maxHeartbeats 1000000 in
theorem s4_28 (hB : Base4 w0 a0) (hd : ([25, 27].all fun j => (B.getD 28 0).testBit j && decide (j < 96)) = true) : StepAt Tryd.prog ops4 Q B (List.range 96) (GI (G4 w0.heap.size) w0 a0) 28 := by
  refine gstep (fun i v w w' => G4_grow _ i v w w') hB.sz 28 (by decide) rfl rfl rfl [25, 27] hd ?_
  intro vs a W hdep hfree hR
  obtain ⟨e25, g25⟩ := hdep 25 (by decide)
  replace e25 : a.tmps[49]? = some (vs 25) := e25
  obtain ⟨e27, g27⟩ := hdep 27 (by decide)
  replace e27 : a.tmps[51]? = some (vs 27) := e27
  rw [show vs 25 = .agg #[.int .u64 1, .int .i64 2] from g25] at e25
  obtain ⟨A, c, hv, hl, hC⟩ := (show BS [121] (vs 27) W from g27)
  rw [hv] at e27
  clear hdep hfree hR g25 g27 hv
  refine ⟨_, W, ?_, ⟨A, c, rfl, hl, hC⟩, Grow.refl _ _⟩
  go_simp
  (try first | rfl | (simp [rowM]; done))
set_option maxRecDepth 100000 in
set_option maxHeartbeats 1000000 in
theorem s4_29 (hB : Base4 w0 a0) (hd : ([28].all fun j => (B.getD 29 0).testBit j && decide (j < 96)) = true) : StepAt Tryd.prog ops4 Q B (List.range 96) (GI (G4 w0.heap.size) w0 a0) 29 := by
  refine gstep (fun i v w w' => G4_grow _ i v w w') hB.sz 29 (by decide) rfl rfl rfl [28] hd ?_
  intro vs a W hdep hfree hR
  obtain ⟨e28, g28⟩ := hdep 28 (by decide)
  replace e28 : a.tmps[52]? = some (vs 28) := e28
  obtain ⟨A0, c0, hv0, hl0, hC0⟩ := (show VOTE ⟨6, ⟨1, 2⟩, [121]⟩ (vs 28) W from g28)
  rw [hv0] at e28
  have hs := hR.size
  clear hdep hfree hR g28 hv0
  refine ⟨.slice (some ⟨W.heap.size, 0, none⟩) 1 1, W.alloc (.cells #[.int .u64 6, .int .u64 1, .int .i64 2, .slice A0 1 c0] 52), ?_, ⟨some ⟨W.heap.size, 0, none⟩, 1, rfl, Nat.le_refl _, C_vote1 (blk_new W (.cells #[.int .u64 6, .int .u64 1, .int .i64 2, .slice A0 1 c0] 52)) hl0 (C_grow hC0 (Grow.alloc hs _))⟩, Grow.alloc hs _⟩
  go_simp
  (try first | rfl | (simp; done))
set_option maxRecDepth 100000 in
set_option maxHeartbeats 1000000 in
theorem s4_30 (hB : Base4 w0 a0) (hd : ([24, 29].all fun j => (B.getD 30 0).testBit j && decide (j < 96)) = true) : StepAt Tryd.prog ops4 Q B (List.range 96) (GI (G4 w0.heap.size) w0 a0) 30 := by
  refine gstep (fun i v w w' => G4_grow _ i v w w') hB.sz 30 (by decide) rfl rfl rfl [24, 29] hd ?_
  intro vs a W hdep hfree hR
  obtain ⟨e24, g24⟩ := hdep 24 (by decide)
  replace e24 : a.tmps[48]? = some (vs 24) := e24
  obtain ⟨e29, g29⟩ := hdep 29 (by decide)
  replace e29 : a.tmps[53]? = some (vs 29) := e29
  rw [show vs 24 = .agg #[.int .u64 1, .int .i64 0] from g24] at e24
  obtain ⟨A6, c6, hv6, hl6, hC6⟩ := (show VW [⟨6, ⟨1, 2⟩, [121]⟩] (vs 29) W from g29)
  rw [hv6] at e29
  clear hdep hfree hR g24 g29 hv6
  refine ⟨_, W, ?_, ⟨A6, none, none, c6, 0, 0, rfl, ⟨⟨hC6, C_none _ _, C_none _ _⟩, hl6, Nat.le_refl _, Nat.le_refl _⟩⟩, Grow.refl _ _⟩
  go_simp
  (try first | rfl | (simp [rowM]; done))
set_option maxRecDepth 100000 in
set_option maxHeartbeats 1000000 in
theorem s4_31 (hB : Base4 w0 a0) (hd : ([30].all fun j => (B.getD 31 0).testBit j && decide (j < 96)) = true) : StepAt Tryd.prog ops4 Q B (List.range 96) (GI (G4 w0.heap.size) w0 a0) 31 := by
  refine gstep (fun i v w w' => G4_grow _ i v w w') hB.sz 31 (by decide) rfl rfl rfl [30] hd ?_
  intro vs a W hdep hfree hR
  obtain ⟨e30, g30⟩ := hdep 30 (by decide)
  replace e30 : a.tmps[54]? = some (vs 30) := e30
  obtain ⟨A6, A7, A8, c6, c7, c8, hv, hL⟩ := (show MSG 8 (vs 30) W from g30)
  have e30' : a.tmps[54]? = some (.agg #[.int .u8 (rowM 8).k, .int .u64 (rowM 8).n, .int .i64 (rowM 8).r, .int .u64 (rowM 8).first, .int .u64 (rowM 8).last, .int .u64 (rowM 8).commit, .slice A6 (rowM 8).V.length c6, .slice A7 (rowM 8).B.length c7, .slice A8 (rowM 8).S.length c8]) := by rw [e30, hv]
  clear hdep hfree hR g30 hv e30
  refine ⟨_, W, ?_, ⟨A6, A7, A8, c6, c7, c8, rfl, hL⟩, Grow.refl _ _⟩
  go_simp
  (try first | rfl | (simp [rowM]; done))
set_option maxRecDepth 100000 in
set_option maxHeartbeats 1000000 in
theorem s4_32 (hB : Base4 w0 a0) (hd : ([].all fun j => (B.getD 32 0).testBit j && decide (j < 96)) = true) : StepAt Tryd.prog ops4 Q B (List.range 96) (GI (G4 w0.heap.size) w0 a0) 32 := by
  refine gstep (fun i v w w' => G4_grow _ i v w w') hB.sz 32 (by decide) rfl rfl rfl [] hd ?_
  intro vs a W hdep hfree hR
  have e2 : a.tmps[2]? = some (.int .u64 18446744073709551615) := (hfree 2 (free4 (by decide))).trans hB.t2
  clear hdep hfree hR
  refine ⟨.int .u64 18446744073709551615, W, ?_, rfl, Grow.refl _ _⟩
  go_simp
set_option maxRecDepth 100000 in
set_option maxHeartbeats 1000000 in
theorem s4_33 (hB : Base4 w0 a0) (hd : ([].all fun j => (B.getD 33 0).testBit j && decide (j < 96)) = true) : StepAt Tryd.prog ops4 Q B (List.range 96) (GI (G4 w0.heap.size) w0 a0) 33 := by
  refine gstep (fun i v w w' => G4_grow _ i v w w') hB.sz 33 (by decide) rfl rfl rfl [] hd ?_
  intro vs a W hdep hfree hR
  obtain ⟨v, h3, hv⟩ := hB.t3
  have e3 : a.tmps[3]? = some v := (hfree 3 (free4 (by decide))).trans h3
  have hv' := hv.grow hR
  clear hdep hfree hR h3 hv
  refine ⟨v, W, ?_, hv', Grow.refl _ _⟩
  go_simp
set_option maxRecDepth 100000 in
set_option maxHeartbeats 1000000 in
theorem s4_34 (hB : Base4 w0 a0) (hd : ([32, 33].all fun j => (B.getD 34 0).testBit j && decide (j < 96)) = true) : StepAt Tryd.prog ops4 Q B (List.range 96) (GI (G4 w0.heap.size) w0 a0) 34 := by
  refine gstep (fun i v w w' => G4_grow _ i v w w') hB.sz 34 (by decide) rfl rfl rfl [32, 33] hd ?_
  intro vs a W hdep hfree hR
  obtain ⟨e32, g32⟩ := hdep 32 (by decide)
  replace e32 : a.tmps[56]? = some (vs 32) := e32
  obtain ⟨e33, g33⟩ := hdep 33 (by decide)
  replace e33 : a.tmps[57]? = some (vs 33) := e33
  rw [show vs 32 = .int .u64 18446744073709551615 from g32] at e32
  obtain ⟨A7, c7, hv7, hl7, hC7⟩ := (show RW [[120]] (vs 33) W from g33)
  rw [hv7] at e33
  clear hdep hfree hR g32 g33 hv7
  refine ⟨_, W, ?_, ⟨none, A7, none, 0, c7, 0, rfl, ⟨⟨C_none _ _, hC7, C_none _ _⟩, Nat.le_refl _, hl7, Nat.le_refl _⟩⟩, Grow.refl _ _⟩
  go_simp
  (try first | rfl | (simp [rowM]; done))
set_option maxRecDepth 100000 in
set_option maxHeartbeats 1000000 in
theorem s4_35 (hB : Base4 w0 a0) (hd : ([34].all fun j => (B.getD 35 0).testBit j && decide (j < 96)) = true) : StepAt Tryd.prog ops4 Q B (List.range 96) (GI (G4 w0.heap.size) w0 a0) 35 := by
  refine gstep (fun i v w w' => G4_grow _ i v w w') hB.sz 35 (by decide) rfl rfl rfl [34] hd ?_
  intro vs a W hdep hfree hR
  obtain ⟨e34, g34⟩ := hdep 34 (by decide)
  replace e34 : a.tmps[58]? = some (vs 34) := e34
  obtain ⟨A6, A7, A8, c6, c7, c8, hv, hL⟩ := (show MSG 9 (vs 34) W from g34)
  have e34' : a.tmps[58]? = some (.agg #[.int .u8 (rowM 9).k, .int .u64 (rowM 9).n, .int .i64 (rowM 9).r, .int .u64 (rowM 9).first, .int .u64 (rowM 9).last, .int .u64 (rowM 9).commit, .slice A6 (rowM 9).V.length c6, .slice A7 (rowM 9).B.length c7, .slice A8 (rowM 9).S.length c8]) := by rw [e34, hv]
  clear hdep hfree hR g34 hv e34
  refine ⟨_, W, ?_, ⟨A6, A7, A8, c6, c7, c8, rfl, hL⟩, Grow.refl _ _⟩
  go_simp
  (try first | rfl | (simp [rowM]; done))
set_option maxRecDepth 100000 in
set_option maxHeartbeats 1000000 in
theorem s4_36 (hB : Base4 w0 a0) (hd : ([].all fun j => (B.getD 36 0).testBit j && decide (j < 96)) = true) : StepAt Tryd.prog ops4 Q B (List.range 96) (GI (G4 w0.heap.size) w0 a0) 36 := by
  refine gstep (fun i v w w' => G4_grow _ i v w w') hB.sz 36 (by decide) rfl rfl rfl [] hd ?_
  intro vs a W hdep hfree hR
  clear hdep hfree hR  
  refine ⟨_, W, ?_, ⟨none, none, none, 0, 0, 0, rfl, ⟨⟨C_none _ _, C_none _ _, C_none _ _⟩, Nat.le_refl _, Nat.le_refl _, Nat.le_refl _⟩⟩, Grow.refl _ _⟩
  go_simp
  (try first | rfl | (simp [rowM]; done))
set_option maxRecDepth 100000 in
set_option maxHeartbeats 1000000 in
theorem s4_37 (hB : Base4 w0 a0) (hd : ([36].all fun j => (B.getD 37 0).testBit j && decide (j < 96)) = true) : StepAt Tryd.prog ops4 Q B (List.range 96) (GI (G4 w0.heap.size) w0 a0) 37 := by
  refine gstep (fun i v w w' => G4_grow _ i v w w') hB.sz 37 (by decide) rfl rfl rfl [36] hd ?_
  intro vs a W hdep hfree hR
  obtain ⟨e36, g36⟩ := hdep 36 (by decide)
  replace e36 : a.tmps[60]? = some (vs 36) := e36
  obtain ⟨A6, A7, A8, c6, c7, c8, hv, hL⟩ := (show MSG 10 (vs 36) W from g36)
  have e36' : a.tmps[60]? = some (.agg #[.int .u8 (rowM 10).k, .int .u64 (rowM 10).n, .int .i64 (rowM 10).r, .int .u64 (rowM 10).first, .int .u64 (rowM 10).last, .int .u64 (rowM 10).commit, .slice A6 (rowM 10).V.length c6, .slice A7 (rowM 10).B.length c7, .slice A8 (rowM 10).S.length c8]) := by rw [e36, hv]
  clear hdep hfree hR g36 hv e36
  refine ⟨_, W, ?_, ⟨A6, A7, A8, c6, c7, c8, rfl, hL⟩, Grow.refl _ _⟩
  go_simp
  (try first | rfl | (simp [rowM]; done))
set_option maxRecDepth 100000 in
set_option maxHeartbeats 1000000 in
theorem s4_38 (hB : Base4 w0 a0) (hd : ([].all fun j => (B.getD 38 0).testBit j && decide (j < 96)) = true) : StepAt Tryd.prog ops4 Q B (List.range 96) (GI (G4 w0.heap.size) w0 a0) 38 := by
  refine gstep (fun i v w w' => G4_grow _ i v w w') hB.sz 38 (by decide) rfl rfl rfl [] hd ?_
  intro vs a W hdep hfree hR
  clear hdep hfree hR  
  refine ⟨_, W, ?_, ⟨none, none, none, 0, 0, 0, rfl, ⟨⟨C_none _ _, C_none _ _, C_none _ _⟩, Nat.le_refl _, Nat.le_refl _, Nat.le_refl _⟩⟩, Grow.refl _ _⟩
  go_simp
  (try first | rfl | (simp [rowM]; done))
set_option maxRecDepth 100000 in
set_option maxHeartbeats 1000000 in
theorem s4_39 (hB : Base4 w0 a0) (hd : ([38].all fun j => (B.getD 39 0).testBit j && decide (j < 96)) = true) : StepAt Tryd.prog ops4 Q B (List.range 96) (GI (G4 w0.heap.size) w0 a0) 39 := by
  refine gstep (fun i v w w' => G4_grow _ i v w w') hB.sz 39 (by decide) rfl rfl rfl [38] hd ?_
  intro vs a W hdep hfree hR
  obtain ⟨e38, g38⟩ := hdep 38 (by decide)
  replace e38 : a.tmps[62]? = some (vs 38) := e38
  obtain ⟨A6, A7, A8, c6, c7, c8, hv, hL⟩ := (show MSG 11 (vs 38) W from g38)
  have e38' : a.tmps[62]? = some (.agg #[.int .u8 (rowM 11).k, .int .u64 (rowM 11).n, .int .i64 (rowM 11).r, .int .u64 (rowM 11).first, .int .u64 (rowM 11).last, .int .u64 (rowM 11).commit, .slice A6 (rowM 11).V.length c6, .slice A7 (rowM 11).B.length c7, .slice A8 (rowM 11).S.length c8]) := by rw [e38, hv]
  clear hdep hfree hR g38 hv e38
  refine ⟨_, W, ?_, ⟨A6, A7, A8, c6, c7, c8, rfl, hL⟩, Grow.refl _ _⟩
  go_simp
  (try first | rfl | (simp [rowM]; done))
set_option maxRecDepth 100000 in
set_option maxHeartbeats 1000000 in
theorem s4_40 (hB : Base4 w0 a0) (hd : ([].all fun j => (B.getD 40 0).testBit j && decide (j < 96)) = true) : StepAt Tryd.prog ops4 Q B (List.range 96) (GI (G4 w0.heap.size) w0 a0) 40 := by
  refine gstep (fun i v w w' => G4_grow _ i v w w') hB.sz 40 (by decide) rfl rfl rfl [] hd ?_
  intro vs a W hdep hfree hR
  clear hdep hfree hR  
  refine ⟨_, W, ?_, ⟨none, none, none, 0, 0, 0, rfl, ⟨⟨C_none _ _, C_none _ _, C_none _ _⟩, Nat.le_refl _, Nat.le_refl _, Nat.le_refl _⟩⟩, Grow.refl _ _⟩
  go_simp
  (try first | rfl | (simp [rowM]; done))
set_option maxRecDepth 100000 in
set_option maxHeartbeats 1000000 in
theorem s4_41 (hB : Base4 w0 a0) (hd : ([40].all fun j => (B.getD 41 0).testBit j && decide (j < 96)) = true) : StepAt Tryd.prog ops4 Q B (List.range 96) (GI (G4 w0.heap.size) w0 a0) 41 := by
  refine gstep (fun i v w w' => G4_grow _ i v w w') hB.sz 41 (by decide) rfl rfl rfl [40] hd ?_
  intro vs a W hdep hfree hR
  obtain ⟨e40, g40⟩ := hdep 40 (by decide)
  replace e40 : a.tmps[64]? = some (vs 40) := e40
  obtain ⟨A6, A7, A8, c6, c7, c8, hv, hL⟩ := (show MSG 12 (vs 40) W from g40)
  have e40' : a.tmps[64]? = some (.agg #[.int .u8 (rowM 12).k, .int .u64 (rowM 12).n, .int .i64 (rowM 12).r, .int .u64 (rowM 12).first, .int .u64 (rowM 12).last, .int .u64 (rowM 12).commit, .slice A6 (rowM 12).V.length c6, .slice A7 (rowM 12).B.length c7, .slice A8 (rowM 12).S.length c8]) := by rw [e40, hv]
  clear hdep hfree hR g40 hv e40
  refine ⟨_, W, ?_, ⟨A6, A7, A8, c6, c7, c8, rfl, hL⟩, Grow.refl _ _⟩
  go_simp
  (try first | rfl | (simp [rowM]; done))
set_option maxRecDepth 100000 in
set_option maxHeartbeats 1000000 in
theorem s4_42 (hB : Base4 w0 a0) (hd : ([].all fun j => (B.getD 42 0).testBit j && decide (j < 96)) = true) : StepAt Tryd.prog ops4 Q B (List.range 96) (GI (G4 w0.heap.size) w0 a0) 42 := by
  refine gstep (fun i v w w' => G4_grow _ i v w w') hB.sz 42 (by decide) rfl rfl rfl [] hd ?_
  intro vs a W hdep hfree hR
  clear hdep hfree hR
  refine ⟨.agg #[.int .u64 0, .int .i64 7], W, ?_, rfl, Grow.refl _ _⟩
  go_simp
set_option maxRecDepth 100000 in
set_option maxHeartbeats 1000000 in
theorem s4_43 (hB : Base4 w0 a0) (hd : ([42].all fun j => (B.getD 43 0).testBit j && decide (j < 96)) = true) : StepAt Tryd.prog ops4 Q B (List.range 96) (GI (G4 w0.heap.size) w0 a0) 43 := by
  refine gstep (fun i v w w' => G4_grow _ i v w w') hB.sz 43 (by decide) rfl rfl rfl [42] hd ?_
  intro vs a W hdep hfree hR
  obtain ⟨e42, g42⟩ := hdep 42 (by decide)
  replace e42 : a.tmps[66]? = some (vs 42) := e42
  rw [show vs 42 = .agg #[.int .u64 0, .int .i64 7] from g42] at e42
  clear hdep hfree hR g42 
  refine ⟨_, W, ?_, ⟨none, none, none, 0, 0, 0, rfl, ⟨⟨C_none _ _, C_none _ _, C_none _ _⟩, Nat.le_refl _, Nat.le_refl _, Nat.le_refl _⟩⟩, Grow.refl _ _⟩
  go_simp
  (try first | rfl | (simp [rowM]; done))
set_option maxRecDepth 100000 in
set_option maxHeartbeats 1000000 in
theorem s4_44 (hB : Base4 w0 a0) (hd : ([43].all fun j => (B.getD 44 0).testBit j && decide (j < 96)) = true) : StepAt Tryd.prog ops4 Q B (List.range 96) (GI (G4 w0.heap.size) w0 a0) 44 := by
  refine gstep (fun i v w w' => G4_grow _ i v w w') hB.sz 44 (by decide) rfl rfl rfl [43] hd ?_
  intro vs a W hdep hfree hR
  obtain ⟨e43, g43⟩ := hdep 43 (by decide)
  replace e43 : a.tmps[67]? = some (vs 43) := e43
  obtain ⟨A6, A7, A8, c6, c7, c8, hv, hL⟩ := (show MSG 13 (vs 43) W from g43)
  have e43' : a.tmps[67]? = some (.agg #[.int .u8 (rowM 13).k, .int .u64 (rowM 13).n, .int .i64 (rowM 13).r, .int .u64 (rowM 13).first, .int .u64 (rowM 13).last, .int .u64 (rowM 13).commit, .slice A6 (rowM 13).V.length c6, .slice A7 (rowM 13).B.length c7, .slice A8 (rowM 13).S.length c8]) := by rw [e43, hv]
  clear hdep hfree hR g43 hv e43
  refine ⟨_, W, ?_, ⟨A6, A7, A8, c6, c7, c8, rfl, hL⟩, Grow.refl _ _⟩
  go_simp
  (try first | rfl | (simp [rowM]; done))
set_option maxRecDepth 100000 in
set_option maxHeartbeats 1000000 in
theorem s4_45 (hB : Base4 w0 a0) (hd : ([].all fun j => (B.getD 45 0).testBit j && decide (j < 96)) = true) : StepAt Tryd.prog ops4 Q B (List.range 96) (GI (G4 w0.heap.size) w0 a0) 45 := by
  refine gstep (fun i v w w' => G4_grow _ i v w w') hB.sz 45 (by decide) rfl rfl rfl [] hd ?_
  intro vs a W hdep hfree hR
  clear hdep hfree hR
  refine ⟨.agg #[.int .u64 0, .int .i64 (-1)], W, ?_, rfl, Grow.refl _ _⟩
  go_simp
set_option maxRecDepth 100000 in
set_option maxHeartbeats 1000000 in
theorem s4_46 (hB : Base4 w0 a0) (hd : ([45].all fun j => (B.getD 46 0).testBit j && decide (j < 96)) = true) : StepAt Tryd.prog ops4 Q B (List.range 96) (GI (G4 w0.heap.size) w0 a0) 46 := by
  refine gstep (fun i v w w' => G4_grow _ i v w w') hB.sz 46 (by decide) rfl rfl rfl [45] hd ?_
  intro vs a W hdep hfree hR
  obtain ⟨e45, g45⟩ := hdep 45 (by decide)
  replace e45 : a.tmps[69]? = some (vs 45) := e45
  rw [show vs 45 = .agg #[.int .u64 0, .int .i64 (-1)] from g45] at e45
  clear hdep hfree hR g45 
  refine ⟨_, W, ?_, ⟨none, none, none, 0, 0, 0, rfl, ⟨⟨C_none _ _, C_none _ _, C_none _ _⟩, Nat.le_refl _, Nat.le_refl _, Nat.le_refl _⟩⟩, Grow.refl _ _⟩
  go_simp
  (try first | rfl | (simp [rowM]; done))
set_option maxRecDepth 100000 in
set_option maxHeartbeats 1000000 in
theorem s4_47 (hB : Base4 w0 a0) (hd : ([46].all fun j => (B.getD 47 0).testBit j && decide (j < 96)) = true) : StepAt Tryd.prog ops4 Q B (List.range 96) (GI (G4 w0.heap.size) w0 a0) 47 := by
  refine gstep (fun i v w w' => G4_grow _ i v w w') hB.sz 47 (by decide) rfl rfl rfl [46] hd ?_
  intro vs a W hdep hfree hR
  obtain ⟨e46, g46⟩ := hdep 46 (by decide)
  replace e46 : a.tmps[70]? = some (vs 46) := e46
  obtain ⟨A6, A7, A8, c6, c7, c8, hv, hL⟩ := (show MSG 14 (vs 46) W from g46)
  have e46' : a.tmps[70]? = some (.agg #[.int .u8 (rowM 14).k, .int .u64 (rowM 14).n, .int .i64 (rowM 14).r, .int .u64 (rowM 14).first, .int .u64 (rowM 14).last, .int .u64 (rowM 14).commit, .slice A6 (rowM 14).V.length c6, .slice A7 (rowM 14).B.length c7, .slice A8 (rowM 14).S.length c8]) := by rw [e46, hv]
  clear hdep hfree hR g46 hv e46
  refine ⟨_, W, ?_, ⟨A6, A7, A8, c6, c7, c8, rfl, hL⟩, Grow.refl _ _⟩
  go_simp
  (try first | rfl | (simp [rowM]; done))
set_option maxRecDepth 100000 in
set_option maxHeartbeats 1000000 in
theorem s4_48 (hB : Base4 w0 a0) (hd : ([].all fun j => (B.getD 48 0).testBit j && decide (j < 96)) = true) : StepAt Tryd.prog ops4 Q B (List.range 96) (GI (G4 w0.heap.size) w0 a0) 48 := by
  refine gstep (fun i v w w' => G4_grow _ i v w w') hB.sz 48 (by decide) rfl rfl rfl [] hd ?_
  intro vs a W hdep hfree hR
  clear hdep hfree hR  
  refine ⟨_, W, ?_, ⟨none, none, none, 0, 0, 0, rfl, ⟨⟨C_none _ _, C_none _ _, C_none _ _⟩, Nat.le_refl _, Nat.le_refl _, Nat.le_refl _⟩⟩, Grow.refl _ _⟩
  go_simp
  (try first | rfl | (simp [rowM]; done))
set_option maxRecDepth 100000 in
set_option maxHeartbeats 1000000 in
theorem s4_49 (hB : Base4 w0 a0) (hd : ([48].all fun j => (B.getD 49 0).testBit j && decide (j < 96)) = true) : StepAt Tryd.prog ops4 Q B (List.range 96) (GI (G4 w0.heap.size) w0 a0) 49 := by
  refine gstep (fun i v w w' => G4_grow _ i v w w') hB.sz 49 (by decide) rfl rfl rfl [48] hd ?_
  intro vs a W hdep hfree hR
  obtain ⟨e48, g48⟩ := hdep 48 (by decide)
  replace e48 : a.tmps[72]? = some (vs 48) := e48
  obtain ⟨A6, A7, A8, c6, c7, c8, hv, hL⟩ := (show MSG 15 (vs 48) W from g48)
  have e48' : a.tmps[72]? = some (.agg #[.int .u8 (rowM 15).k, .int .u64 (rowM 15).n, .int .i64 (rowM 15).r, .int .u64 (rowM 15).first, .int .u64 (rowM 15).last, .int .u64 (rowM 15).commit, .slice A6 (rowM 15).V.length c6, .slice A7 (rowM 15).B.length c7, .slice A8 (rowM 15).S.length c8]) := by rw [e48, hv]
  clear hdep hfree hR g48 hv e48
  refine ⟨_, W, ?_, ⟨A6, A7, A8, c6, c7, c8, rfl, hL⟩, Grow.refl _ _⟩
  go_simp
  (try first | rfl | (simp [rowM]; done))
set_option maxRecDepth 100000 in
set_option maxHeartbeats 1000000 in
theorem s4_50 (hB : Base4 w0 a0) (hd : ([].all fun j => (B.getD 50 0).testBit j && decide (j < 96)) = true) : StepAt Tryd.prog ops4 Q B (List.range 96) (GI (G4 w0.heap.size) w0 a0) 50 := by
  refine gstep (fun i v w w' => G4_grow _ i v w w') hB.sz 50 (by decide) rfl rfl rfl [] hd ?_
  intro vs a W hdep hfree hR
  obtain ⟨g, hg, h1, hx⟩ := hB.t1
  have e1 : a.tmps[1]? = some (.pointer (some ⟨g, 0, none⟩)) := (hfree 1 (free4 (by decide))).trans h1
  have hx' : W.heap[g]? = some (.cells #[.int .u64 2, .int .i64 1] 24 (0, 0)) := (hR.low g hg).trans hx
  have c0 := (blk_cell hx' 0).trans rfl
  have c1 := (blk_cell hx' 1).trans rfl
  clear hdep hfree hR hx hx' h1 hg hB
  refine ⟨.agg #[.int .u64 2, .int .i64 1], W, ?_, rfl, Grow.refl _ _⟩
  go_simp
set_option maxRecDepth 100000 in
set_option maxHeartbeats 1000000 in
theorem s4_51 (hB : Base4 w0 a0) (hd : ([50].all fun j => (B.getD 51 0).testBit j && decide (j < 96)) = true) : StepAt Tryd.prog ops4 Q B (List.range 96) (GI (G4 w0.heap.size) w0 a0) 51 := by
  refine gstep (fun i v w w' => G4_grow _ i v w w') hB.sz 51 (by decide) rfl rfl rfl [50] hd ?_
  intro vs a W hdep hfree hR
  obtain ⟨e50, g50⟩ := hdep 50 (by decide)
  replace e50 : a.tmps[74]? = some (vs 50) := e50
  rw [show vs 50 = .agg #[.int .u64 2, .int .i64 1] from g50] at e50
  clear hdep hfree hR g50 
  refine ⟨_, W, ?_, ⟨none, none, none, 0, 0, 0, rfl, ⟨⟨C_none _ _, C_none _ _, C_none _ _⟩, Nat.le_refl _, Nat.le_refl _, Nat.le_refl _⟩⟩, Grow.refl _ _⟩
  go_simp
  (try first | rfl | (simp [rowM]; done))
set_option maxRecDepth 100000 in
set_option maxHeartbeats 1000000 in
theorem s4_52 (hB : Base4 w0 a0) (hd : ([51].all fun j => (B.getD 52 0).testBit j && decide (j < 96)) = true) : StepAt Tryd.prog ops4 Q B (List.range 96) (GI (G4 w0.heap.size) w0 a0) 52 := by
  refine gstep (fun i v w w' => G4_grow _ i v w w') hB.sz 52 (by decide) rfl rfl rfl [51] hd ?_
  intro vs a W hdep hfree hR
  obtain ⟨e51, g51⟩ := hdep 51 (by decide)
  replace e51 : a.tmps[75]? = some (vs 51) := e51
  obtain ⟨A6, A7, A8, c6, c7, c8, hv, hL⟩ := (show MSG 16 (vs 51) W from g51)
  have e51' : a.tmps[75]? = some (.agg #[.int .u8 (rowM 16).k, .int .u64 (rowM 16).n, .int .i64 (rowM 16).r, .int .u64 (rowM 16).first, .int .u64 (rowM 16).last, .int .u64 (rowM 16).commit, .slice A6 (rowM 16).V.length c6, .slice A7 (rowM 16).B.length c7, .slice A8 (rowM 16).S.length c8]) := by rw [e51, hv]
  clear hdep hfree hR g51 hv e51
  refine ⟨_, W, ?_, ⟨A6, A7, A8, c6, c7, c8, rfl, hL⟩, Grow.refl _ _⟩
  go_simp
  (try first | rfl | (simp [rowM]; done))
set_option maxRecDepth 100000 in
set_option maxHeartbeats 1000000 in
theorem s4_53 (hB : Base4 w0 a0) (hd : ([].all fun j => (B.getD 53 0).testBit j && decide (j < 96)) = true) : StepAt Tryd.prog ops4 Q B (List.range 96) (GI (G4 w0.heap.size) w0 a0) 53 := by
  refine gstep (fun i v w w' => G4_grow _ i v w w') hB.sz 53 (by decide) rfl rfl rfl [] hd ?_
  intro vs a W hdep hfree hR
  clear hdep hfree hR  
  refine ⟨_, W, ?_, ⟨none, none, none, 0, 0, 0, rfl, ⟨⟨C_none _ _, C_none _ _, C_none _ _⟩, Nat.le_refl _, Nat.le_refl _, Nat.le_refl _⟩⟩, Grow.refl _ _⟩
  go_simp
  (try first | rfl | (simp [rowM]; done))
set_option maxRecDepth 100000 in
set_option maxHeartbeats 1000000 in
theorem s4_54 (hB : Base4 w0 a0) (hd : ([53].all fun j => (B.getD 54 0).testBit j && decide (j < 96)) = true) : StepAt Tryd.prog ops4 Q B (List.range 96) (GI (G4 w0.heap.size) w0 a0) 54 := by
  refine gstep (fun i v w w' => G4_grow _ i v w w') hB.sz 54 (by decide) rfl rfl rfl [53] hd ?_
  intro vs a W hdep hfree hR
  obtain ⟨e53, g53⟩ := hdep 53 (by decide)
  replace e53 : a.tmps[77]? = some (vs 53) := e53
  obtain ⟨A6, A7, A8, c6, c7, c8, hv, hL⟩ := (show MSG 17 (vs 53) W from g53)
  have e53' : a.tmps[77]? = some (.agg #[.int .u8 (rowM 17).k, .int .u64 (rowM 17).n, .int .i64 (rowM 17).r, .int .u64 (rowM 17).first, .int .u64 (rowM 17).last, .int .u64 (rowM 17).commit, .slice A6 (rowM 17).V.length c6, .slice A7 (rowM 17).B.length c7, .slice A8 (rowM 17).S.length c8]) := by rw [e53, hv]
  clear hdep hfree hR g53 hv e53
  refine ⟨_, W, ?_, ⟨A6, A7, A8, c6, c7, c8, rfl, hL⟩, Grow.refl _ _⟩
  go_simp
  (try first | rfl | (simp [rowM]; done))
set_option maxRecDepth 100000 in
set_option maxHeartbeats 1000000 in
theorem s4_55 (hB : Base4 w0 a0) (hd : ([].all fun j => (B.getD 55 0).testBit j && decide (j < 96)) = true) : StepAt Tryd.prog ops4 Q B (List.range 96) (GI (G4 w0.heap.size) w0 a0) 55 := by
  refine gstep (fun i v w w' => G4_grow _ i v w w') hB.sz 55 (by decide) rfl rfl rfl [] hd ?_
  intro vs a W hdep hfree hR
  clear hdep hfree hR  
  refine ⟨_, W, ?_, ⟨none, none, none, 0, 0, 0, rfl, ⟨⟨C_none _ _, C_none _ _, C_none _ _⟩, Nat.le_refl _, Nat.le_refl _, Nat.le_refl _⟩⟩, Grow.refl _ _⟩
  go_simp
  (try first | rfl | (simp [rowM]; done))
set_option maxRecDepth 100000 in
set_option maxHeartbeats 1000000 in
theorem s4_56 (hB : Base4 w0 a0) (hd : ([55].all fun j => (B.getD 56 0).testBit j && decide (j < 96)) = true) : StepAt Tryd.prog ops4 Q B (List.range 96) (GI (G4 w0.heap.size) w0 a0) 56 := by
  refine gstep (fun i v w w' => G4_grow _ i v w w') hB.sz 56 (by decide) rfl rfl rfl [55] hd ?_
  intro vs a W hdep hfree hR
  obtain ⟨e55, g55⟩ := hdep 55 (by decide)
  replace e55 : a.tmps[79]? = some (vs 55) := e55
  obtain ⟨A6, A7, A8, c6, c7, c8, hv, hL⟩ := (show MSG 18 (vs 55) W from g55)
  have e55' : a.tmps[79]? = some (.agg #[.int .u8 (rowM 18).k, .int .u64 (rowM 18).n, .int .i64 (rowM 18).r, .int .u64 (rowM 18).first, .int .u64 (rowM 18).last, .int .u64 (rowM 18).commit, .slice A6 (rowM 18).V.length c6, .slice A7 (rowM 18).B.length c7, .slice A8 (rowM 18).S.length c8]) := by rw [e55, hv]
  clear hdep hfree hR g55 hv e55
  refine ⟨_, W, ?_, ⟨A6, A7, A8, c6, c7, c8, rfl, hL⟩, Grow.refl _ _⟩
  go_simp
  (try first | rfl | (simp [rowM]; done))
set_option maxRecDepth 100000 in
set_option maxHeartbeats 1000000 in
theorem s4_57 (hB : Base4 w0 a0) (hd : ([].all fun j => (B.getD 57 0).testBit j && decide (j < 96)) = true) : StepAt Tryd.prog ops4 Q B (List.range 96) (GI (G4 w0.heap.size) w0 a0) 57 := by
  refine gstep (fun i v w w' => G4_grow _ i v w w') hB.sz 57 (by decide) rfl rfl rfl [] hd ?_
  intro vs a W hdep hfree hR
  clear hdep hfree hR  
  refine ⟨_, W, ?_, ⟨none, none, none, 0, 0, 0, rfl, ⟨⟨C_none _ _, C_none _ _, C_none _ _⟩, Nat.le_refl _, Nat.le_refl _, Nat.le_refl _⟩⟩, Grow.refl _ _⟩
  go_simp
  (try first | rfl | (simp [rowM]; done))
set_option maxRecDepth 100000 in
set_option maxHeartbeats 1000000 in
theorem s4_58 (hB : Base4 w0 a0) (hd : ([57].all fun j => (B.getD 58 0).testBit j && decide (j < 96)) = true) : StepAt Tryd.prog ops4 Q B (List.range 96) (GI (G4 w0.heap.size) w0 a0) 58 := by
  refine gstep (fun i v w w' => G4_grow _ i v w w') hB.sz 58 (by decide) rfl rfl rfl [57] hd ?_
  intro vs a W hdep hfree hR
  obtain ⟨e57, g57⟩ := hdep 57 (by decide)
  replace e57 : a.tmps[81]? = some (vs 57) := e57
  obtain ⟨A6, A7, A8, c6, c7, c8, hv, hL⟩ := (show MSG 19 (vs 57) W from g57)
  have e57' : a.tmps[81]? = some (.agg #[.int .u8 (rowM 19).k, .int .u64 (rowM 19).n, .int .i64 (rowM 19).r, .int .u64 (rowM 19).first, .int .u64 (rowM 19).last, .int .u64 (rowM 19).commit, .slice A6 (rowM 19).V.length c6, .slice A7 (rowM 19).B.length c7, .slice A8 (rowM 19).S.length c8]) := by rw [e57, hv]
  clear hdep hfree hR g57 hv e57
  refine ⟨_, W, ?_, ⟨A6, A7, A8, c6, c7, c8, rfl, hL⟩, Grow.refl _ _⟩
  go_simp
  (try first | rfl | (simp [rowM]; done))
set_option maxRecDepth 100000 in
set_option maxHeartbeats 1000000 in
theorem s4_59 (hB : Base4 w0 a0) (hd : ([].all fun j => (B.getD 59 0).testBit j && decide (j < 96)) = true) : StepAt Tryd.prog ops4 Q B (List.range 96) (GI (G4 w0.heap.size) w0 a0) 59 := by
  refine gstep (fun i v w w' => G4_grow _ i v w w') hB.sz 59 (by decide) rfl rfl rfl [] hd ?_
  intro vs a W hdep hfree hR
  clear hdep hfree hR  
  refine ⟨_, W, ?_, ⟨none, none, none, 0, 0, 0, rfl, ⟨⟨C_none _ _, C_none _ _, C_none _ _⟩, Nat.le_refl _, Nat.le_refl _, Nat.le_refl _⟩⟩, Grow.refl _ _⟩
  go_simp
  (try first | rfl | (simp [rowM]; done))
set_option maxRecDepth 100000 in
set_option maxHeartbeats 1000000 in
theorem s4_60 (hB : Base4 w0 a0) (hd : ([59].all fun j => (B.getD 60 0).testBit j && decide (j < 96)) = true) : StepAt Tryd.prog ops4 Q B (List.range 96) (GI (G4 w0.heap.size) w0 a0) 60 := by
  refine gstep (fun i v w w' => G4_grow _ i v w w') hB.sz 60 (by decide) rfl rfl rfl [59] hd ?_
  intro vs a W hdep hfree hR
  obtain ⟨e59, g59⟩ := hdep 59 (by decide)
  replace e59 : a.tmps[83]? = some (vs 59) := e59
  obtain ⟨A6, A7, A8, c6, c7, c8, hv, hL⟩ := (show MSG 20 (vs 59) W from g59)
  have e59' : a.tmps[83]? = some (.agg #[.int .u8 (rowM 20).k, .int .u64 (rowM 20).n, .int .i64 (rowM 20).r, .int .u64 (rowM 20).first, .int .u64 (rowM 20).last, .int .u64 (rowM 20).commit, .slice A6 (rowM 20).V.length c6, .slice A7 (rowM 20).B.length c7, .slice A8 (rowM 20).S.length c8]) := by rw [e59, hv]
  clear hdep hfree hR g59 hv e59
  refine ⟨_, W, ?_, ⟨A6, A7, A8, c6, c7, c8, rfl, hL⟩, Grow.refl _ _⟩
  go_simp
  (try first | rfl | (simp [rowM]; done))
set_option maxRecDepth 100000 in
set_option maxHeartbeats 1000000 in
theorem s4_61 (hB : Base4 w0 a0) (hd : ([].all fun j => (B.getD 61 0).testBit j && decide (j < 96)) = true) : StepAt Tryd.prog ops4 Q B (List.range 96) (GI (G4 w0.heap.size) w0 a0) 61 := by
  refine gstep (fun i v w w' => G4_grow _ i v w w') hB.sz 61 (by decide) rfl rfl rfl [] hd ?_
  intro vs a W hdep hfree hR
  have e2 : a.tmps[2]? = some (.int .u64 18446744073709551615) := (hfree 2 (free4 (by decide))).trans hB.t2
  clear hdep hfree hR
  refine ⟨.int .u64 18446744073709551615, W, ?_, rfl, Grow.refl _ _⟩
  go_simp
set_option maxRecDepth 100000 in
set_option maxHeartbeats 1000000 in
theorem s4_62 (hB : Base4 w0 a0) (hd : ([].all fun j => (B.getD 62 0).testBit j && decide (j < 96)) = true) : StepAt Tryd.prog ops4 Q B (List.range 96) (GI (G4 w0.heap.size) w0 a0) 62 := by
  refine gstep (fun i v w w' => G4_grow _ i v w w') hB.sz 62 (by decide) rfl rfl rfl [] hd ?_
  intro vs a W hdep hfree hR
  have hs := hR.size
  have hmk := mk26 W
  clear hdep hfree hR
  refine ⟨.slice (some ⟨W.heap.size, 0, none⟩) 2 2, W.alloc (.cells (Array.replicate 2 (.slice none 0 0)) 27), ?_, ⟨some ⟨W.heap.size, 0, none⟩, 2, rfl, Nat.le_refl _, C_nils 2 (heap_alloc_new W _) (by decide)⟩, Grow.alloc hs _⟩
  go_simp
  rfl
set_option maxRecDepth 100000 in
set_option maxHeartbeats 1000000 in
theorem s4_63 (hB : Base4 w0 a0) (hd : ([61, 62].all fun j => (B.getD 63 0).testBit j && decide (j < 96)) = true) : StepAt Tryd.prog ops4 Q B (List.range 96) (GI (G4 w0.heap.size) w0 a0) 63 := by
  refine gstep (fun i v w w' => G4_grow _ i v w w') hB.sz 63 (by decide) rfl rfl rfl [61, 62] hd ?_
  intro vs a W hdep hfree hR
  obtain ⟨e61, g61⟩ := hdep 61 (by decide)
  replace e61 : a.tmps[85]? = some (vs 61) := e61
  obtain ⟨e62, g62⟩ := hdep 62 (by decide)
  replace e62 : a.tmps[86]? = some (vs 62) := e62
  rw [show vs 61 = .int .u64 18446744073709551615 from g61] at e61
  obtain ⟨A7, c7, hv7, hl7, hC7⟩ := (show RW [[], []] (vs 62) W from g62)
  rw [hv7] at e62
  clear hdep hfree hR g61 g62 hv7
  refine ⟨_, W, ?_, ⟨none, A7, none, 0, c7, 0, rfl, ⟨⟨C_none _ _, hC7, C_none _ _⟩, Nat.le_refl _, hl7, Nat.le_refl _⟩⟩, Grow.refl _ _⟩
  go_simp
  (try first | rfl | (simp [rowM]; done))
set_option maxRecDepth 100000 in
set_option maxHeartbeats 1000000 in
theorem s4_64 (hB : Base4 w0 a0) (hd : ([63].all fun j => (B.getD 64 0).testBit j && decide (j < 96)) = true) : StepAt Tryd.prog ops4 Q B (List.range 96) (GI (G4 w0.heap.size) w0 a0) 64 := by
  refine gstep (fun i v w w' => G4_grow _ i v w w') hB.sz 64 (by decide) rfl rfl rfl [63] hd ?_
  intro vs a W hdep hfree hR
  obtain ⟨e63, g63⟩ := hdep 63 (by decide)
  replace e63 : a.tmps[87]? = some (vs 63) := e63
  obtain ⟨A6, A7, A8, c6, c7, c8, hv, hL⟩ := (show MSG 21 (vs 63) W from g63)
  have e63' : a.tmps[87]? = some (.agg #[.int .u8 (rowM 21).k, .int .u64 (rowM 21).n, .int .i64 (rowM 21).r, .int .u64 (rowM 21).first, .int .u64 (rowM 21).last, .int .u64 (rowM 21).commit, .slice A6 (rowM 21).V.length c6, .slice A7 (rowM 21).B.length c7, .slice A8 (rowM 21).S.length c8]) := by rw [e63, hv]
  clear hdep hfree hR g63 hv e63
  refine ⟨_, W, ?_, ⟨A6, A7, A8, c6, c7, c8, rfl, hL⟩, Grow.refl _ _⟩
  go_simp
  (try first | rfl | (simp [rowM]; done))
set_option maxRecDepth 100000 in
set_option maxHeartbeats 1000000 in
theorem s4_65 (hB : Base4 w0 a0) (hd : ([].all fun j => (B.getD 65 0).testBit j && decide (j < 96)) = true) : StepAt Tryd.prog ops4 Q B (List.range 96) (GI (G4 w0.heap.size) w0 a0) 65 := by
  refine gstep (fun i v w w' => G4_grow _ i v w w') hB.sz 65 (by decide) rfl rfl rfl [] hd ?_
  intro vs a W hdep hfree hR
  clear hdep hfree hR  
  refine ⟨_, W, ?_, ⟨none, none, none, 0, 0, 0, rfl, ⟨⟨C_none _ _, C_none _ _, C_none _ _⟩, Nat.le_refl _, Nat.le_refl _, Nat.le_refl _⟩⟩, Grow.refl _ _⟩
  go_simp
  (try first | rfl | (simp [rowM]; done))
set_option maxRecDepth 100000 in
set_option maxHeartbeats 1000000 in
theorem s4_66 (hB : Base4 w0 a0) (hd : ([65].all fun j => (B.getD 66 0).testBit j && decide (j < 96)) = true) : StepAt Tryd.prog ops4 Q B (List.range 96) (GI (G4 w0.heap.size) w0 a0) 66 := by
  refine gstep (fun i v w w' => G4_grow _ i v w w') hB.sz 66 (by decide) rfl rfl rfl [65] hd ?_
  intro vs a W hdep hfree hR
  obtain ⟨e65, g65⟩ := hdep 65 (by decide)
  replace e65 : a.tmps[89]? = some (vs 65) := e65
  obtain ⟨A6, A7, A8, c6, c7, c8, hv, hL⟩ := (show MSG 22 (vs 65) W from g65)
  have e65' : a.tmps[89]? = some (.agg #[.int .u8 (rowM 22).k, .int .u64 (rowM 22).n, .int .i64 (rowM 22).r, .int .u64 (rowM 22).first, .int .u64 (rowM 22).last, .int .u64 (rowM 22).commit, .slice A6 (rowM 22).V.length c6, .slice A7 (rowM 22).B.length c7, .slice A8 (rowM 22).S.length c8]) := by rw [e65, hv]
  clear hdep hfree hR g65 hv e65
  refine ⟨_, W, ?_, ⟨A6, A7, A8, c6, c7, c8, rfl, hL⟩, Grow.refl _ _⟩
  go_simp
  (try first | rfl | (simp [rowM]; done))
set_option maxRecDepth 100000 in
set_option maxHeartbeats 1000000 in
theorem s4_67 (hB : Base4 w0 a0) (hd : ([].all fun j => (B.getD 67 0).testBit j && decide (j < 96)) = true) : StepAt Tryd.prog ops4 Q B (List.range 96) (GI (G4 w0.heap.size) w0 a0) 67 := by
  refine gstep (fun i v w w' => G4_grow _ i v w w') hB.sz 67 (by decide) rfl rfl rfl [] hd ?_
  intro vs a W hdep hfree hR
  have hs := hR.size
  clear hdep hfree hR
  refine ⟨.slice (some ⟨W.heap.size, 0, none⟩) 1 1, W.alloc (.cells #[.int .u8 115] 5), ?_, ⟨W.heap.size, (0, 0), hs, rfl, heap_alloc_new W _⟩, Grow.alloc hs _⟩
  go_simp
set_option maxRecDepth 100000 in
set_option maxHeartbeats 1000000 in
theorem s4_68 (hB : Base4 w0 a0) (hd : ([67].all fun j => (B.getD 68 0).testBit j && decide (j < 96)) = true) : StepAt Tryd.prog ops4 Q B (List.range 96) (GI (G4 w0.heap.size) w0 a0) 68 := by
  refine gstep (fun i v w w' => G4_grow _ i v w w') hB.sz 68 (by decide) rfl rfl rfl [67] hd ?_
  intro vs a W hdep hfree hR
  obtain ⟨e67, g67⟩ := hdep 67 (by decide)
  replace e67 : a.tmps[91]? = some (vs 67) := e67
  obtain ⟨g, fr, hb, hv, hh⟩ := (show BYTE w0.heap.size 115 (vs 67) W from g67)
  rw [hv] at e67
  obtain ⟨W', hrun, hgr, hC⟩ := conv_byte hb hh
  clear hdep hfree hR g67 hv hh
  refine ⟨.slice (some ⟨g, 0, none⟩) 1 1, W', ?_, ⟨some ⟨g, 0, none⟩, 1, rfl, Nat.le_refl _, hC⟩, hgr⟩
  go_simp
set_option maxRecDepth 100000 in
set_option maxHeartbeats 1000000 in
theorem s4_69 (hB : Base4 w0 a0) (hd : ([68].all fun j => (B.getD 69 0).testBit j && decide (j < 96)) = true) : StepAt Tryd.prog ops4 Q B (List.range 96) (GI (G4 w0.heap.size) w0 a0) 69 := by
  refine gstep (fun i v w w' => G4_grow _ i v w w') hB.sz 69 (by decide) rfl rfl rfl [68] hd ?_
  intro vs a W hdep hfree hR
  obtain ⟨e68, g68⟩ := hdep 68 (by decide)
  replace e68 : a.tmps[92]? = some (vs 68) := e68
  obtain ⟨A8, c8, hv8, hl8, hC8⟩ := (show BS [115] (vs 68) W from g68)
  rw [hv8] at e68
  clear hdep hfree hR g68 hv8
  refine ⟨_, W, ?_, ⟨none, none, A8, 0, 0, c8, rfl, ⟨⟨C_none _ _, C_none _ _, hC8⟩, Nat.le_refl _, Nat.le_refl _, hl8⟩⟩, Grow.refl _ _⟩
  go_simp
  (try first | rfl | (simp [rowM]; done))
set_option maxRecDepth 100000 in
set_option maxHeartbeats 1000000 in
theorem s4_70 (hB : Base4 w0 a0) (hd : ([69].all fun j => (B.getD 70 0).testBit j && decide (j < 96)) = true) : StepAt Tryd.prog ops4 Q B (List.range 96) (GI (G4 w0.heap.size) w0 a0) 70 := by
  refine gstep (fun i v w w' => G4_grow _ i v w w') hB.sz 70 (by decide) rfl rfl rfl [69] hd ?_
  intro vs a W hdep hfree hR
  obtain ⟨e69, g69⟩ := hdep 69 (by decide)
  replace e69 : a.tmps[93]? = some (vs 69) := e69
  obtain ⟨A6, A7, A8, c6, c7, c8, hv, hL⟩ := (show MSG 23 (vs 69) W from g69)
  have e69' : a.tmps[93]? = some (.agg #[.int .u8 (rowM 23).k, .int .u64 (rowM 23).n, .int .i64 (rowM 23).r, .int .u64 (rowM 23).first, .int .u64 (rowM 23).last, .int .u64 (rowM 23).commit, .slice A6 (rowM 23).V.length c6, .slice A7 (rowM 23).B.length c7, .slice A8 (rowM 23).S.length c8]) := by rw [e69, hv]
  clear hdep hfree hR g69 hv e69
  refine ⟨_, W, ?_, ⟨A6, A7, A8, c6, c7, c8, rfl, hL⟩, Grow.refl _ _⟩
  go_simp
  (try first | rfl | (simp [rowM]; done))
set_option maxRecDepth 100000 in
set_option maxHeartbeats 1000000 in
theorem s4_71 (hB : Base4 w0 a0) (hd : ([].all fun j => (B.getD 71 0).testBit j && decide (j < 96)) = true) : StepAt Tryd.prog ops4 Q B (List.range 96) (GI (G4 w0.heap.size) w0 a0) 71 := by
  refine gstep (fun i v w w' => G4_grow _ i v w w') hB.sz 71 (by decide) rfl rfl rfl [] hd ?_
  intro vs a W hdep hfree hR
  obtain ⟨v, h3, hv⟩ := hB.t3
  have e3 : a.tmps[3]? = some v := (hfree 3 (free4 (by decide))).trans h3
  have hv' := hv.grow hR
  clear hdep hfree hR h3 hv
  refine ⟨v, W, ?_, hv', Grow.refl _ _⟩
  go_simp
set_option maxRecDepth 100000 in
set_option maxHeartbeats 1000000 in
theorem s4_72 (hB : Base4 w0 a0) (hd : ([71].all fun j => (B.getD 72 0).testBit j && decide (j < 96)) = true) : StepAt Tryd.prog ops4 Q B (List.range 96) (GI (G4 w0.heap.size) w0 a0) 72 := by
  refine gstep (fun i v w w' => G4_grow _ i v w w') hB.sz 72 (by decide) rfl rfl rfl [71] hd ?_
  intro vs a W hdep hfree hR
  obtain ⟨e71, g71⟩ := hdep 71 (by decide)
  replace e71 : a.tmps[95]? = some (vs 71) := e71
  obtain ⟨A7, c7, hv7, hl7, hC7⟩ := (show RW [[120]] (vs 71) W from g71)
  rw [hv7] at e71
  clear hdep hfree hR g71 hv7
  refine ⟨_, W, ?_, ⟨none, A7, none, 0, c7, 0, rfl, ⟨⟨C_none _ _, hC7, C_none _ _⟩, Nat.le_refl _, hl7, Nat.le_refl _⟩⟩, Grow.refl _ _⟩
  go_simp
  (try first | rfl | (simp [rowM]; done))
set_option maxRecDepth 100000 in
set_option maxHeartbeats 1000000 in
theorem s4_73 (hB : Base4 w0 a0) (hd : ([72].all fun j => (B.getD 73 0).testBit j && decide (j < 96)) = true) : StepAt Tryd.prog ops4 Q B (List.range 96) (GI (G4 w0.heap.size) w0 a0) 73 := by
  refine gstep (fun i v w w' => G4_grow _ i v w w') hB.sz 73 (by decide) rfl rfl rfl [72] hd ?_
  intro vs a W hdep hfree hR
  obtain ⟨e72, g72⟩ := hdep 72 (by decide)
  replace e72 : a.tmps[96]? = some (vs 72) := e72
  obtain ⟨A6, A7, A8, c6, c7, c8, hv, hL⟩ := (show MSG 24 (vs 72) W from g72)
  have e72' : a.tmps[96]? = some (.agg #[.int .u8 (rowM 24).k, .int .u64 (rowM 24).n, .int .i64 (rowM 24).r, .int .u64 (rowM 24).first, .int .u64 (rowM 24).last, .int .u64 (rowM 24).commit, .slice A6 (rowM 24).V.length c6, .slice A7 (rowM 24).B.length c7, .slice A8 (rowM 24).S.length c8]) := by rw [e72, hv]
  clear hdep hfree hR g72 hv e72
  refine ⟨_, W, ?_, ⟨A6, A7, A8, c6, c7, c8, rfl, hL⟩, Grow.refl _ _⟩
  go_simp
  (try first | rfl | (simp [rowM]; done))
set_option maxRecDepth 100000 in
set_option maxHeartbeats 1000000 in
theorem s4_74 (hB : Base4 w0 a0) (hd : ([].all fun j => (B.getD 74 0).testBit j && decide (j < 96)) = true) : StepAt Tryd.prog ops4 Q B (List.range 96) (GI (G4 w0.heap.size) w0 a0) 74 := by
  refine gstep (fun i v w w' => G4_grow _ i v w w') hB.sz 74 (by decide) rfl rfl rfl [] hd ?_
  intro vs a W hdep hfree hR
  have hs := hR.size
  have hmk := mk25 W
  clear hdep hfree hR
  refine ⟨.slice (some ⟨W.heap.size, 0, none⟩) 1 1, W.alloc (.cells #[.int .u64 0, .int .u64 0, .int .i64 0, .slice none 0 0] 52), ?_, ⟨some ⟨W.heap.size, 0, none⟩, 1, rfl, Nat.le_refl _, C_vote1 (heap_alloc_new W _) (Nat.le_refl _) (C_none _ _)⟩, Grow.alloc hs _⟩
  go_simp
set_option maxRecDepth 100000 in
set_option maxHeartbeats 1000000 in
theorem s4_75 (hB : Base4 w0 a0) (hd : ([74].all fun j => (B.getD 75 0).testBit j && decide (j < 96)) = true) : StepAt Tryd.prog ops4 Q B (List.range 96) (GI (G4 w0.heap.size) w0 a0) 75 := by
  refine gstep (fun i v w w' => G4_grow _ i v w w') hB.sz 75 (by decide) rfl rfl rfl [74] hd ?_
  intro vs a W hdep hfree hR
  obtain ⟨e74, g74⟩ := hdep 74 (by decide)
  replace e74 : a.tmps[98]? = some (vs 74) := e74
  obtain ⟨A6, c6, hv6, hl6, hC6⟩ := (show VW [⟨0, ⟨0, 0⟩, []⟩] (vs 74) W from g74)
  rw [hv6] at e74
  clear hdep hfree hR g74 hv6
  refine ⟨_, W, ?_, ⟨A6, none, none, c6, 0, 0, rfl, ⟨⟨hC6, C_none _ _, C_none _ _⟩, hl6, Nat.le_refl _, Nat.le_refl _⟩⟩, Grow.refl _ _⟩
  go_simp
  (try first | rfl | (simp [rowM]; done))
set_option maxRecDepth 100000 in
set_option maxHeartbeats 1000000 in
theorem s4_76 (hB : Base4 w0 a0) (hd : ([75].all fun j => (B.getD 76 0).testBit j && decide (j < 96)) = true) : StepAt Tryd.prog ops4 Q B (List.range 96) (GI (G4 w0.heap.size) w0 a0) 76 := by
  refine gstep (fun i v w w' => G4_grow _ i v w w') hB.sz 76 (by decide) rfl rfl rfl [75] hd ?_
  intro vs a W hdep hfree hR
  obtain ⟨e75, g75⟩ := hdep 75 (by decide)
  replace e75 : a.tmps[99]? = some (vs 75) := e75
  obtain ⟨A6, A7, A8, c6, c7, c8, hv, hL⟩ := (show MSG 25 (vs 75) W from g75)
  have e75' : a.tmps[99]? = some (.agg #[.int .u8 (rowM 25).k, .int .u64 (rowM 25).n, .int .i64 (rowM 25).r, .int .u64 (rowM 25).first, .int .u64 (rowM 25).last, .int .u64 (rowM 25).commit, .slice A6 (rowM 25).V.length c6, .slice A7 (rowM 25).B.length c7, .slice A8 (rowM 25).S.length c8]) := by rw [e75, hv]
  clear hdep hfree hR g75 hv e75
  refine ⟨_, W, ?_, ⟨A6, A7, A8, c6, c7, c8, rfl, hL⟩, Grow.refl _ _⟩
  go_simp
  (try first | rfl | (simp [rowM]; done))
set_option maxRecDepth 100000 in
set_option maxHeartbeats 1000000 in
theorem s4_77 (hB : Base4 w0 a0) (hd : ([].all fun j => (B.getD 77 0).testBit j && decide (j < 96)) = true) : StepAt Tryd.prog ops4 Q B (List.range 96) (GI (G4 w0.heap.size) w0 a0) 77 := by
  refine gstep (fun i v w w' => G4_grow _ i v w w') hB.sz 77 (by decide) rfl rfl rfl [] hd ?_
  intro vs a W hdep hfree hR
  clear hdep hfree hR 
  refine ⟨_, W, ?_, ⟨none, 0, rfl, Nat.le_refl _, C_none _ _⟩, Grow.refl _ _⟩
  go_simp
  (try first | rfl | (simp [rowM]; done))
set_option maxRecDepth 100000 in
set_option maxHeartbeats 1000000 in
theorem s4_78 (hB : Base4 w0 a0) (hd : ([77].all fun j => (B.getD 78 0).testBit j && decide (j < 96)) = true) : StepAt Tryd.prog ops4 Q B (List.range 96) (GI (G4 w0.heap.size) w0 a0) 78 := by
  refine gstep (fun i v w w' => G4_grow _ i v w w') hB.sz 78 (by decide) rfl rfl rfl [77] hd ?_
  intro vs a W hdep hfree hR
  obtain ⟨e77, g77⟩ := hdep 77 (by decide)
  replace e77 : a.tmps[101]? = some (vs 77) := e77
  obtain ⟨A0, c0, hv0, hl0, hC0⟩ := (show VOTE ⟨6, ⟨0, 0⟩, []⟩ (vs 77) W from g77)
  rw [hv0] at e77
  have hs := hR.size
  clear hdep hfree hR g77 hv0
  refine ⟨.slice (some ⟨W.heap.size, 0, none⟩) 1 1, W.alloc (.cells #[.int .u64 6, .int .u64 0, .int .i64 0, .slice A0 0 c0] 52), ?_, ⟨some ⟨W.heap.size, 0, none⟩, 1, rfl, Nat.le_refl _, C_vote1 (blk_new W (.cells #[.int .u64 6, .int .u64 0, .int .i64 0, .slice A0 0 c0] 52)) hl0 (C_grow hC0 (Grow.alloc hs _))⟩, Grow.alloc hs _⟩
  go_simp
  (try first | rfl | (simp; done))
set_option maxRecDepth 100000 in
set_option maxHeartbeats 1000000 in
theorem s4_79 (hB : Base4 w0 a0) (hd : ([78].all fun j => (B.getD 79 0).testBit j && decide (j < 96)) = true) : StepAt Tryd.prog ops4 Q B (List.range 96) (GI (G4 w0.heap.size) w0 a0) 79 := by
  refine gstep (fun i v w w' => G4_grow _ i v w w') hB.sz 79 (by decide) rfl rfl rfl [78] hd ?_
  intro vs a W hdep hfree hR
  obtain ⟨e78, g78⟩ := hdep 78 (by decide)
  replace e78 : a.tmps[102]? = some (vs 78) := e78
  obtain ⟨A6, c6, hv6, hl6, hC6⟩ := (show VW [⟨6, ⟨0, 0⟩, []⟩] (vs 78) W from g78)
  rw [hv6] at e78
  clear hdep hfree hR g78 hv6
  refine ⟨_, W, ?_, ⟨A6, none, none, c6, 0, 0, rfl, ⟨⟨hC6, C_none _ _, C_none _ _⟩, hl6, Nat.le_refl _, Nat.le_refl _⟩⟩, Grow.refl _ _⟩
  go_simp
  (try first | rfl | (simp [rowM]; done))
set_option maxRecDepth 100000 in
set_option maxHeartbeats 1000000 in
theorem s4_80 (hB : Base4 w0 a0) (hd : ([79].all fun j => (B.getD 80 0).testBit j && decide (j < 96)) = true) : StepAt Tryd.prog ops4 Q B (List.range 96) (GI (G4 w0.heap.size) w0 a0) 80 := by
  refine gstep (fun i v w w' => G4_grow _ i v w w') hB.sz 80 (by decide) rfl rfl rfl [79] hd ?_
  intro vs a W hdep hfree hR
  obtain ⟨e79, g79⟩ := hdep 79 (by decide)
  replace e79 : a.tmps[103]? = some (vs 79) := e79
  obtain ⟨A6, A7, A8, c6, c7, c8, hv, hL⟩ := (show MSG 26 (vs 79) W from g79)
  have e79' : a.tmps[103]? = some (.agg #[.int .u8 (rowM 26).k, .int .u64 (rowM 26).n, .int .i64 (rowM 26).r, .int .u64 (rowM 26).first, .int .u64 (rowM 26).last, .int .u64 (rowM 26).commit, .slice A6 (rowM 26).V.length c6, .slice A7 (rowM 26).B.length c7, .slice A8 (rowM 26).S.length c8]) := by rw [e79, hv]
  clear hdep hfree hR g79 hv e79
  refine ⟨_, W, ?_, ⟨A6, A7, A8, c6, c7, c8, rfl, hL⟩, Grow.refl _ _⟩
  go_simp
  (try first | rfl | (simp [rowM]; done))
set_option maxRecDepth 100000 in
set_option maxHeartbeats 1000000 in
theorem s4_81 (hB : Base4 w0 a0) (hd : ([].all fun j => (B.getD 81 0).testBit j && decide (j < 96)) = true) : StepAt Tryd.prog ops4 Q B (List.range 96) (GI (G4 w0.heap.size) w0 a0) 81 := by
  refine gstep (fun i v w w' => G4_grow _ i v w w') hB.sz 81 (by decide) rfl rfl rfl [] hd ?_
  intro vs a W hdep hfree hR
  clear hdep hfree hR 
  refine ⟨_, W, ?_, ⟨none, 0, rfl, Nat.le_refl _, C_none _ _⟩, Grow.refl _ _⟩
  go_simp
  (try first | rfl | (simp [rowM]; done))
set_option maxRecDepth 100000 in
set_option maxHeartbeats 1000000 in
theorem s4_82 (hB : Base4 w0 a0) (hd : ([].all fun j => (B.getD 82 0).testBit j && decide (j < 96)) = true) : StepAt Tryd.prog ops4 Q B (List.range 96) (GI (G4 w0.heap.size) w0 a0) 82 := by
  refine gstep (fun i v w w' => G4_grow _ i v w w') hB.sz 82 (by decide) rfl rfl rfl [] hd ?_
  intro vs a W hdep hfree hR
  clear hdep hfree hR 
  refine ⟨_, W, ?_, ⟨none, 0, rfl, Nat.le_refl _, C_none _ _⟩, Grow.refl _ _⟩
  go_simp
  (try first | rfl | (simp [rowM]; done))
set_option maxRecDepth 100000 in
set_option maxHeartbeats 1000000 in
theorem s4_83 (hB : Base4 w0 a0) (hd : ([81, 82].all fun j => (B.getD 83 0).testBit j && decide (j < 96)) = true) : StepAt Tryd.prog ops4 Q B (List.range 96) (GI (G4 w0.heap.size) w0 a0) 83 := by
  refine gstep (fun i v w w' => G4_grow _ i v w w') hB.sz 83 (by decide) rfl rfl rfl [81, 82] hd ?_
  intro vs a W hdep hfree hR
  obtain ⟨e81, g81⟩ := hdep 81 (by decide)
  replace e81 : a.tmps[105]? = some (vs 81) := e81
  obtain ⟨e82, g82⟩ := hdep 82 (by decide)
  replace e82 : a.tmps[106]? = some (vs 82) := e82
  obtain ⟨A0, c0, hv0, hl0, hC0⟩ := (show VOTE ⟨6, ⟨0, 0⟩, []⟩ (vs 81) W from g81)
  rw [hv0] at e81
  obtain ⟨A1, c1, hv1, hl1, hC1⟩ := (show VOTE ⟨6, ⟨0, 0⟩, []⟩ (vs 82) W from g82)
  rw [hv1] at e82
  have hs := hR.size
  clear hdep hfree hR g81 g82 hv0 hv1
  refine ⟨.slice (some ⟨W.heap.size, 0, none⟩) 2 2, W.alloc (.cells #[.int .u64 6, .int .u64 0, .int .i64 0, .slice A0 0 c0, .int .u64 6, .int .u64 0, .int .i64 0, .slice A1 0 c1] 52), ?_, ⟨some ⟨W.heap.size, 0, none⟩, 2, rfl, Nat.le_refl _, C_vote2 (blk_new W (.cells #[.int .u64 6, .int .u64 0, .int .i64 0, .slice A0 0 c0, .int .u64 6, .int .u64 0, .int .i64 0, .slice A1 0 c1] 52)) hl0 (C_grow hC0 (Grow.alloc hs _)) hl1 (C_grow hC1 (Grow.alloc hs _))⟩, Grow.alloc hs _⟩
  go_simp
  (try first | rfl | (simp; done))
set_option maxRecDepth 100000 in
set_option maxHeartbeats 1000000 in
theorem s4_84 (hB : Base4 w0 a0) (hd : ([83].all fun j => (B.getD 84 0).testBit j && decide (j < 96)) = true) : StepAt Tryd.prog ops4 Q B (List.range 96) (GI (G4 w0.heap.size) w0 a0) 84 := by
  refine gstep (fun i v w w' => G4_grow _ i v w w') hB.sz 84 (by decide) rfl rfl rfl [83] hd ?_
  intro vs a W hdep hfree hR
  obtain ⟨e83, g83⟩ := hdep 83 (by decide)
  replace e83 : a.tmps[107]? = some (vs 83) := e83
  obtain ⟨A6, c6, hv6, hl6, hC6⟩ := (show VW [⟨6, ⟨0, 0⟩, []⟩, ⟨6, ⟨0, 0⟩, []⟩] (vs 83) W from g83)
  rw [hv6] at e83
  clear hdep hfree hR g83 hv6
  refine ⟨_, W, ?_, ⟨A6, none, none, c6, 0, 0, rfl, ⟨⟨hC6, C_none _ _, C_none _ _⟩, hl6, Nat.le_refl _, Nat.le_refl _⟩⟩, Grow.refl _ _⟩
  go_simp
  (try first | rfl | (simp [rowM]; done))
set_option maxRecDepth 100000 in
set_option maxHeartbeats 1000000 in
theorem s4_85 (hB : Base4 w0 a0) (hd : ([84].all fun j => (B.getD 85 0).testBit j && decide (j < 96)) = true) : StepAt Tryd.prog ops4 Q B (List.range 96) (GI (G4 w0.heap.size) w0 a0) 85 := by
  refine gstep (fun i v w w' => G4_grow _ i v w w') hB.sz 85 (by decide) rfl rfl rfl [84] hd ?_
  intro vs a W hdep hfree hR
  obtain ⟨e84, g84⟩ := hdep 84 (by decide)
  replace e84 : a.tmps[108]? = some (vs 84) := e84
  obtain ⟨A6, A7, A8, c6, c7, c8, hv, hL⟩ := (show MSG 27 (vs 84) W from g84)
  have e84' : a.tmps[108]? = some (.agg #[.int .u8 (rowM 27).k, .int .u64 (rowM 27).n, .int .i64 (rowM 27).r, .int .u64 (rowM 27).first, .int .u64 (rowM 27).last, .int .u64 (rowM 27).commit, .slice A6 (rowM 27).V.length c6, .slice A7 (rowM 27).B.length c7, .slice A8 (rowM 27).S.length c8]) := by rw [e84, hv]
  clear hdep hfree hR g84 hv e84
  refine ⟨_, W, ?_, ⟨A6, A7, A8, c6, c7, c8, rfl, hL⟩, Grow.refl _ _⟩
  go_simp
  (try first | rfl | (simp [rowM]; done))
set_option maxRecDepth 100000 in
set_option maxHeartbeats 1000000 in
theorem s4_86 (hB : Base4 w0 a0) (hd : ([].all fun j => (B.getD 86 0).testBit j && decide (j < 96)) = true) : StepAt Tryd.prog ops4 Q B (List.range 96) (GI (G4 w0.heap.size) w0 a0) 86 := by
  refine gstep (fun i v w w' => G4_grow _ i v w w') hB.sz 86 (by decide) rfl rfl rfl [] hd ?_
  intro vs a W hdep hfree hR
  clear hdep hfree hR
  refine ⟨.agg #[.int .u64 0, .int .i64 7], W, ?_, rfl, Grow.refl _ _⟩
  go_simp
set_option maxRecDepth 100000 in
set_option maxHeartbeats 1000000 in
theorem s4_87 (hB : Base4 w0 a0) (hd : ([86].all fun j => (B.getD 87 0).testBit j && decide (j < 96)) = true) : StepAt Tryd.prog ops4 Q B (List.range 96) (GI (G4 w0.heap.size) w0 a0) 87 := by
  refine gstep (fun i v w w' => G4_grow _ i v w w') hB.sz 87 (by decide) rfl rfl rfl [86] hd ?_
  intro vs a W hdep hfree hR
  obtain ⟨e86, g86⟩ := hdep 86 (by decide)
  replace e86 : a.tmps[110]? = some (vs 86) := e86
  rw [show vs 86 = .agg #[.int .u64 0, .int .i64 7] from g86] at e86
  clear hdep hfree hR g86
  refine ⟨_, W, ?_, ⟨none, 0, rfl, Nat.le_refl _, C_none _ _⟩, Grow.refl _ _⟩
  go_simp
  (try first | rfl | (simp [rowM]; done))
set_option maxRecDepth 100000 in
set_option maxHeartbeats 1000000 in
theorem s4_88 (hB : Base4 w0 a0) (hd : ([87].all fun j => (B.getD 88 0).testBit j && decide (j < 96)) = true) : StepAt Tryd.prog ops4 Q B (List.range 96) (GI (G4 w0.heap.size) w0 a0) 88 := by
  refine gstep (fun i v w w' => G4_grow _ i v w w') hB.sz 88 (by decide) rfl rfl rfl [87] hd ?_
  intro vs a W hdep hfree hR
  obtain ⟨e87, g87⟩ := hdep 87 (by decide)
  replace e87 : a.tmps[111]? = some (vs 87) := e87
  obtain ⟨A0, c0, hv0, hl0, hC0⟩ := (show VOTE ⟨6, ⟨0, 7⟩, []⟩ (vs 87) W from g87)
  rw [hv0] at e87
  have hs := hR.size
  clear hdep hfree hR g87 hv0
  refine ⟨.slice (some ⟨W.heap.size, 0, none⟩) 1 1, W.alloc (.cells #[.int .u64 6, .int .u64 0, .int .i64 7, .slice A0 0 c0] 52), ?_, ⟨some ⟨W.heap.size, 0, none⟩, 1, rfl, Nat.le_refl _, C_vote1 (blk_new W (.cells #[.int .u64 6, .int .u64 0, .int .i64 7, .slice A0 0 c0] 52)) hl0 (C_grow hC0 (Grow.alloc hs _))⟩, Grow.alloc hs _⟩
  go_simp
  (try first | rfl | (simp; done))
set_option maxRecDepth 100000 in
set_option maxHeartbeats 1000000 in
theorem s4_89 (hB : Base4 w0 a0) (hd : ([88].all fun j => (B.getD 89 0).testBit j && decide (j < 96)) = true) : StepAt Tryd.prog ops4 Q B (List.range 96) (GI (G4 w0.heap.size) w0 a0) 89 := by
  refine gstep (fun i v w w' => G4_grow _ i v w w') hB.sz 89 (by decide) rfl rfl rfl [88] hd ?_
  intro vs a W hdep hfree hR
  obtain ⟨e88, g88⟩ := hdep 88 (by decide)
  replace e88 : a.tmps[112]? = some (vs 88) := e88
  obtain ⟨A6, c6, hv6, hl6, hC6⟩ := (show VW [⟨6, ⟨0, 7⟩, []⟩] (vs 88) W from g88)
  rw [hv6] at e88
  clear hdep hfree hR g88 hv6
  refine ⟨_, W, ?_, ⟨A6, none, none, c6, 0, 0, rfl, ⟨⟨hC6, C_none _ _, C_none _ _⟩, hl6, Nat.le_refl _, Nat.le_refl _⟩⟩, Grow.refl _ _⟩
  go_simp
  (try first | rfl | (simp [rowM]; done))
set_option maxRecDepth 100000 in
set_option maxHeartbeats 1000000 in
theorem s4_90 (hB : Base4 w0 a0) (hd : ([89].all fun j => (B.getD 90 0).testBit j && decide (j < 96)) = true) : StepAt Tryd.prog ops4 Q B (List.range 96) (GI (G4 w0.heap.size) w0 a0) 90 := by
  refine gstep (fun i v w w' => G4_grow _ i v w w') hB.sz 90 (by decide) rfl rfl rfl [89] hd ?_
  intro vs a W hdep hfree hR
  obtain ⟨e89, g89⟩ := hdep 89 (by decide)
  replace e89 : a.tmps[113]? = some (vs 89) := e89
  obtain ⟨A6, A7, A8, c6, c7, c8, hv, hL⟩ := (show MSG 28 (vs 89) W from g89)
  have e89' : a.tmps[113]? = some (.agg #[.int .u8 (rowM 28).k, .int .u64 (rowM 28).n, .int .i64 (rowM 28).r, .int .u64 (rowM 28).first, .int .u64 (rowM 28).last, .int .u64 (rowM 28).commit, .slice A6 (rowM 28).V.length c6, .slice A7 (rowM 28).B.length c7, .slice A8 (rowM 28).S.length c8]) := by rw [e89, hv]
  clear hdep hfree hR g89 hv e89
  refine ⟨_, W, ?_, ⟨A6, A7, A8, c6, c7, c8, rfl, hL⟩, Grow.refl _ _⟩
  go_simp
  (try first | rfl | (simp [rowM]; done))
set_option maxRecDepth 100000 in
set_option maxHeartbeats 1000000 in
theorem s4_91 (hB : Base4 w0 a0) (hd : ([].all fun j => (B.getD 91 0).testBit j && decide (j < 96)) = true) : StepAt Tryd.prog ops4 Q B (List.range 96) (GI (G4 w0.heap.size) w0 a0) 91 := by
  refine gstep (fun i v w w' => G4_grow _ i v w w') hB.sz 91 (by decide) rfl rfl rfl [] hd ?_
  intro vs a W hdep hfree hR
  have hs := hR.size
  have hmk := mk26 W
  clear hdep hfree hR
  refine ⟨.slice (some ⟨W.heap.size, 0, none⟩) 17 17, W.alloc (.cells (Array.replicate 17 (.slice none 0 0)) 27), ?_, ⟨some ⟨W.heap.size, 0, none⟩, 17, rfl, Nat.le_refl _, C_nils 17 (heap_alloc_new W _) (by decide)⟩, Grow.alloc hs _⟩
  go_simp
set_option maxRecDepth 100000 in
set_option maxHeartbeats 1000000 in
theorem s4_92 (hB : Base4 w0 a0) (hd : ([91].all fun j => (B.getD 92 0).testBit j && decide (j < 96)) = true) : StepAt Tryd.prog ops4 Q B (List.range 96) (GI (G4 w0.heap.size) w0 a0) 92 := by
  refine gstep (fun i v w w' => G4_grow _ i v w w') hB.sz 92 (by decide) rfl rfl rfl [91] hd ?_
  intro vs a W hdep hfree hR
  obtain ⟨e91, g91⟩ := hdep 91 (by decide)
  replace e91 : a.tmps[115]? = some (vs 91) := e91
  obtain ⟨A7, c7, hv7, hl7, hC7⟩ := (show RW (List.replicate 17 []) (vs 91) W from g91)
  rw [hv7] at e91
  clear hdep hfree hR g91 hv7
  refine ⟨_, W, ?_, ⟨none, A7, none, 0, c7, 0, rfl, ⟨⟨C_none _ _, hC7, C_none _ _⟩, Nat.le_refl _, hl7, Nat.le_refl _⟩⟩, Grow.refl _ _⟩
  go_simp
  (try first | rfl | (simp [rowM]; done))
set_option maxRecDepth 100000 in
set_option maxHeartbeats 1000000 in
theorem s4_93 (hB : Base4 w0 a0) (hd : ([92].all fun j => (B.getD 93 0).testBit j && decide (j < 96)) = true) : StepAt Tryd.prog ops4 Q B (List.range 96) (GI (G4 w0.heap.size) w0 a0) 93 := by
  refine gstep (fun i v w w' => G4_grow _ i v w w') hB.sz 93 (by decide) rfl rfl rfl [92] hd ?_
  intro vs a W hdep hfree hR
  obtain ⟨e92, g92⟩ := hdep 92 (by decide)
  replace e92 : a.tmps[116]? = some (vs 92) := e92
  obtain ⟨A6, A7, A8, c6, c7, c8, hv, hL⟩ := (show MSG 29 (vs 92) W from g92)
  have e92' : a.tmps[116]? = some (.agg #[.int .u8 (rowM 29).k, .int .u64 (rowM 29).n, .int .i64 (rowM 29).r, .int .u64 (rowM 29).first, .int .u64 (rowM 29).last, .int .u64 (rowM 29).commit, .slice A6 (rowM 29).V.length c6, .slice A7 (rowM 29).B.length c7, .slice A8 (rowM 29).S.length c8]) := by rw [e92, hv]
  clear hdep hfree hR g92 hv e92
  refine ⟨_, W, ?_, ⟨A6, A7, A8, c6, c7, c8, rfl, hL⟩, Grow.refl _ _⟩
  go_simp
  (try first | rfl | (simp [rowM]; done))
set_option maxRecDepth 100000 in
set_option maxHeartbeats 1000000 in
theorem s4_94 (hB : Base4 w0 a0) (hd : ([2, 5, 8, 11, 14, 16, 19, 23, 31, 35, 37, 39, 41, 44, 47, 49, 52, 54, 56, 58, 60, 64, 66, 70, 73, 76, 80, 85, 90, 93].all fun j => (B.getD 94 0).testBit j && decide (j < 96)) = true) : StepAt Tryd.prog ops4 Q B (List.range 96) (GI (G4 w0.heap.size) w0 a0) 94 := by
  refine gstep (fun i v w w' => G4_grow _ i v w w') hB.sz 94 (by decide) rfl rfl rfl [2, 5, 8, 11, 14, 16, 19, 23, 31, 35, 37, 39, 41, 44, 47, 49, 52, 54, 56, 58, 60, 64, 66, 70, 73, 76, 80, 85, 90, 93] hd ?_
  intro vs a W hdep hfree hR
  obtain ⟨e2, g2⟩ := hdep 2 (by decide)
  replace e2 : a.tmps[26]? = some (vs 2) := e2
  obtain ⟨e5, g5⟩ := hdep 5 (by decide)
  replace e5 : a.tmps[29]? = some (vs 5) := e5
  obtain ⟨e8, g8⟩ := hdep 8 (by decide)
  replace e8 : a.tmps[32]? = some (vs 8) := e8
  obtain ⟨e11, g11⟩ := hdep 11 (by decide)
  replace e11 : a.tmps[35]? = some (vs 11) := e11
  obtain ⟨e14, g14⟩ := hdep 14 (by decide)
  replace e14 : a.tmps[38]? = some (vs 14) := e14
  obtain ⟨e16, g16⟩ := hdep 16 (by decide)
  replace e16 : a.tmps[40]? = some (vs 16) := e16
  obtain ⟨e19, g19⟩ := hdep 19 (by decide)
  replace e19 : a.tmps[43]? = some (vs 19) := e19
  obtain ⟨e23, g23⟩ := hdep 23 (by decide)
  replace e23 : a.tmps[47]? = some (vs 23) := e23
  obtain ⟨e31, g31⟩ := hdep 31 (by decide)
  replace e31 : a.tmps[55]? = some (vs 31) := e31
  obtain ⟨e35, g35⟩ := hdep 35 (by decide)
  replace e35 : a.tmps[59]? = some (vs 35) := e35
  obtain ⟨e37, g37⟩ := hdep 37 (by decide)
  replace e37 : a.tmps[61]? = some (vs 37) := e37
  obtain ⟨e39, g39⟩ := hdep 39 (by decide)
  replace e39 : a.tmps[63]? = some (vs 39) := e39
  obtain ⟨e41, g41⟩ := hdep 41 (by decide)
  replace e41 : a.tmps[65]? = some (vs 41) := e41
  obtain ⟨e44, g44⟩ := hdep 44 (by decide)
  replace e44 : a.tmps[68]? = some (vs 44) := e44
  obtain ⟨e47, g47⟩ := hdep 47 (by decide)
  replace e47 : a.tmps[71]? = some (vs 47) := e47
  obtain ⟨e49, g49⟩ := hdep 49 (by decide)
  replace e49 : a.tmps[73]? = some (vs 49) := e49
  obtain ⟨e52, g52⟩ := hdep 52 (by decide)
  replace e52 : a.tmps[76]? = some (vs 52) := e52
  obtain ⟨e54, g54⟩ := hdep 54 (by decide)
  replace e54 : a.tmps[78]? = some (vs 54) := e54
  obtain ⟨e56, g56⟩ := hdep 56 (by decide)
  replace e56 : a.tmps[80]? = some (vs 56) := e56
  obtain ⟨e58, g58⟩ := hdep 58 (by decide)
  replace e58 : a.tmps[82]? = some (vs 58) := e58
  obtain ⟨e60, g60⟩ := hdep 60 (by decide)
  replace e60 : a.tmps[84]? = some (vs 60) := e60
  obtain ⟨e64, g64⟩ := hdep 64 (by decide)
  replace e64 : a.tmps[88]? = some (vs 64) := e64
  obtain ⟨e66, g66⟩ := hdep 66 (by decide)
  replace e66 : a.tmps[90]? = some (vs 66) := e66
  obtain ⟨e70, g70⟩ := hdep 70 (by decide)
  replace e70 : a.tmps[94]? = some (vs 70) := e70
  obtain ⟨e73, g73⟩ := hdep 73 (by decide)
  replace e73 : a.tmps[97]? = some (vs 73) := e73
  obtain ⟨e76, g76⟩ := hdep 76 (by decide)
  replace e76 : a.tmps[100]? = some (vs 76) := e76
  obtain ⟨e80, g80⟩ := hdep 80 (by decide)
  replace e80 : a.tmps[104]? = some (vs 80) := e80
  obtain ⟨e85, g85⟩ := hdep 85 (by decide)
  replace e85 : a.tmps[109]? = some (vs 85) := e85
  obtain ⟨e90, g90⟩ := hdep 90 (by decide)
  replace e90 : a.tmps[114]? = some (vs 90) := e90
  obtain ⟨e93, g93⟩ := hdep 93 (by decide)
  replace e93 : a.tmps[117]? = some (vs 93) := e93
  have hs := hR.size
  have r0 : ROW 0 (vs 2) W := g2
  have r1 : ROW 1 (vs 5) W := g5
  have r2 : ROW 2 (vs 8) W := g8
  have r3 : ROW 3 (vs 11) W := g11
  have r4 : ROW 4 (vs 14) W := g14
  have r5 : ROW 5 (vs 16) W := g16
  have r6 : ROW 6 (vs 19) W := g19
  have r7 : ROW 7 (vs 23) W := g23
  have r8 : ROW 8 (vs 31) W := g31
  have r9 : ROW 9 (vs 35) W := g35
  have r10 : ROW 10 (vs 37) W := g37
  have r11 : ROW 11 (vs 39) W := g39
  have r12 : ROW 12 (vs 41) W := g41
  have r13 : ROW 13 (vs 44) W := g44
  have r14 : ROW 14 (vs 47) W := g47
  have r15 : ROW 15 (vs 49) W := g49
  have r16 : ROW 16 (vs 52) W := g52
  have r17 : ROW 17 (vs 54) W := g54
  have r18 : ROW 18 (vs 56) W := g56
  have r19 : ROW 19 (vs 58) W := g58
  have r20 : ROW 20 (vs 60) W := g60
  have r21 : ROW 21 (vs 64) W := g64
  have r22 : ROW 22 (vs 66) W := g66
  have r23 : ROW 23 (vs 70) W := g70
  have r24 : ROW 24 (vs 73) W := g73
  have r25 : ROW 25 (vs 76) W := g76
  have r26 : ROW 26 (vs 80) W := g80
  have r27 : ROW 27 (vs 85) W := g85
  have r28 : ROW 28 (vs 90) W := g90
  have r29 : ROW 29 (vs 93) W := g93
  have hall : ∀ r v, ([vs 2, vs 5, vs 8, vs 11, vs 14, vs 16, vs 19, vs 23, vs 31, vs 35, vs 37, vs 39, vs 41, vs 44, vs 47, vs 49, vs 52, vs 54, vs 56, vs 58, vs 60, vs 64, vs 66, vs 70, vs 73, vs 76, vs 80, vs 85, vs 90, vs 93])[r]? = some v → ROW r v W := by
    intro r v hrv
    match r, hrv with
    | 0, hrv => obtain rfl := Option.some.inj hrv; exact r0
    | 1, hrv => obtain rfl := Option.some.inj hrv; exact r1
    | 2, hrv => obtain rfl := Option.some.inj hrv; exact r2
    | 3, hrv => obtain rfl := Option.some.inj hrv; exact r3
    | 4, hrv => obtain rfl := Option.some.inj hrv; exact r4
    | 5, hrv => obtain rfl := Option.some.inj hrv; exact r5
    | 6, hrv => obtain rfl := Option.some.inj hrv; exact r6
    | 7, hrv => obtain rfl := Option.some.inj hrv; exact r7
    | 8, hrv => obtain rfl := Option.some.inj hrv; exact r8
    | 9, hrv => obtain rfl := Option.some.inj hrv; exact r9
    | 10, hrv => obtain rfl := Option.some.inj hrv; exact r10
    | 11, hrv => obtain rfl := Option.some.inj hrv; exact r11
    | 12, hrv => obtain rfl := Option.some.inj hrv; exact r12
    | 13, hrv => obtain rfl := Option.some.inj hrv; exact r13
    | 14, hrv => obtain rfl := Option.some.inj hrv; exact r14
    | 15, hrv => obtain rfl := Option.some.inj hrv; exact r15
    | 16, hrv => obtain rfl := Option.some.inj hrv; exact r16
    | 17, hrv => obtain rfl := Option.some.inj hrv; exact r17
    | 18, hrv => obtain rfl := Option.some.inj hrv; exact r18
    | 19, hrv => obtain rfl := Option.some.inj hrv; exact r19
    | 20, hrv => obtain rfl := Option.some.inj hrv; exact r20
    | 21, hrv => obtain rfl := Option.some.inj hrv; exact r21
    | 22, hrv => obtain rfl := Option.some.inj hrv; exact r22
    | 23, hrv => obtain rfl := Option.some.inj hrv; exact r23
    | 24, hrv => obtain rfl := Option.some.inj hrv; exact r24
    | 25, hrv => obtain rfl := Option.some.inj hrv; exact r25
    | 26, hrv => obtain rfl := Option.some.inj hrv; exact r26
    | 27, hrv => obtain rfl := Option.some.inj hrv; exact r27
    | 28, hrv => obtain rfl := Option.some.inj hrv; exact r28
    | 29, hrv => obtain rfl := Option.some.inj hrv; exact r29
    | n + 30, hrv => cases hrv
  obtain ⟨cells, hrun, hL⟩ := lit_run [vs 2, vs 5, vs 8, vs 11, vs 14, vs 16, vs 19, vs 23, vs 31, vs 35, vs 37, vs 39, vs 41, vs 44, vs 47, vs 49, vs 52, vs 54, vs 56, vs 58, vs 60, vs 64, vs 66, vs 70, vs 73, vs 76, vs 80, vs 85, vs 90, vs 93] W rfl hall #[(0, vs 2), (1, vs 5), (2, vs 8), (3, vs 11), (4, vs 14), (5, vs 16), (6, vs 19), (7, vs 23), (8, vs 31), (9, vs 35), (10, vs 37), (11, vs 39), (12, vs 41), (13, vs 44), (14, vs 47), (15, vs 49), (16, vs 52), (17, vs 54), (18, vs 56), (19, vs 58), (20, vs 60), (21, vs 64), (22, vs 66), (23, vs 70), (24, vs 73), (25, vs 76), (26, vs 80), (27, vs 85), (28, vs 90), (29, vs 93)] rfl
  clear hdep hfree hR hall g2 g5 g8 g11 g14 g16 g19 g23 g31 g35 g37 g39 g41 g44 g47 g49 g52 g54 g56 g58 g60 g64 g66 g70 g73 g76 g80 g85 g90 g93 r0 r1 r2 r3 r4 r5 r6 r7 r8 r9 r10 r11 r12 r13 r14 r15 r16 r17 r18 r19 r20 r21 r22 r23 r24 r25 r26 r27 r28 r29
  refine ⟨.slice (some ⟨W.heap.size, 0, none⟩) 30 30, W.alloc (.cells cells 50), ?_, ⟨W.heap.size, hs, rfl, hL⟩, Grow.alloc hs _⟩
  exact lit_op rfl _ (by simp only [List.map_toArray, List.map_cons, List.map_nil, Act.eval, Array.getD_eq_getD_getElem?, Option.getD_some, e2, e5, e8, e11, e14, e16, e19, e23, e31, e35, e37, e39, e41, e44, e47, e49, e52, e54, e56, e58, e60, e64, e66, e70, e73, e76, e80, e85, e90, e93]) hrun
set_option maxRecDepth 100000 in
set_option maxHeartbeats 1000000 in
theorem s4_95 (hB : Base4 w0 a0) (hd : ([94].all fun j => (B.getD 95 0).testBit j && decide (j < 96)) = true) : StepAt Tryd.prog ops4 Q B (List.range 96) (GI (G4 w0.heap.size) w0 a0) 95 := by
  refine gstep (fun i v w w' => G4_grow _ i v w w') hB.sz 95 (by decide) rfl rfl rfl [94] hd ?_
  intro vs a W hdep hfree hR
  obtain ⟨e94, g94⟩ := hdep 94 (by decide)
  replace e94 : a.tmps[118]? = some (vs 94) := e94
  obtain ⟨g, hb, hv, hL⟩ := (show LIT w0.heap.size (vs 94) W from g94)
  rw [hv] at e94
  clear hdep hfree hR g94 hv
  refine ⟨.slice (some ⟨g, 0, none⟩) 30 30, W, ?_, ⟨g, hb, rfl, hL⟩, Grow.refl _ _⟩
  go_simp
end
end Go.Proofs.YtfkfboigkpofkaaDoor.M
end
