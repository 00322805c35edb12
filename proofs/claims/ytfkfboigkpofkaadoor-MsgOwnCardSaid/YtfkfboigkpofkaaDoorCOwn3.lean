/- Parts of a proof, pruned and joined by flat.py out of: MC. -/
import Derived.Test.YtfkfboigkpofkaaDoorCOwn2
import Derived.RangeFuncNested
import Derived.RangeFuncBound
import Derived.RangeFuncCalls
import Derived.RangeFuncLeaves
import Derived.Shelf.Abstract
import Derived.OwnWalkIn
import Derived.TacticsInMore
import Derived.LoopNIn
import Derived.LoopIn
import Derived.Maps.AppendAt
section
namespace Go.Proofs.YtfkfboigkpofkaaDoor.M
open Go.RowKit Go.Proofs.YtfkfboigkpofkaaDoorW.PrintWords Go.Proofs.YtfkfboigkpofkaaDoorW.PrintLast Go.Proofs.YtfkfboigkpofkaaDoorW.PrintMore Go.Proofs.YtfkfboigkpofkaaDoor.PMsgPuts
attribute [local go_sem] Oper.semAt_some
structure St (w : World) (base g0 g1 l D : Nat) (rec : Loop) (v0 : Value) (xs : List Int) (m : Int) (W : World) : Prop where
  hv : ∃ v, W.heap[g0]? = some (.cells #[v] 27 (0, 0)) ∧ W.ownsRow base 5 1 v xs.length (nums .u8 xs) ∧ (v.ownBlock = v0.ownBlock ∨ ∃ b, v.ownBlock = some b ∧ w.heap.size ≤ b)
  hn : W.heap[g1]? = some (.cells #[.int .u64 m] 22 (0, 0))
  hl : W.heap[l]? = some (.loop rec)
  hD : W.heap[D]? = some (.deferred (some []))
  hg : w.grownBy W v0.ownBlock
  h0 : w.heap.size ≤ g0 ∧ w.heap.size ≤ g1 ∧ w.heap.size ≤ l ∧ w.heap.size ≤ D ∧ g0 ≠ g1 ∧ l ≠ D
def U64 (n : Nat) : Prop := n < 18446744073709551616
theorem U64.div {n : Nat} (h : U64 n) (k : Nat) : U64 (n / k) := Nat.lt_of_le_of_lt (Nat.div_le_self _ _) h
theorem group_u {q : Nat} (hq : U64 q) : bits .or .u8 (bits .and .u64 q 127 % 256) 128 = ((q % 128 + 128 : Nat) : Int) := by
  have h1 : bits .and .u64 (q : Int) 127 = ((q % 128 : Nat) : Int) := by
    rw [show (127 : Int) = ((127 : Nat) : Int) from rfl, u64_and_nat q 127 hq (by omega), nat_mask7]
  have h2 : ((q % 128 : Nat) : Int) % 256 = ((q % 128 : Nat) : Int) := by omega
  rw [h1, h2, show (128 : Int) = ((128 : Nat) : Int) from rfl, u8_or_nat (q % 128) 128 (by omega) (by omega), Nat.or_comm, nat_join 7 128 (q % 128) (by decide) (by omega), Nat.add_comm]
theorem grown_set {a w : World} {row : Option Nat} (h : a.grownBy w row) {p : Addr} (hp : a.heap.size ≤ p.block) (u : Value) : a.grownBy (w.setCell p u) row :=
  ⟨h.os, h.tape, h.output, by simpa [World.setCell] using h.size, fun i hi hne => (Below.heap_setCell w p u i (by omega)).trans (h.block i hi hne)⟩
theorem grown_put {a w : World} {row : Option Nat} (h : a.grownBy w row) {r : Nat} (hp : a.heap.size ≤ r) (o : Obj) : a.grownBy (w.putObj r o) row :=
  ⟨h.os, h.tape, h.output, by simpa using h.size, fun i hi hne => (World.putObj_heap_other (by omega)).trans (h.block i hi hne)⟩
theorem obj_ne {w : World} {g g' : Nat} {o o' : Obj} (h : w.heap[g]? = some o) (h' : w.heap[g']? = some o') (hne : o ≠ o') : g ≠ g' := by
  rintro rfl
  rw [h] at h'
  exact hne (Option.some.inj h')
theorem St.setN {w : World} {base g0 g1 l D : Nat} {rec : Loop} {v0 : Value} {xs : List Int} {m : Int} {W : World} (h : St w base g0 g1 l D rec v0 xs m W) (q : Int) :
    St w base g0 g1 l D rec v0 xs q (W.setCell ⟨g1, 0, none⟩ (.int .u64 q)) := by
  obtain ⟨⟨v, h1, h2, h3⟩, hn, hl, hD, hg, h0⟩ := h
  exact ⟨⟨v, blk_far h1 (p := ⟨g1, 0, none⟩) h0.2.2.2.2.1 _, own_setCell h2 (own_ne h2 hn (by decide)) _, h3⟩, by simpa using blk_set hn 0 (.int .u64 q),
    (Below.heap_setCell _ _ _ _ (obj_ne hl hn (by simp))).trans hl, (Below.heap_setCell _ _ _ _ (obj_ne hD hn (by simp))).trans hD, grown_set hg (p := ⟨g1, 0, none⟩) h0.2.1 _, h0⟩
set_option maxHeartbeats 400000 in
theorem groups_calls (n : Int) (w : World) :
    Calls Tryd.prog 53 #[.int .u64 n] w fun e w' => e = .returned (.func (.func 66) #[] #[.pointer (some ⟨w.heap.size, 0, none⟩)]) ∧ w.alloc (.cells #[.int .u64 n] 22) = w' := by
  go_enter Tryd.func53, Tryd.ntmps53
  go_wp2
  go_ret
  exact ⟨rfl, rfl⟩
def uv (n : Nat) : List Int := if n < 128 then [(n : Int)] else ((n % 128 + 128 : Nat) : Int) :: uv (n / 128)
termination_by n
decreasing_by omega
def leftU (g1 : Nat) (W : World) : Nat := match W.cell? ⟨g1, 0, none⟩ with | some (.int _ n) => n.toNat | _ => 0
theorem leftU_eq {w : World} {base g0 g1 l D : Nat} {rec : Loop} {v0 : Value} {xs : List Int} {m : Nat} {W : World} (h : St w base g0 g1 l D rec v0 xs m W) : leftU g1 W = m := by
  unfold leftU
  rw [blk_cell h.hn 0]
  rfl
set_option maxHeartbeats 1000000 in
set_option maxRecDepth 100000 in
theorem groups1_in (w : World) (base g0 g1 l D : Nat) (rec : Loop) (v0 : Value)
    (hY : ∀ (xs : List Int) (m : Nat) (c : Int) (last : Bool) (W : World), St w base g0 g1 l D rec v0 xs m W → xs.length < 140737488355328 →
      YieldAt Fence.wide 5 Tryd.prog l #[.int .u8 c, .bool last] W fun e W' => e = .returned (.bool true) ∧ St w base g0 g1 l D rec v0 (xs ++ [if last then c else bits .or .u8 c 128]) m W')
    (xs : List Int) (m : Nat) (W : World) (hS : St w base g0 g1 l D rec v0 xs m W) (hl : xs.length + (uv m).length < 140737488355328) (hm : U64 m) :
    CallsIn Fence.wide 6 Tryd.prog 66 #[.func (.yield l) #[] #[], .pointer (some ⟨g1, 0, none⟩)] W fun e W' => (∃ v, e = .returned v) ∧ ∃ m' : Nat, St w base g0 g1 l D rec v0 (xs ++ uv m) m' W' := by
  refine callsIn_of_wp Tryd.func66 rfl trivial ?_ rfl
  simp only [Tryd.ntmps66, List.size_toArray, List.length_cons, List.length_nil, Nat.reduceAdd, Nat.reduceSub, Array.replicate_succ, Array.replicate_zero, List.push_toArray, List.append_toArray, List.nil_append, List.cons_append]
  gi_wp2
  gi_loopw [3] (fun _ wr => ∃ (ys : List Int) (q : Nat), Aside0 (xs ++ uv m = ys ++ uv q) ∧ Aside0 (ys.length + (uv q).length < 140737488355328 ∧ U64 q) ∧ St w base g0 g1 l D rec v0 ys q wr) (fun _ wr => leftU g1 wr)
  case atStart => exact ⟨xs, m, ⟨rfl⟩, ⟨hl, hm⟩, hS⟩
  case round =>
    obtain ⟨ys, q, he, hle, hs⟩ := hrel
    have hc := blk_cell hs.hn 0
    by_cases hq : q < 128
    · obtain ⟨fn, tmps, as_, bd, hy, hR⟩ := hY ys q q true wr hs (by have := hle.out.1; omega)
      gi_wp2
      refine hR.mono ?_
      rintro e W' ⟨rfl, hs'⟩
      clear hy
      gi_wp2
      go_end0
      refine ⟨⟨_, rfl⟩, q, ?_⟩
      rw [he.out, uv, if_pos hq]
      simpa using hs'
    · obtain ⟨fn, tmps, as_, bd, hy, hR⟩ := hY ys q (bits .and .u64 q 127 % 256) false wr hs (by have := hle.out.1; omega)
      gi_wp2
      refine hR.mono ?_
      rintro e W' ⟨rfl, hs'⟩
      have hc' := blk_cell hs'.hn 0
      have hf' := blk_frozen hs'.hn 0
      clear hy
      gi_wp2
      have hu : uv q = ((q % 128 + 128 : Nat) : Int) :: uv (q / 128) := by rw [uv, if_neg hq]
      have hx : xs ++ uv m = (ys ++ [bits .or .u8 (bits .and .u64 q 127 % 256) 128]) ++ uv (q / 128) := by rw [he.out, hu, group_u hle.out.2]; simp
      have hs2 : St w base g0 g1 l D rec v0 (ys ++ [bits .or .u8 (bits .and .u64 q 127 % 256) 128]) ((q / 128 : Nat) : Int) (W'.setCell ⟨g1, 0, none⟩ (.int .u64 ((q / 128 : Nat) : Int))) := by
        have := hs'.setN ((q / 128 : Nat) : Int)
        simpa using this
      have hlen := congrArg List.length hx
      refine ⟨⟨_, q / 128, ⟨hx⟩, ⟨?_, hle.out.2.div _⟩, hs2⟩, ?_⟩
      · have h1 := congrArg List.length he.out
        have h2 := hle.out.1
        simp only [List.length_append] at h1 hlen ⊢
        omega
      · rw [leftU_eq hs]
        have h3 : leftU g1 (W'.setCell ⟨g1, 0, none⟩ (.int .u64 ((q / 128 : Nat) : Int))) = q / 128 := leftU_eq hs2
        have h4 : q / 128 < q := by omega
        exact Nat.lt_of_le_of_lt (Nat.le_of_eq h3) h4
theorem range_clos {F : Fence} {n : Nat} {P : Program} {g : Operand} {ps : Array Tmp} {assign body : Code} {Q : Exit → Act → World → Prop} {a : Act} {w : World} (hro : F.round = none) (hd : F.depth.isSome = true → 1 ≤ n)
    {gf : Nat} {fnc : Func} {lb : Array Value} (hg : a.eval g = .func (.func gf) #[] lb) (hFg : F.fn gf) (hf : P.funcs[gf]? = some fnc) (hname : (fnc.name == "runtime.NumGoroutine") = false) (hb : fnc.body.isSome = true)
    (h : ∀ (fn : FuncId) (rec : Loop), F.fn fn → rec = { state := .ready, pending := none, fn := fn, tmps := a.tmps, params := ps, assign := assign, body := body, defers := w.heap.size } →
      CallsIn F (n - 1) P gf (#[.func (.yield (w.heap.size + 1)) #[] #[]] ++ lb) ((w.alloc (.deferred (some []))).alloc (.loop rec))
        (rangePost F n P (w.heap.size + 1) Q { a with defers := { target := .collected w.heap.size, args := #[] } :: a.defers })) :
    (Code.rangeFunc g ps assign body).wpIn F n P Q a w := by
  refine wpIn_rangeFunc ?_
  intro fn hfn
  rw [hro]
  refine ⟨w.heap.size + 1, [{ target := .collected w.heap.size, args := #[] }], (w.alloc (.deferred (some []))).alloc (.loop { state := .ready, pending := none, fn := fn, tmps := a.tmps, params := ps, assign := assign, body := body, defers := w.heap.size }),
    { target := .fn (.func gf) lb, args := #[.func (.yield (w.heap.size + 1)) #[] #[]] }, (w.alloc (.deferred (some []))).alloc (.loop { state := .ready, pending := none, fn := fn, tmps := a.tmps, params := ps, assign := assign, body := body, defers := w.heap.size }), gf,
    #[.func (.yield (w.heap.size + 1)) #[] #[]] ++ lb, (w.alloc (.deferred (some []))).alloc (.loop { state := .ready, pending := none, fn := fn, tmps := a.tmps, params := ps, assign := assign, body := body, defers := w.heap.size }), run_enterLoop_outer _ _ _ _ _, ?_, ?_, ?_, hd, ?_⟩
  · simp only [resolve, hg]
    simp [go_sem]
  · intro f' hf'
    simp [Target.leads] at hf'
    subst hf'
    exact hFg
  · have he := enters_ hf hname hb
    simp [invoke, go_sem, he]
  · exact h fn _ hfn rfl
theorem zip_two (T : Array Value) (i j : Tmp) (x y : Value) : ((#[i, j] : Array Tmp).zip #[x, y]).foldl (fun tmps (t, a) => tmps.setIfInBounds t a) T = (T.setIfInBounds i x).setIfInBounds j y := by simp
theorem round_of {F : Fence} {n : Nat} {P : Program} {l : Nat} {rec : Loop} {args : Array Value} {W : World} {R : Ending → World → Prop} (hl : W.heap[l]? = some (.loop rec)) (hs : args.size = rec.params.size) (hF : F.fn rec.fn)
    (h : rec.assign.wpIn (F.inRound l) n P (Exit.then (fun a₁ w₁ => ∃ w₂, (Instr.beginRound l).run P w₁ = .ok () w₂ ∧ rec.body.wpIn (F.inRound l) n P (roundPost P l R) a₁ w₂) (fun _ _ _ => False))
      { tmps := (rec.params.zip args).foldl (fun tmps (t, a) => tmps.setIfInBounds t a) rec.tmps, defers := [] } W) : YieldAt F n P l args W R :=
  ⟨rec.fn, _, rec.assign, rec.body, run_yield hl hs, roundIn_of_wpIn hF h⟩
theorem own_put {w : World} {base : Nat} {e : TypeId} {size n : Nat} {v : Value} {xs : List Value} (h : w.ownsRow base e size v n xs) {r : Nat} {o : Obj} (hr : w.heap[r]? = some o) (ho : o.isCells = false) (o' : Obj) : (w.putObj r o').ownsRow base e size v n xs :=
  own_move h fun k hk => World.putObj_heap_other (by
    rintro rfl
    obtain ⟨cs, hc⟩ := own_typed h k hk
    rw [hc] at hr
    obtain rfl := Option.some.inj hr
    cases ho)
theorem putL_heap {W : World} {l k : Nat} {o o' : Obj} (h : W.heap[k]? = some o) (hk : k ≠ l) : (W.putObj l o').heap[k]? = some o := (World.putObj_heap_other hk).trans h
theorem St.putL {w : World} {base g0 g1 l D : Nat} {rec : Loop} {v0 : Value} {xs : List Int} {m : Int} {W : World} (h : St w base g0 g1 l D rec v0 xs m W) (rec' : Loop) :
    St w base g0 g1 l D rec' v0 xs m (W.putObj l (.loop rec')) := by
  obtain ⟨⟨v, h1, h2, h3⟩, hn, hl, hD, hg, h0⟩ := h
  exact ⟨⟨v, putL_heap h1 (obj_ne h1 hl (by simp)), own_put h2 hl rfl _, h3⟩, putL_heap hn (obj_ne hn hl (by simp)), World.putObj_heap_same (blk_lt hl), putL_heap hD (Ne.symm h0.2.2.2.2.2), grown_put hg h0.2.2.1 _, h0⟩
theorem St.putB {w : World} {base g0 g1 l D : Nat} {rec : Loop} {v0 : Value} {xs : List Int} {m : Int} {W : World} (h : St w base g0 g1 l D rec v0 xs m W) (hbase : base ≤ w.heap.size) (hl : xs.length < 140737488355328) (b : Int) :
    ∃ (A A' : Option Addr) (c c' : Nat) (W2 : World), W.cell? ⟨g0, 0, none⟩ = some (.slice A xs.length c) ∧ W2.cell? ⟨g0, 0, none⟩ = some (.slice A xs.length c) ∧ W2.frozen? ⟨g0, 0, none⟩ = false ∧
      (Builtin.append_ #[27, 27] 27 #[.slice A xs.length c, .slice (some ⟨W.heap.size, 0, none⟩) 1 1]).run Tryd.prog (W.alloc (.cells #[.int .u8 b] 5)) = .ok (.slice A' (xs.length + 1) c') W2 ∧
      St w base g0 g1 l D rec v0 (xs ++ [b]) m (W2.setCell ⟨g0, 0, none⟩ (.slice A' (xs.length + 1) c')) := by
  obtain ⟨⟨v, h1, h2, h3⟩, hn, hll, hD, hg, h0⟩ := h
  obtain ⟨i0, hi, hzz⟩ := Option.map_eq_some_iff.1 info5
  simp only [Prod.mk.injEq] at hzz
  obtain ⟨hz0, hz1, hz2⟩ := hzz
  obtain ⟨v', W2, hrun, hown, hgr, _, hloc⟩ := run_append_own_at (P := Tryd.prog) (w := W.alloc (.cells #[.int .u8 b] 5)) base 27 27 5 i0 (.int .u8 0) 1 1 Tryd.underlying27 hi hz0 hz1 hz2 rfl (by omega) v xs.length (nums .u8 xs) (h2.alloc _)
    ⟨W.heap.size, 0, none⟩ 1 1 [.int .u8 b] rfl (World.news_of_block (cs := #[.int .u8 b]) (t := 5) (fr := (0, 0)) (heap_alloc_new W _)) (by simp [Value.oneCell']) (by simp only [maxLen]; omega) (by omega) (by have := hg.size; simp; omega)
  obtain ⟨A, c, rfl⟩ := own_slice h2
  obtain ⟨A', c', rfl⟩ := own_slice hown
  have hne0 : some g0 ≠ (Value.slice A xs.length c).ownBlock := own_ne h2 h1 (by decide)
  have hgrow : W.grownBy W2 (Value.slice A xs.length c).ownBlock := (World.grownBy_alloc W _ _).trans hgr
  have hb0 : W2.heap[g0]? = some (.cells #[.slice A xs.length c] 27 (0, 0)) := blk_grown h1 hgrow hne0
  have hb1 : W2.heap[g1]? = some (.cells #[.int .u64 m] 22 (0, 0)) := blk_grown hn hgrow (own_ne h2 hn (by decide))
  have hloc' : (Value.slice A' (xs.length + 1) c').ownBlock = (Value.slice A xs.length c).ownBlock ∨ ∃ b, (Value.slice A' (xs.length + 1) c').ownBlock = some b ∧ W.heap.size ≤ b := by
    rcases hloc with e | e
    · exact .inl e
    · exact .inr ⟨_, e, by simp⟩
  have hobj : ∀ {k : Nat} {o : Obj}, W.heap[k]? = some o → o.isCells = false → W2.heap[k]? = some o := by
    intro k o hk ho
    refine blk_grown hk hgrow ?_
    intro e
    obtain ⟨cs, hc⟩ := own_typed h2 k e.symm
    rw [hc] at hk
    obtain rfl := Option.some.inj hk
    cases ho
  refine ⟨A, A', c, c', W2, blk_cell h1 0, blk_cell hb0 0, blk_frozen hb0 0, hrun, ?_⟩
  have hnum : nums .u8 (xs ++ [b]) = nums .u8 xs ++ [.int .u8 b] := by simp [nums]
  refine ⟨⟨_, by simpa using blk_set hb0 0 (.slice A' (xs.length + 1) c'), ?_, ?_⟩, (Below.heap_setCell _ _ _ _ (Ne.symm h0.2.2.2.2.1)).trans hb1, ?_, ?_, ?_, h0⟩
  · rw [hnum, List.length_append]
    exact own_setCell hown (own_ne hown hb0 (by decide)) _
  · rcases hloc' with e | ⟨k, e, hk⟩
    · rw [e]; exact h3
    · exact .inr ⟨k, e, Nat.le_trans hg.size hk⟩
  · exact (Below.heap_setCell _ _ _ _ (obj_ne (hobj hll rfl) hb0 (by simp))).trans (hobj hll rfl)
  · exact (Below.heap_setCell _ _ _ _ (obj_ne (hobj hD rfl) hb0 (by simp))).trans (hobj hD rfl)
  · refine grown_set (p := ⟨g0, 0, none⟩) ⟨hgrow.os.trans hg.os, hgrow.tape.trans hg.tape, hgrow.output.trans hg.output, Nat.le_trans hg.size hgrow.size, fun i hi hne => ?_⟩ h0.1 _
    refine (hgrow.block i (Nat.lt_of_lt_of_le hi hg.size) ?_).trans (hg.block i hi hne)
    intro e
    rcases h3 with h3 | ⟨k, h3, hk⟩
    · exact hne (e.trans h3)
    · rw [h3] at e
      obtain rfl := Option.some.inj e
      omega
theorem wpListIn_append_run {F : Fence} {nF : Nat} {P : Program} {ops : Array Oper} {rest : List Oper} {o : Oper} {a : Act} {w : World} {Q : Exit → Act → World → Prop} (s x : Operand) (t : TypeId) (vs vx v' : Value) (w' : World) (hgd : o.guard = none)
    (ho : o.op = .call { callee := .builtin .append, args := #[s, x], argTypes := #[t, t] }) (hs : a.eval s = vs) (hx : a.eval x = vx)
    (hr : (Builtin.append_ #[t, t] o.type #[vs, vx]).run P w = .ok v' w') (h : wpListIn F nF P ops Q rest (a.put o.dst v') w') :
    wpListIn F nF P ops Q (o :: rest) a w := by
  refine wpListIn_plain hgd fun K hK => ?_
  unfold Oper.wpIn
  refine ⟨by simp [Oper.about, ho, resolve, Target.leads, Sem.run_pure], ?_⟩
  rw [Oper.semAt_plain F _ _ (by rw [ho]; intro c hc'; cases hc')]
  simp [execOp, ho, resolve, invoke, builtin, hs, hx, hr, Result.andThen]
  exact hK _ _ h
set_option maxHeartbeats 1000000 in
set_option maxRecDepth 100000 in
theorem uint_in (base : Nat) (v : Value) (xs : List Int) (n : Nat) (w : World) (HO : w.ownsRow base 5 1 v xs.length (nums .u8 xs)) (hbase : base ≤ w.heap.size) (hl : xs.length + (uv n).length < 140737488355328) (hn : U64 n) :
    CallsIn Fence.wide 7 Tryd.prog 26 #[v, .int .u64 n] w fun e w' => ∃ v', e = .returned v' ∧ w'.ownsRow base 5 1 v' (xs ++ uv n).length (nums .u8 (xs ++ uv n)) ∧ w.grownBy w' v.ownBlock ∧ (v'.ownBlock = v.ownBlock ∨ ∃ b, v'.ownBlock = some b ∧ w.heap.size ≤ b) := by
  obtain ⟨A, c, rfl⟩ := own_slice HO
  refine callsIn_of_wp_marks Tryd.func26 rfl trivial ?_ rfl
  simp only [Tryd.ntmps26, List.size_toArray, List.length_cons, List.length_nil, Nat.reduceAdd, Nat.reduceSub, Array.replicate_succ, Array.replicate_zero, List.push_toArray, List.append_toArray, List.nil_append, List.cons_append]
  gi_wp2_with (refine ⟨trivial, ?_⟩; gi_at_call 53; refine (callsIn_wide.2 (groups_calls _ _)).mono ?_; rintro e w' ⟨rfl, rfl⟩)
  obtain ⟨Wb, hWb⟩ : ∃ Wb, (w.alloc (.cells #[.slice A xs.length c] 27)).alloc (.cells #[.int .u64 n] 22) = Wb := ⟨_, rfl⟩
  have hz : Wb.heap.size = w.heap.size + 2 := by rw [← hWb]; simp
  have hb1 : Wb.heap[w.heap.size + 1]? = some (.cells #[.int .u64 n] 22 (0, 0)) := by
    rw [← hWb]
    have := heap_alloc_new (w.alloc (.cells #[.slice A xs.length c] 27)) (.cells #[.int .u64 n] 22)
    simpa using this
  have hb0 : Wb.heap[w.heap.size]? = some (.cells #[.slice A xs.length c] 27 (0, 0)) := by
    rw [← hWb]
    exact (Below.heap_alloc _ _ _ (by simp)).trans (heap_alloc_new w _)
  have hgW : w.grownBy Wb (Value.slice A xs.length c).ownBlock := by
    rw [← hWb]
    exact (World.grownBy_alloc w _ _).trans (World.grownBy_alloc _ _ _)
  have hOb : Wb.ownsRow base 5 1 (.slice A xs.length c) xs.length (nums .u8 xs) := by
    rw [← hWb]
    exact (HO.alloc _).alloc _
  rw [hWb]
  refine range_clos rfl (fun h => by cases h) rfl trivial Tryd.func66 (by kernel_rfl) rfl ?_
  intro fn rec _ hrec
  refine (groups1_in w base w.heap.size (w.heap.size + 1) (Wb.heap.size + 1) Wb.heap.size rec (.slice A xs.length c) ?hY xs n _ ?hS hl hn).mono ?post
  case hS =>
    refine ⟨⟨_, (Below.heap_alloc _ _ _ (by simp; omega)).trans ((Below.heap_alloc _ _ _ (by omega)).trans hb0), (hOb.alloc _).alloc _, .inl rfl⟩, (Below.heap_alloc _ _ _ (by simp; omega)).trans ((Below.heap_alloc _ _ _ (by omega)).trans hb1), ?_, ?_, ?_, by omega⟩
    · have := World.alloc_heap_new (Wb.alloc (.deferred (some []))) (.loop rec)
      rwa [World.size_alloc] at this
    · exact (Below.heap_alloc _ _ _ (by simp)).trans (World.alloc_heap_new Wb _)
    · exact (hgW.trans (World.grownBy_alloc _ _ _)).trans (World.grownBy_alloc _ _ _)
  case hY =>
    clear hz hWb hb1 hb0 hgW hOb HO
    intro ys m d last W hS hlen
    have hN := Aside0.mk hrec
    have hp : rec.params = #[9, 10] := by rw [hrec]
    have hst : rec.state = .ready := by rw [hrec]
    have hpn : rec.pending = none := by rw [hrec]
    have htm : rec.tmps = #[.slice A xs.length c, .int .u64 n, .pointer (some ⟨w.heap.size, 0, none⟩), undef, .slice none 0 0, undef, undef, .int .u64 n,
        .func (.func 66) #[] #[.pointer (some ⟨w.heap.size + 1, 0, none⟩)], undef, undef, undef, undef, undef, undef, undef, undef, undef, undef, undef] := by rw [hrec]
    have ht : (rec.params.zip #[.int .u8 d, .bool last]).foldl (fun tmps (t, a) => tmps.setIfInBounds t a) rec.tmps = #[.slice A xs.length c, .int .u64 n, .pointer (some ⟨w.heap.size, 0, none⟩), undef, .slice none 0 0, undef, undef, .int .u64 n,
        .func (.func 66) #[] #[.pointer (some ⟨w.heap.size + 1, 0, none⟩)], .int .u8 d, .bool last, undef, undef, undef, undef, undef, undef, undef, undef, undef] := by
      rw [hp, zip_two, htm]
      simp only [List.setIfInBounds_toArray, List.set_cons_zero, List.set_cons_succ]
    clear hrec htm
    refine round_of hS.hl (by rw [hp]; rfl) trivial ?_
    have hbr := run_beginRound (P := Tryd.prog) hS.hl hst
    rw [ht]
    clear ht
    have hS1 := hS.putL { rec with state := .busy }
    obtain ⟨W1, hW1⟩ : ∃ W1, W.putObj (Wb.heap.size + 1) (.loop { rec with state := .busy }) = W1 := ⟨_, rfl⟩
    rw [hW1] at hbr hS1
    clear hW1
    have ha := congrArg Loop.assign hN.out
    dsimp only at ha
    rw [ha]
    clear ha
    gi_wp2
    clear hbr
    have hb := congrArg Loop.body hN.out
    dsimp only at hb
    rw [hb]
    clear hb
    cases last
    · skip
      obtain ⟨A1, A2, c1, c2, W2, hc1, hc2, hf2, hrun, hS2⟩ := hS1.putB hbase hlen (bits .or .u8 d 128)
      have hend := run_endRound (P := Tryd.prog) none hS2.hl
      have hfin := hS2.putL { { rec with state := .busy } with state := if (none : Option Code).isNone then .ready else .done, pending := none }
      replace hrun := Aside0.mk hrun
      gi_wp2_with (gi_at_builtin; refine wpListIn_append_run _ _ _ _ _ _ _ rfl rfl rfl rfl hrun.out ?_; dsimp only)
      refine ⟨_, _, hend, rfl, ?_⟩
      rw [show rec = { { rec with state := .busy } with state := if (none : Option Code).isNone then .ready else .done, pending := none } from by cases rec; simp_all]
      exact hfin
    · skip
      obtain ⟨A1, A2, c1, c2, W2, hc1, hc2, hf2, hrun, hS2⟩ := hS1.putB hbase hlen d
      have hend := run_endRound (P := Tryd.prog) none hS2.hl
      have hfin := hS2.putL { { rec with state := .busy } with state := if (none : Option Code).isNone then .ready else .done, pending := none }
      replace hrun := Aside0.mk hrun
      gi_wp2_with (gi_at_builtin; refine wpListIn_append_run _ _ _ _ _ _ _ rfl rfl rfl rfl hrun.out ?_; dsimp only)
      refine ⟨_, _, hend, rfl, ?_⟩
      rw [show rec = { { rec with state := .busy } with state := if (none : Option Code).isNone then .ready else .done, pending := none } from by cases rec; simp_all]
      exact hfin
  case post =>
    rintro e W2 ⟨⟨v, rfl⟩, m', hS⟩
    have hst : rec.state = .ready := by rw [hrec]
    have hpn : rec.pending = none := by rw [hrec]
    have hend := run_endLoop (P := Tryd.prog) hS.hl (by rw [hst]; simp)
    have hS2 := hS.putL { rec with state := .exhausted }
    clear hrec hst
    obtain ⟨W3, hW3⟩ : ∃ W3, W2.putObj (Wb.heap.size + 1) (.loop { rec with state := .exhausted }) = W3 := ⟨_, rfl⟩
    rw [hW3, hpn] at hend
    rw [hW3] at hS2
    clear hW3 hpn hS
    obtain ⟨v', h1, h2, h3⟩ := hS2.hv
    have hD := hS2.hD
    have hDg := hS2.h0.2.2.2.1
    rw [hz] at hD hDg
    have hc := blk_cell h1 0
    refine ⟨none, _, hend, ?_⟩
    clear hend
    gi_wp2
    refine ⟨by simp, .inl ⟨_, _, rfl, run_takeDeferred hD, ?_⟩⟩
    exact ⟨_, results_tmp rfl _ _ _, v', rfl, own_put h2 hD rfl _, grown_put hS2.hg hDg _, h3⟩
theorem uint_calls (base : Nat) (v : Value) (xs : List Int) (n : Nat) (w : World) (HO : w.ownsRow base 5 1 v xs.length (nums .u8 xs)) (hbase : base ≤ w.heap.size) (hl : xs.length + (uv n).length < 140737488355328) (hn : U64 n) :
    Calls Tryd.prog 26 #[v, .int .u64 n] w fun e w' => ∃ v', e = .returned v' ∧ w'.ownsRow base 5 1 v' (xs ++ uv n).length (nums .u8 (xs ++ uv n)) ∧ w.grownBy w' v.ownBlock ∧ (v'.ownBlock = v.ownBlock ∨ ∃ b, v'.ownBlock = some b ∧ w.heap.size ≤ b) :=
  callsIn_wide.1 (uint_in base v xs n w HO hbase hl hn)
end Go.Proofs.YtfkfboigkpofkaaDoor.M
end
