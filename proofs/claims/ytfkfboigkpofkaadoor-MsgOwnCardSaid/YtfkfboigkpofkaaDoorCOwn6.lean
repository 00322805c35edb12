/- Parts of a proof, pruned and joined by flat.py out of: MN, MO. -/
import Derived.Test.YtfkfboigkpofkaaDoorCOwn5
section
namespace Go.Proofs.YtfkfboigkpofkaaDoor.M
open Go.RowKit Go.Proofs.YtfkfboigkpofkaaDoorW.PrintWords Go.Proofs.YtfkfboigkpofkaaDoorW.PrintLast Go.Proofs.YtfkfboigkpofkaaDoorW.PrintMore Go.Proofs.YtfkfboigkpofkaaDoor.PMsgPuts
set_option linter.unusedVariables false
set_option linter.unusedSimpArgs false
section
variable {P : Program} {ops : Array Oper} {rest : List Oper} {o : Oper} {a : Act} {Q : Exit → Act → World → Prop} {W : World}
theorem closB_ {w : World} (N : Option Tmp) (hd : o.dst = N) (hg : o.guard = none) {t : Operand} {f : FuncId} {fn : Func} {pre : Array Value} {os : Array Operand} {ts : Array TypeId} (hf : P.funcs[f]? = some fn) (hname : (fn.name == "runtime.NumGoroutine") = false) (hb : fn.body.isSome = true) (args : Array Value)
    (hop : o.op = .call { callee := .value t, args := os, argTypes := ts }) (ht : a.eval t = .func (.func f) pre #[]) (hargs : pre ++ os.map a.eval = args)
    (h : Calls P f args w fun e w' => ∃ v, e = .returned v ∧ wpList P ops Q rest (a.put N v) w') : wpList P ops Q (o :: rest) a w := by
  refine wpList_plain hg fun K hK => ?_
  have he := enters_ hf hname hb args w
  have hrun : (execOp a.eval o).run P w = .ok (.enter f args) w := by
    unfold execOp
    simp [hop, resolve, Deferred.ofValue, invoke, ht, hargs, he]
  unfold Oper.wp
  rw [hrun, Oper.upon_enter]
  refine h.mono fun e w'' hh => ?_
  obtain ⟨v, rfl, hk⟩ := hh
  subst hd
  exact hK _ _ hk
end
theorem FK_row {W : World} {base : Nat} {ok : Nat → Prop} {v : Value} {l : List Int} (h : Kd.V (Kd.int .u8) 5 W base ok v l) : Kd.FK (Kd.slice 5 (Kd.int .u8)) W ok l [v] := by
  obtain ⟨A, c, rfl, hl, hF⟩ := h
  exact fun W' hW => ⟨A, c, rfl, hl, hF W' hW⟩
theorem FK_vote {W : World} {base : Nat} {ok : Nat → Prop} {v : Value} {x : S52} (h : Kd.V (Kd.int .u8) 5 W base ok v x.f2) : Kd.FK k52 W ok x [.int .u64 x.f0, .int .u64 x.f1.f0, .int .i64 x.f1.f1, v] := by
  obtain ⟨A, c, rfl, hl, hF⟩ := h
  exact fun W' hW => ⟨[.int .u64 x.f0], [.int .u64 x.f1.f0, .int .i64 x.f1.f1, .slice A x.f2.length c], rfl, rfl, ⟨[.int .u64 x.f1.f0, .int .i64 x.f1.f1], [.slice A x.f2.length c], rfl, k24_mk W' x.f1, ⟨A, c, rfl, hl, hF W' hW⟩⟩⟩
def manyT {α : Type} (one : TS → α × TS) : Nat → TS → List α × TS
  | 0, s => ([], s)
  | n + 1, s => ((one s).1 :: (manyT one n (one s).2).1, (manyT one n (one s).2).2)
def rowsT {α : Type} (one : TS → α × TS) (most : Int) (s : TS) : List α × TS :=
  if most < (nR s.r).1 then ([], ⟨(nR s.r).2, true⟩) else manyT one (nR s.r).1.toNat ⟨(nR s.r).2, s.bad⟩
theorem less_textT (s : TS) : Less s.r (textT s).2.r := less_text s.r
theorem less_balT (s : TS) : Less s.r (balT s).2.r := less_bal s.r
theorem less_voteT (s : TS) : Less s.r (voteT s).2.r := ((less_nR s.r).trans (less_balT ⟨(nR s.r).2, s.bad⟩)).trans (less_textT _)
theorem less_many {α : Type} {one : TS → α × TS} (h : ∀ s, Less s.r (one s).2.r) : ∀ n s, Less s.r (manyT one n s).2.r
  | 0, s => Less.refl _
  | n + 1, s => (h s).trans (less_many h n _)
theorem less_rows {α : Type} {one : TS → α × TS} (h : ∀ s, Less s.r (one s).2.r) (most : Int) (s : TS) : Less s.r (rowsT one most s).2.r := by
  unfold rowsT
  split
  · exact less_nR _
  · exact (less_nR s.r).trans (less_many h _ ⟨(nR s.r).2, s.bad⟩)
theorem N_two {α : Type} {d : Kd α} {e : Nat} {W W' : World} {t g n : Nat} {u : Value} {xs : List α} {w : World} (h : Kd.N d e W n (fun k => w.heap.size ≤ k) u xs) (T : Two W W' t g) (hlt : t < w.heap.size ∧ g < w.heap.size) : Kd.N d e W' n (fun k => w.heap.size ≤ k) u xs :=
  Kd.N_kept h T.kept (fun k hk hs => by have := hlt; rcases hs with rfl | rfl <;> omega)
theorem Tk_grown {w0 W W' : World} {t g : Nat} {s : TS} {u : Value} {n : Nat} (h : Tk w0 W t g s) (G : W.grownBy W' u.ownBlock) (hlt : t < n ∧ g < n) (hu : ∀ k, u.ownBlock = some k → n ≤ k) : Tk w0 W' t g s := by
  have ht : some t ≠ u.ownBlock := fun e => by have := hu t e.symm; omega
  have hg : some g ≠ u.ownBlock := fun e => by have := hu g e.symm; omega
  obtain ⟨A, c, h1, h2, h3⟩ := h.rd.at_
  refine ⟨⟨h.rd.base, h.rd.bel.trans ⟨G.os, G.tape, G.output, G.size, fun k hk => G.block k (Nat.lt_of_lt_of_le hk h.rd.bel.size) (fun e => ?_)⟩, A, c, blk_grown h1 G hg, h2, h3⟩, blk_grown h.box G ht, h.base, h.ne⟩
  have := hu k e.symm
  have := h.base
  omega
theorem Two.trans_own {W W' W2 : World} {t g : Nat} {u : Value} (T : Two W W' t g) (G : W'.grownBy W2 u.ownBlock) (hu : ∀ k, u.ownBlock = some k → W.heap.size ≤ k) : Two W W2 t g :=
  ⟨G.os.trans T.os, G.tape.trans T.tape, G.output.trans T.output, Nat.le_trans T.size G.size, fun k hk h1 h2 => (G.block k (Nat.lt_of_lt_of_le hk T.size) (fun e => by have := hu k e.symm; omega)).trans (T.block k hk h1 h2)⟩
set_option maxHeartbeats 1000000 in
set_option maxRecDepth 100000 in
theorem rows61_calls (w0 W : World) (t g : Nat) (s : TS) (h : Tk w0 W t g s) (hF : Fine s.r) :
    Calls Tryd.prog 61 #[.pointer (some ⟨t, 0, none⟩), .int .i64 16, .func (.func 60) #[.pointer (some ⟨t, 0, none⟩)] #[]] W fun e w' => ∃ v, e = .returned v ∧ Kd.V (Kd.slice 5 (Kd.int .u8)) 27 w' W.heap.size (fun k => W.heap.size ≤ k) v (rowsT textT 16 s).1 ∧ Tk w0 w' t g (rowsT textT 16 s).2 ∧ Two W w' t g := by
  obtain ⟨sr, bad⟩ := s
  obtain ⟨n, s1, h1⟩ : ∃ n s1, nR sr = (n, s1) := ⟨_, _, rfl⟩
  have hc1 := Aside0.mk (num_at w0 g hF.fits hF.bys h1)
  have hF1 : Fine s1 := by have := hF.less (less_nR sr); rwa [h1] at this
  have hU : U n := by have := nR_U hF.bys; rwa [h1] at this
  have hT := Aside0.mk h
  have ht0 := (blk_cell h.box 0).trans rfl
  have hf1 := blk_frozen h.box 1
  have hU' := Aside0.mk hU
  have hF1' := Aside0.mk hF1
  have h1' := Aside0.mk h1
  clear h hF h1 hF1 hU
  by_cases d : 16 < n
  · have c1 : decide (16 < n) = true := decide_eq_true d
    have e1 : rowsT textT 16 ⟨sr, bad⟩ = ([], ⟨s1, true⟩) := by unfold rowsT; rw [h1'.out, if_pos d]
    rw [e1]
    clear d e1
    go_enter Tryd.func61, Tryd.ntmps61
    repeat (first
      | ((with_reducible refine gate_callee (f := 37) rfl ?_); (with_reducible refine gate_dst (N := 13) rfl ?_); refine goesL_ (some 13) rfl rfl Tryd.func37 (by kernel_rfl) rfl #[.pointer (some ⟨g, 0, none⟩)] rfl (by (try simp only [List.map_toArray, List.map_cons, List.map_nil]); first | done | rfl) ?_; refine (hc1.out _ hT.out.rd).mono ?_; rintro e w1 ⟨rfl, HR1, G1⟩; refine ⟨_, rfl, ?_⟩; have HT1 := Aside0.mk (hT.out.read HR1 G1); have G1' := Aside0.mk G1; have hy1 := (blk_cell HT1.out.box 1).trans rfl; have hz1 := blk_frozen HT1.out.box 1; clear HR1 G1 ht0 hf1; (try dsimp only))
      | go_step)
    go_ret
    exact ⟨_, rfl, Kd.V_nil _ _ _ _ _, HT1.out.bad true, (Two.of_g G1'.out t).set_t 1 _⟩
  · have c1 : decide (16 < n) = false := decide_eq_false d
    have e1 : rowsT textT 16 ⟨sr, bad⟩ = manyT textT n.toNat ⟨s1, bad⟩ := by unfold rowsT; rw [h1'.out, if_neg d]
    rw [e1]
    have n0 : 0 ≤ n := hU'.out.1
    have n1 : n ≤ 16 := by omega
    clear e1 d
    go_enter Tryd.func61, Tryd.ntmps61
    repeat (first
      | ((with_reducible refine gate_callee (f := 37) rfl ?_); (with_reducible refine gate_dst (N := 13) rfl ?_); refine goesL_ (some 13) rfl rfl Tryd.func37 (by kernel_rfl) rfl #[.pointer (some ⟨g, 0, none⟩)] rfl (by (try simp only [List.map_toArray, List.map_cons, List.map_nil]); first | done | rfl) ?_; refine (hc1.out _ hT.out.rd).mono ?_; rintro e w1 ⟨rfl, HR1, G1⟩; refine ⟨_, rfl, ?_⟩; have HT1 := Aside0.mk (hT.out.read HR1 G1); have G1' := Aside0.mk G1; have hy1 := (blk_cell HT1.out.box 1).trans rfl; have hz1 := blk_frozen HT1.out.box 1; clear HR1 G1 ht0 hf1; (try dsimp only))
      | go_step)
    go_loopg [8, 22] (n.toNat + 1) (fun kq v8 v22 w' => ∃ (i : Int) (u : Value) (xs : List (List Int)) (s2 : TS), u = v8 ∧ v22 = .int .u64 i ∧ Aside0 (kq + i.toNat = n.toNat + 1 ∧ 0 ≤ i ∧ i ≤ n ∧ xs.length = i.toNat) ∧ Aside0 (manyT textT n.toNat ⟨s1, bad⟩ = (xs ++ (manyT textT (n.toNat - i.toNat) s2).1, (manyT textT (n.toNat - i.toNat) s2).2)) ∧ Aside0 (Kd.N (Kd.slice 5 (Kd.int .u8)) 27 w' W.heap.size (fun k => W.heap.size ≤ k) u xs) ∧ Aside0 (Tk w0 w' t g s2) ∧ Aside0 (Fine s2.r) ∧ Aside0 (Two W w' t g))
    case atStart => exact ⟨0, _, [], ⟨s1, bad⟩, rfl, rfl, ⟨by omega, by omega, by omega, rfl⟩, ⟨rfl⟩, ⟨Kd.N_nil _ _ _ _ _⟩, HT1, hF1', ⟨Two.of_g G1'.out t⟩⟩
    case round =>
      have hlt := Aside0.mk hT.out.lt
      clear hc1 HT1 hF1' hT G1' hy1 hz1
      obtain ⟨i, u, xs, s2, rfl, rfl, hi, hm, HN, HT, HF, T2⟩ := hrel
      by_cases d : i < n
      · have c2 : decide (i < n) = true := decide_eq_true d
        have i0 : 0 ≤ i := hi.out.2.1
        obtain ⟨y, s3, h3⟩ : ∃ y s3, textT s2 = (y, s3) := ⟨_, _, rfl⟩
        have hc : Aside0 (Calls Tryd.prog 60 #[.pointer (some ⟨t, 0, none⟩)] wr fun e w' => ∃ v, e = .returned v ∧ Kd.V (Kd.int .u8) 5 w' W.heap.size (fun k => wr.heap.size ≤ k) v y ∧ Tk w0 w' t g s3 ∧ Two wr w' t g) := by
          have := ttext_calls w0 wr t g s2 HT.out HF.out W.heap.size
          rw [h3] at this
          exact ⟨this⟩
        have hF3 := Aside0.mk (show Fine s3.r by have := HF.out.less (less_textT s2); rwa [h3] at this)
        have h3' := Aside0.mk h3
        clear h3
        have d' := Aside0.mk d
        repeat (first
          | ((with_reducible refine gate_dst (N := 26) rfl ?_); (with_reducible refine gate_tmp rfl ?_); refine closB_ _ rfl rfl Tryd.func60 (by kernel_rfl) rfl #[.pointer (some ⟨t, 0, none⟩)] rfl rfl (by (try simp only [List.map_toArray, List.map_cons, List.map_nil]); first | done | rfl) ?_; refine hc.out.mono ?_; rintro e w3 ⟨v, rfl, HV3, HT3, T3⟩; refine ⟨_, rfl, ?_⟩; obtain ⟨Av, cv, rfl⟩ := Kd.V_slice HV3; have HV3' := Aside0.mk HV3; have HT3' := Aside0.mk HT3; have T3' := Aside0.mk T3; have HN3 := Aside0.mk (N_two HN.out T3 hlt.out); clear HV3 HT3 T3; (try dsimp only))
          | ((with_reducible refine gate_builtin (b := .append) (xs := #[.tmp 24, .tmp 27]) rfl ?_); at_builtin; refine Kd.N_append (Kd.slice 5 (Kd.int .u8)) (w0 := w3) W.heap.size rfl (.tmp 24) (.tmp 27) 26 27 (.slice none 0 0) 24 rfl Tryd.underlying26 info27 rfl (by decide) (by omega) u xs y [.slice Av y.length cv] (fun k => W.heap.size ≤ k) (fun k => wr.heap.size ≤ k) rfl rfl (FK_row HV3'.out) (fun k hk => ⟨Nat.le_trans T2.out.size hk, fun he => by have := Kd.N_lt HN.out k he.symm; omega⟩) (fun k hk => Nat.le_trans (Nat.le_trans T2.out.size T3'.out.size) hk) HN3.out (Below.refl _ _) (Nat.le_trans T2.out.size T3'.out.size) (by have := hi.out; have := d'.out; omega) ?_; intro v4 w4 HN4 _ HG4 _; have HN4' := Aside0.mk HN4; have HG4' := Aside0.mk HG4; clear HN4 HG4; (try dsimp only))
          | go_step)
        go_roundg (gk - 1)
        case measure => have := hi.out; omega
        case rel =>
          have hu : ∀ k, u.ownBlock = some k → W.heap.size ≤ k := fun k hk => Kd.N_base HN.out k hk
          refine ⟨i + 1, v4, xs ++ [y], s3, rfl, rfl, ⟨?_⟩, ⟨?_⟩, HN4', ⟨Tk_grown HT3'.out HG4'.out hlt.out hu⟩, hF3, ⟨(T2.out.trans T3'.out).trans_own HG4'.out hu⟩⟩
          · have := hi.out
            have := d'.out
            refine ⟨by omega, by omega, by omega, ?_⟩
            rw [List.length_append, hi.out.2.2.2]
            show i.toNat + 1 = _
            omega
          · have e2 : n.toNat - i.toNat = (n.toNat - (i + 1).toNat) + 1 := by have := hi.out; have := d'.out; omega
            rw [hm.out, e2, manyT, h3'.out]
            simp
      · have c2 : decide (i < n) = false := decide_eq_false d
        have hk : n.toNat - i.toNat = 0 := by have := hi.out; omega
        clear d
        go_wp2
        go_ret
        have hm2 := hm.out
        rw [hk, manyT] at hm2
        rw [hm2]
        refine ⟨_, rfl, ?_, HT.out, T2.out⟩
        simpa using Kd.N_V HN.out
set_option maxHeartbeats 1000000 in
set_option maxRecDepth 100000 in
theorem rows62_calls (w0 W : World) (t g : Nat) (s : TS) (h : Tk w0 W t g s) (hF : Fine s.r) :
    Calls Tryd.prog 62 #[.pointer (some ⟨t, 0, none⟩), .int .i64 256, .func (.func 63) #[.pointer (some ⟨t, 0, none⟩)] #[]] W fun e w' => ∃ v, e = .returned v ∧ Kd.V k52 52 w' W.heap.size (fun k => W.heap.size ≤ k) v (rowsT voteT 256 s).1 ∧ Tk w0 w' t g (rowsT voteT 256 s).2 ∧ Two W w' t g := by
  obtain ⟨sr, bad⟩ := s
  obtain ⟨n, s1, h1⟩ : ∃ n s1, nR sr = (n, s1) := ⟨_, _, rfl⟩
  have hc1 := Aside0.mk (num_at w0 g hF.fits hF.bys h1)
  have hF1 : Fine s1 := by have := hF.less (less_nR sr); rwa [h1] at this
  have hU : U n := by have := nR_U hF.bys; rwa [h1] at this
  have hT := Aside0.mk h
  have ht0 := (blk_cell h.box 0).trans rfl
  have hf1 := blk_frozen h.box 1
  have hU' := Aside0.mk hU
  have hF1' := Aside0.mk hF1
  have h1' := Aside0.mk h1
  clear h hF h1 hF1 hU
  by_cases d : 256 < n
  · have c1 : decide (256 < n) = true := decide_eq_true d
    have e1 : rowsT voteT 256 ⟨sr, bad⟩ = ([], ⟨s1, true⟩) := by unfold rowsT; rw [h1'.out, if_pos d]
    rw [e1]
    clear d e1
    go_enter Tryd.func62, Tryd.ntmps62
    repeat (first
      | ((with_reducible refine gate_callee (f := 37) rfl ?_); (with_reducible refine gate_dst (N := 13) rfl ?_); refine goesL_ (some 13) rfl rfl Tryd.func37 (by kernel_rfl) rfl #[.pointer (some ⟨g, 0, none⟩)] rfl (by (try simp only [List.map_toArray, List.map_cons, List.map_nil]); first | done | rfl) ?_; refine (hc1.out _ hT.out.rd).mono ?_; rintro e w1 ⟨rfl, HR1, G1⟩; refine ⟨_, rfl, ?_⟩; have HT1 := Aside0.mk (hT.out.read HR1 G1); have G1' := Aside0.mk G1; have hy1 := (blk_cell HT1.out.box 1).trans rfl; have hz1 := blk_frozen HT1.out.box 1; clear HR1 G1 ht0 hf1; (try dsimp only))
      | go_step)
    go_ret
    exact ⟨_, rfl, Kd.V_nil _ _ _ _ _, HT1.out.bad true, (Two.of_g G1'.out t).set_t 1 _⟩
  · have c1 : decide (256 < n) = false := decide_eq_false d
    have e1 : rowsT voteT 256 ⟨sr, bad⟩ = manyT voteT n.toNat ⟨s1, bad⟩ := by unfold rowsT; rw [h1'.out, if_neg d]
    rw [e1]
    have n0 : 0 ≤ n := hU'.out.1
    have n1 : n ≤ 256 := by omega
    clear e1 d
    go_enter Tryd.func62, Tryd.ntmps62
    repeat (first
      | ((with_reducible refine gate_callee (f := 37) rfl ?_); (with_reducible refine gate_dst (N := 13) rfl ?_); refine goesL_ (some 13) rfl rfl Tryd.func37 (by kernel_rfl) rfl #[.pointer (some ⟨g, 0, none⟩)] rfl (by (try simp only [List.map_toArray, List.map_cons, List.map_nil]); first | done | rfl) ?_; refine (hc1.out _ hT.out.rd).mono ?_; rintro e w1 ⟨rfl, HR1, G1⟩; refine ⟨_, rfl, ?_⟩; have HT1 := Aside0.mk (hT.out.read HR1 G1); have G1' := Aside0.mk G1; have hy1 := (blk_cell HT1.out.box 1).trans rfl; have hz1 := blk_frozen HT1.out.box 1; clear HR1 G1 ht0 hf1; (try dsimp only))
      | go_step)
    go_loopg [8, 22] (n.toNat + 1) (fun kq v8 v22 w' => ∃ (i : Int) (u : Value) (xs : List S52) (s2 : TS), u = v8 ∧ v22 = .int .u64 i ∧ Aside0 (kq + i.toNat = n.toNat + 1 ∧ 0 ≤ i ∧ i ≤ n ∧ xs.length = i.toNat) ∧ Aside0 (manyT voteT n.toNat ⟨s1, bad⟩ = (xs ++ (manyT voteT (n.toNat - i.toNat) s2).1, (manyT voteT (n.toNat - i.toNat) s2).2)) ∧ Aside0 (Kd.N k52 52 w' W.heap.size (fun k => W.heap.size ≤ k) u xs) ∧ Aside0 (Tk w0 w' t g s2) ∧ Aside0 (Fine s2.r) ∧ Aside0 (Two W w' t g))
    case atStart => exact ⟨0, _, [], ⟨s1, bad⟩, rfl, rfl, ⟨by omega, by omega, by omega, rfl⟩, ⟨rfl⟩, ⟨Kd.N_nil _ _ _ _ _⟩, HT1, hF1', ⟨Two.of_g G1'.out t⟩⟩
    case round =>
      have hlt := Aside0.mk hT.out.lt
      clear hc1 HT1 hF1' hT G1' hy1 hz1
      obtain ⟨i, u, xs, s2, rfl, rfl, hi, hm, HN, HT, HF, T2⟩ := hrel
      by_cases d : i < n
      · have c2 : decide (i < n) = true := decide_eq_true d
        have i0 : 0 ≤ i := hi.out.2.1
        obtain ⟨y, s3, h3⟩ : ∃ y s3, voteT s2 = (y, s3) := ⟨_, _, rfl⟩
        have hc : Aside0 (Calls Tryd.prog 63 #[.pointer (some ⟨t, 0, none⟩)] wr fun e w' => ∃ v, e = .returned (.agg #[.int .u64 y.f0, .int .u64 y.f1.f0, .int .i64 y.f1.f1, v]) ∧ Kd.V (Kd.int .u8) 5 w' W.heap.size (fun k => wr.heap.size ≤ k) v y.f2 ∧ Tk w0 w' t g s3 ∧ Two wr w' t g) := by
          have := vote_calls w0 wr t g s2 HT.out HF.out W.heap.size
          rw [h3] at this
          exact ⟨this⟩
        have hF3 := Aside0.mk (show Fine s3.r by have := HF.out.less (less_voteT s2); rwa [h3] at this)
        have h3' := Aside0.mk h3
        clear h3
        have d' := Aside0.mk d
        repeat (first
          | ((with_reducible refine gate_dst (N := 26) rfl ?_); (with_reducible refine gate_tmp rfl ?_); refine closB_ _ rfl rfl Tryd.func63 (by kernel_rfl) rfl #[.pointer (some ⟨t, 0, none⟩)] rfl rfl (by (try simp only [List.map_toArray, List.map_cons, List.map_nil]); first | done | rfl) ?_; refine hc.out.mono ?_; rintro e w3 ⟨v, rfl, HV3, HT3, T3⟩; refine ⟨_, rfl, ?_⟩; obtain ⟨Av, cv, rfl⟩ := Kd.V_slice HV3; have HV3' := Aside0.mk HV3; have HT3' := Aside0.mk HT3; have T3' := Aside0.mk T3; have HN3 := Aside0.mk (N_two HN.out T3 hlt.out); clear HV3 HT3 T3; (try dsimp only))
          | ((with_reducible refine gate_builtin (b := .append) (xs := #[.tmp 24, .tmp 27]) rfl ?_); at_builtin; refine Kd.N_append k52 (w0 := w3) W.heap.size rfl (.tmp 24) (.tmp 27) 25 52 (.agg #[(.int .u64 0), (.int .u64 0), (.int .i64 0), (.slice none 0 0)]) 48 rfl Tryd.underlying25 info52 rfl (by decide) (by omega) u xs y [.int .u64 y.f0, .int .u64 y.f1.f0, .int .i64 y.f1.f1, .slice Av y.f2.length cv] (fun k => W.heap.size ≤ k) (fun k => wr.heap.size ≤ k) rfl rfl (FK_vote HV3'.out) (fun k hk => ⟨Nat.le_trans T2.out.size hk, fun he => by have := Kd.N_lt HN.out k he.symm; omega⟩) (fun k hk => Nat.le_trans (Nat.le_trans T2.out.size T3'.out.size) hk) HN3.out (Below.refl _ _) (Nat.le_trans T2.out.size T3'.out.size) (by have := hi.out; have := d'.out; omega) ?_; intro v4 w4 HN4 _ HG4 _; have HN4' := Aside0.mk HN4; have HG4' := Aside0.mk HG4; clear HN4 HG4; (try dsimp only))
          | go_step)
        go_roundg (gk - 1)
        case measure => have := hi.out; omega
        case rel =>
          have hu : ∀ k, u.ownBlock = some k → W.heap.size ≤ k := fun k hk => Kd.N_base HN.out k hk
          refine ⟨i + 1, v4, xs ++ [y], s3, rfl, rfl, ⟨?_⟩, ⟨?_⟩, HN4', ⟨Tk_grown HT3'.out HG4'.out hlt.out hu⟩, hF3, ⟨(T2.out.trans T3'.out).trans_own HG4'.out hu⟩⟩
          · have := hi.out
            have := d'.out
            refine ⟨by omega, by omega, by omega, ?_⟩
            rw [List.length_append, hi.out.2.2.2]
            show i.toNat + 1 = _
            omega
          · have e2 : n.toNat - i.toNat = (n.toNat - (i + 1).toNat) + 1 := by have := hi.out; have := d'.out; omega
            rw [hm.out, e2, manyT, h3'.out]
            simp
      · have c2 : decide (i < n) = false := decide_eq_false d
        have hk : n.toNat - i.toNat = 0 := by have := hi.out; omega
        clear d
        go_wp2
        go_ret
        have hm2 := hm.out
        rw [hk, manyT] at hm2
        rw [hm2]
        refine ⟨_, rfl, ?_, HT.out, T2.out⟩
        simpa using Kd.N_V HN.out
end Go.Proofs.YtfkfboigkpofkaaDoor.M
end
section
namespace Go.Proofs.YtfkfboigkpofkaaDoor.M
open Go.RowKit Go.Proofs.YtfkfboigkpofkaaDoorW.PrintWords Go.Proofs.YtfkfboigkpofkaaDoorW.PrintLast Go.Proofs.YtfkfboigkpofkaaDoorW.PrintMore Go.Proofs.YtfkfboigkpofkaaDoor.PMsgPuts
set_option linter.unusedVariables false
set_option linter.unusedSimpArgs false
def takeF (c : Int) (p : Mg × TS) : Mg × TS :=
  if c = 98 then ({ p.1 with n := (balT p.2).1.1, r := (balT p.2).1.2 }, (balT p.2).2)
  else if c = 99 then ({ p.1 with commit := (nR p.2.r).1 }, ⟨(nR p.2.r).2, p.2.bad⟩)
  else if c = 102 then ({ p.1 with first := (nR p.2.r).1 }, ⟨(nR p.2.r).2, p.2.bad⟩)
  else if c = 108 then ({ p.1 with last := (nR p.2.r).1 }, ⟨(nR p.2.r).2, p.2.bad⟩)
  else if c = 112 then ({ p.1 with S := (textT p.2).1 }, (textT p.2).2)
  else if c = 115 then ({ p.1 with B := (rowsT textT 16 p.2).1 }, (rowsT textT 16 p.2).2)
  else if c = 118 then ({ p.1 with V := (rowsT voteT 256 p.2).1 }, (rowsT voteT 256 p.2).2)
  else p
def takesF (l : List Int) (p : Mg × TS) : Mg × TS := l.foldl (fun p c => takeF c p) p
theorem takes_take (l : List Int) (p : Mg × TS) (k : Nat) (h : k < l.length) : takeF (l.getD k 0) (takesF (l.take k) p) = takesF (l.take (k + 1)) p := by
  unfold takesF
  rw [List.take_succ_eq_append_getElem h, List.foldl_append]
  simp [List.getD_eq_getElem?_getD, h]
theorem less_takeF (c : Int) (p : Mg × TS) : Less p.2.r (takeF c p).2.r := by
  unfold takeF
  repeat' split
  · exact less_balT _
  · exact less_nR _
  · exact less_nR _
  · exact less_nR _
  · exact less_textT _
  · exact less_rows less_textT _ _
  · exact less_rows less_voteT _ _
  · exact Less.refl _
theorem k_takeF (c : Int) (p : Mg × TS) : (takeF c p).1.k = p.1.k := by
  unfold takeF
  repeat' split
  all_goals rfl
structure BoxM (W : World) (b lo : Nat) (m : Mg) : Prop where
  at_ : ∃ vV vB vS, W.heap[b]? = some (.cells #[.int .u8 m.k, .int .u64 m.n, .int .i64 m.r, .int .u64 m.first, .int .u64 m.last, .int .u64 m.commit, vV, vB, vS] 29 (0, 0)) ∧
    Kd.V k52 52 W lo (fun k => lo ≤ k) vV m.V ∧ Kd.V (Kd.slice 5 (Kd.int .u8)) 27 W lo (fun k => lo ≤ k) vB m.B ∧ Kd.V (Kd.int .u8) 5 W lo (fun k => lo ≤ k) vS m.S
theorem BoxM.two {W W' : World} {b lo t g : Nat} {m : Mg} (h : BoxM W b lo m) (T : Two W W' t g) (h1 : b ≠ t) (h2 : b ≠ g) (ht : t < lo) (hg : g < lo) : BoxM W' b lo m := by
  obtain ⟨vV, vB, vS, hb, h3, h4, h5⟩ := h.at_
  have hk : ∀ k, lo ≤ k → ¬ (k = t ∨ k = g) := fun k hk hs => by rcases hs with rfl | rfl <;> omega
  exact ⟨vV, vB, vS, T.keep hb h1 h2, Kd.V_kept h3 T.kept hk, Kd.V_kept h4 T.kept hk, Kd.V_kept h5 T.kept hk⟩
theorem BoxM.n {W : World} {b lo : Nat} {m : Mg} (h : BoxM W b lo m) (hb : b < lo) (x : Int) : BoxM (W.setCell ⟨b, 1, none⟩ (.int .u64 x)) b lo { m with n := x } := by
  obtain ⟨vV, vB, vS, h1, h3, h4, h5⟩ := h.at_
  have hk : ∀ k, lo ≤ k → k ≠ (⟨b, 1, none⟩ : Addr).block := fun k hk => by show k ≠ b; omega
  exact ⟨vV, vB, vS, by simpa using blk_set h1 1 (.int .u64 x), Kd.V_far h3 hk _, Kd.V_far h4 hk _, Kd.V_far h5 hk _⟩
theorem BoxM.r {W : World} {b lo : Nat} {m : Mg} (h : BoxM W b lo m) (hb : b < lo) (x : Int) : BoxM (W.setCell ⟨b, 2, none⟩ (.int .i64 x)) b lo { m with r := x } := by
  obtain ⟨vV, vB, vS, h1, h3, h4, h5⟩ := h.at_
  have hk : ∀ k, lo ≤ k → k ≠ (⟨b, 2, none⟩ : Addr).block := fun k hk => by show k ≠ b; omega
  exact ⟨vV, vB, vS, by simpa using blk_set h1 2 (.int .i64 x), Kd.V_far h3 hk _, Kd.V_far h4 hk _, Kd.V_far h5 hk _⟩
theorem BoxM.first {W : World} {b lo : Nat} {m : Mg} (h : BoxM W b lo m) (hb : b < lo) (x : Int) : BoxM (W.setCell ⟨b, 3, none⟩ (.int .u64 x)) b lo { m with first := x } := by
  obtain ⟨vV, vB, vS, h1, h3, h4, h5⟩ := h.at_
  have hk : ∀ k, lo ≤ k → k ≠ (⟨b, 3, none⟩ : Addr).block := fun k hk => by show k ≠ b; omega
  exact ⟨vV, vB, vS, by simpa using blk_set h1 3 (.int .u64 x), Kd.V_far h3 hk _, Kd.V_far h4 hk _, Kd.V_far h5 hk _⟩
theorem BoxM.last {W : World} {b lo : Nat} {m : Mg} (h : BoxM W b lo m) (hb : b < lo) (x : Int) : BoxM (W.setCell ⟨b, 4, none⟩ (.int .u64 x)) b lo { m with last := x } := by
  obtain ⟨vV, vB, vS, h1, h3, h4, h5⟩ := h.at_
  have hk : ∀ k, lo ≤ k → k ≠ (⟨b, 4, none⟩ : Addr).block := fun k hk => by show k ≠ b; omega
  exact ⟨vV, vB, vS, by simpa using blk_set h1 4 (.int .u64 x), Kd.V_far h3 hk _, Kd.V_far h4 hk _, Kd.V_far h5 hk _⟩
theorem BoxM.commit {W : World} {b lo : Nat} {m : Mg} (h : BoxM W b lo m) (hb : b < lo) (x : Int) : BoxM (W.setCell ⟨b, 5, none⟩ (.int .u64 x)) b lo { m with commit := x } := by
  obtain ⟨vV, vB, vS, h1, h3, h4, h5⟩ := h.at_
  have hk : ∀ k, lo ≤ k → k ≠ (⟨b, 5, none⟩ : Addr).block := fun k hk => by show k ≠ b; omega
  exact ⟨vV, vB, vS, by simpa using blk_set h1 5 (.int .u64 x), Kd.V_far h3 hk _, Kd.V_far h4 hk _, Kd.V_far h5 hk _⟩
theorem BoxM.V {W : World} {b lo : Nat} {m : Mg} (h : BoxM W b lo m) (hb : b < lo) {v : Value} {x : List S52} {lo2 : Nat} (hv : Kd.V k52 52 W lo2 (fun k => lo ≤ k) v x) : BoxM (W.setCell ⟨b, 6, none⟩ v) b lo { m with V := x } := by
  obtain ⟨vV, vB, vS, h1, h3, h4, h5⟩ := h.at_
  have hk : ∀ k, lo ≤ k → k ≠ (⟨b, 6, none⟩ : Addr).block := fun k hk => by show k ≠ b; omega
  exact ⟨v, vB, vS, by simpa using blk_set h1 6 v, Kd.V_far (Kd.V_map hv (fun _ hf => hf)) hk _, Kd.V_far h4 hk _, Kd.V_far h5 hk _⟩
theorem BoxM.B {W : World} {b lo : Nat} {m : Mg} (h : BoxM W b lo m) (hb : b < lo) {v : Value} {x : List (List Int)} {lo2 : Nat} (hv : Kd.V (Kd.slice 5 (Kd.int .u8)) 27 W lo2 (fun k => lo ≤ k) v x) : BoxM (W.setCell ⟨b, 7, none⟩ v) b lo { m with B := x } := by
  obtain ⟨vV, vB, vS, h1, h3, h4, h5⟩ := h.at_
  have hk : ∀ k, lo ≤ k → k ≠ (⟨b, 7, none⟩ : Addr).block := fun k hk => by show k ≠ b; omega
  exact ⟨vV, v, vS, by simpa using blk_set h1 7 v, Kd.V_far h3 hk _, Kd.V_far (Kd.V_map hv (fun _ hf => hf)) hk _, Kd.V_far h5 hk _⟩
theorem BoxM.S {W : World} {b lo : Nat} {m : Mg} (h : BoxM W b lo m) (hb : b < lo) {v : Value} {x : List Int} {lo2 : Nat} (hv : Kd.V (Kd.int .u8) 5 W lo2 (fun k => lo ≤ k) v x) : BoxM (W.setCell ⟨b, 8, none⟩ v) b lo { m with S := x } := by
  obtain ⟨vV, vB, vS, h1, h3, h4, h5⟩ := h.at_
  have hk : ∀ k, lo ≤ k → k ≠ (⟨b, 8, none⟩ : Addr).block := fun k hk => by show k ≠ b; omega
  exact ⟨vV, vB, v, by simpa using blk_set h1 8 v, Kd.V_far h3 hk _, Kd.V_far h4 hk _, Kd.V_far (Kd.V_map hv (fun _ hf => hf)) hk _⟩
theorem set9 {W : World} {r : Nat} {a0 a1 a2 a3 a4 a5 a6 a7 a8 : Value} {t : TypeId} (h0 : W.heap[r]? = some (.cells #[a0, a1, a2, a3, a4, a5, a6, a7, a8] t (0, 0))) (v0 v1 v2 v3 v4 v5 v6 v7 v8 : Value) :
    (((((((((W.setCell ⟨r, 0, none⟩ v0).setCell ⟨r, 1, none⟩ v1).setCell ⟨r, 2, none⟩ v2).setCell ⟨r, 3, none⟩ v3).setCell ⟨r, 4, none⟩ v4).setCell ⟨r, 5, none⟩ v5).setCell ⟨r, 6, none⟩ v6).setCell ⟨r, 7, none⟩ v7).setCell ⟨r, 8, none⟩ v8).heap[r]? = some (.cells #[v0, v1, v2, v3, v4, v5, v6, v7, v8] t (0, 0)) ∧ W.grownBy (((((((((W.setCell ⟨r, 0, none⟩ v0).setCell ⟨r, 1, none⟩ v1).setCell ⟨r, 2, none⟩ v2).setCell ⟨r, 3, none⟩ v3).setCell ⟨r, 4, none⟩ v4).setCell ⟨r, 5, none⟩ v5).setCell ⟨r, 6, none⟩ v6).setCell ⟨r, 7, none⟩ v7).setCell ⟨r, 8, none⟩ v8) (some r) := by
  have g0 := grown_refl W (some r)
  have h1 : (W.setCell ⟨r, 0, none⟩ v0).heap[r]? = some (.cells #[v0, a1, a2, a3, a4, a5, a6, a7, a8] t (0, 0)) := by simpa using blk_set h0 0 v0
  have g1 : W.grownBy (W.setCell ⟨r, 0, none⟩ v0) (some r) := grown_trans g0 (grown_cell (blk_lt h0) 0 v0)
  have h2 : ((W.setCell ⟨r, 0, none⟩ v0).setCell ⟨r, 1, none⟩ v1).heap[r]? = some (.cells #[v0, v1, a2, a3, a4, a5, a6, a7, a8] t (0, 0)) := by simpa using blk_set h1 1 v1
  have g2 : W.grownBy ((W.setCell ⟨r, 0, none⟩ v0).setCell ⟨r, 1, none⟩ v1) (some r) := grown_trans g1 (grown_cell (blk_lt h1) 1 v1)
  have h3 : (((W.setCell ⟨r, 0, none⟩ v0).setCell ⟨r, 1, none⟩ v1).setCell ⟨r, 2, none⟩ v2).heap[r]? = some (.cells #[v0, v1, v2, a3, a4, a5, a6, a7, a8] t (0, 0)) := by simpa using blk_set h2 2 v2
  have g3 : W.grownBy (((W.setCell ⟨r, 0, none⟩ v0).setCell ⟨r, 1, none⟩ v1).setCell ⟨r, 2, none⟩ v2) (some r) := grown_trans g2 (grown_cell (blk_lt h2) 2 v2)
  have h4 : ((((W.setCell ⟨r, 0, none⟩ v0).setCell ⟨r, 1, none⟩ v1).setCell ⟨r, 2, none⟩ v2).setCell ⟨r, 3, none⟩ v3).heap[r]? = some (.cells #[v0, v1, v2, v3, a4, a5, a6, a7, a8] t (0, 0)) := by simpa using blk_set h3 3 v3
  have g4 : W.grownBy ((((W.setCell ⟨r, 0, none⟩ v0).setCell ⟨r, 1, none⟩ v1).setCell ⟨r, 2, none⟩ v2).setCell ⟨r, 3, none⟩ v3) (some r) := grown_trans g3 (grown_cell (blk_lt h3) 3 v3)
  have h5 : (((((W.setCell ⟨r, 0, none⟩ v0).setCell ⟨r, 1, none⟩ v1).setCell ⟨r, 2, none⟩ v2).setCell ⟨r, 3, none⟩ v3).setCell ⟨r, 4, none⟩ v4).heap[r]? = some (.cells #[v0, v1, v2, v3, v4, a5, a6, a7, a8] t (0, 0)) := by simpa using blk_set h4 4 v4
  have g5 : W.grownBy (((((W.setCell ⟨r, 0, none⟩ v0).setCell ⟨r, 1, none⟩ v1).setCell ⟨r, 2, none⟩ v2).setCell ⟨r, 3, none⟩ v3).setCell ⟨r, 4, none⟩ v4) (some r) := grown_trans g4 (grown_cell (blk_lt h4) 4 v4)
  have h6 : ((((((W.setCell ⟨r, 0, none⟩ v0).setCell ⟨r, 1, none⟩ v1).setCell ⟨r, 2, none⟩ v2).setCell ⟨r, 3, none⟩ v3).setCell ⟨r, 4, none⟩ v4).setCell ⟨r, 5, none⟩ v5).heap[r]? = some (.cells #[v0, v1, v2, v3, v4, v5, a6, a7, a8] t (0, 0)) := by simpa using blk_set h5 5 v5
  have g6 : W.grownBy ((((((W.setCell ⟨r, 0, none⟩ v0).setCell ⟨r, 1, none⟩ v1).setCell ⟨r, 2, none⟩ v2).setCell ⟨r, 3, none⟩ v3).setCell ⟨r, 4, none⟩ v4).setCell ⟨r, 5, none⟩ v5) (some r) := grown_trans g5 (grown_cell (blk_lt h5) 5 v5)
  have h7 : (((((((W.setCell ⟨r, 0, none⟩ v0).setCell ⟨r, 1, none⟩ v1).setCell ⟨r, 2, none⟩ v2).setCell ⟨r, 3, none⟩ v3).setCell ⟨r, 4, none⟩ v4).setCell ⟨r, 5, none⟩ v5).setCell ⟨r, 6, none⟩ v6).heap[r]? = some (.cells #[v0, v1, v2, v3, v4, v5, v6, a7, a8] t (0, 0)) := by simpa using blk_set h6 6 v6
  have g7 : W.grownBy (((((((W.setCell ⟨r, 0, none⟩ v0).setCell ⟨r, 1, none⟩ v1).setCell ⟨r, 2, none⟩ v2).setCell ⟨r, 3, none⟩ v3).setCell ⟨r, 4, none⟩ v4).setCell ⟨r, 5, none⟩ v5).setCell ⟨r, 6, none⟩ v6) (some r) := grown_trans g6 (grown_cell (blk_lt h6) 6 v6)
  have h8 : ((((((((W.setCell ⟨r, 0, none⟩ v0).setCell ⟨r, 1, none⟩ v1).setCell ⟨r, 2, none⟩ v2).setCell ⟨r, 3, none⟩ v3).setCell ⟨r, 4, none⟩ v4).setCell ⟨r, 5, none⟩ v5).setCell ⟨r, 6, none⟩ v6).setCell ⟨r, 7, none⟩ v7).heap[r]? = some (.cells #[v0, v1, v2, v3, v4, v5, v6, v7, a8] t (0, 0)) := by simpa using blk_set h7 7 v7
  have g8 : W.grownBy ((((((((W.setCell ⟨r, 0, none⟩ v0).setCell ⟨r, 1, none⟩ v1).setCell ⟨r, 2, none⟩ v2).setCell ⟨r, 3, none⟩ v3).setCell ⟨r, 4, none⟩ v4).setCell ⟨r, 5, none⟩ v5).setCell ⟨r, 6, none⟩ v6).setCell ⟨r, 7, none⟩ v7) (some r) := grown_trans g7 (grown_cell (blk_lt h7) 7 v7)
  have h9 : (((((((((W.setCell ⟨r, 0, none⟩ v0).setCell ⟨r, 1, none⟩ v1).setCell ⟨r, 2, none⟩ v2).setCell ⟨r, 3, none⟩ v3).setCell ⟨r, 4, none⟩ v4).setCell ⟨r, 5, none⟩ v5).setCell ⟨r, 6, none⟩ v6).setCell ⟨r, 7, none⟩ v7).setCell ⟨r, 8, none⟩ v8).heap[r]? = some (.cells #[v0, v1, v2, v3, v4, v5, v6, v7, v8] t (0, 0)) := by simpa using blk_set h8 8 v8
  have g9 : W.grownBy (((((((((W.setCell ⟨r, 0, none⟩ v0).setCell ⟨r, 1, none⟩ v1).setCell ⟨r, 2, none⟩ v2).setCell ⟨r, 3, none⟩ v3).setCell ⟨r, 4, none⟩ v4).setCell ⟨r, 5, none⟩ v5).setCell ⟨r, 6, none⟩ v6).setCell ⟨r, 7, none⟩ v7).setCell ⟨r, 8, none⟩ v8) (some r) := grown_trans g8 (grown_cell (blk_lt h8) 8 v8)
  exact ⟨h9, g9⟩
theorem row_two {W W' : World} {g2 k t g : Nat} (h : ∀ j : Nat, j < (fldI k).length → W.cell? ⟨g2, j, none⟩ = some (.int .u8 ((fldI k).getD j 0))) (T : Two W W' t g) (h1 : g2 ≠ t) (h2 : g2 ≠ g) :
    ∀ j : Nat, j < (fldI k).length → W'.cell? ⟨g2, j, none⟩ = some (.int .u8 ((fldI k).getD j 0)) := by
  intro j hj
  have h3 := h j hj
  exact (World.cell?_of_block (a := ⟨g2, j, none⟩) (T.block g2 (World.block_lt_of_cell? W _ h3) h1 h2)).trans h3
theorem row_set {W : World} {g2 k b : Nat} (h : ∀ j : Nat, j < (fldI k).length → W.cell? ⟨g2, j, none⟩ = some (.int .u8 ((fldI k).getD j 0))) (hne : g2 ≠ b) (i : Nat) (u : Value) :
    ∀ j : Nat, j < (fldI k).length → (W.setCell ⟨b, i, none⟩ u).cell? ⟨g2, j, none⟩ = some (.int .u8 ((fldI k).getD j 0)) := by
  intro j hj
  exact (World.cell?_of_block (a := ⟨g2, j, none⟩) (Below.heap_setCell W ⟨b, i, none⟩ u g2 hne)).trans (h j hj)
def m0 (k : Int) : Mg := ⟨k, 0, 0, 0, 0, 0, [], [], []⟩
set_option maxHeartbeats 1000000 in
set_option maxRecDepth 100000 in
theorem take_calls (w0 W : World) (t g : Nat) (s : TS) (h : Tk w0 W t g s) (hF : Fine s.r) (T : Tabs W) (kI : Int) (k : Nat) (hkI : kI = k) (hk : k < 9) :
    Calls Tryd.prog 38 #[.pointer (some ⟨t, 0, none⟩), .agg #[.int .u8 kI, .int .u64 0, .int .i64 0, .int .u64 0, .int .u64 0, .int .u64 0, .slice none 0 0, .slice none 0 0, .slice none 0 0]] W fun e w' =>
      ∃ vV vB vS, e = .returned (.agg #[.int .u8 k, .int .u64 (takesF (fldI k) (m0 k, s)).1.n, .int .i64 (takesF (fldI k) (m0 k, s)).1.r, .int .u64 (takesF (fldI k) (m0 k, s)).1.first, .int .u64 (takesF (fldI k) (m0 k, s)).1.last, .int .u64 (takesF (fldI k) (m0 k, s)).1.commit, vV, vB, vS]) ∧
        Kd.V k52 52 w' W.heap.size (fun k => W.heap.size ≤ k) vV (takesF (fldI k) (m0 k, s)).1.V ∧ Kd.V (Kd.slice 5 (Kd.int .u8)) 27 w' W.heap.size (fun k => W.heap.size ≤ k) vB (takesF (fldI k) (m0 k, s)).1.B ∧ Kd.V (Kd.int .u8) 5 w' W.heap.size (fun k => W.heap.size ≤ k) vS (takesF (fldI k) (m0 k, s)).1.S ∧
        Tk w0 w' t g (takesF (fldI k) (m0 k, s)).2 ∧ Two W w' t g := by
  subst hkI
  obtain ⟨W1, hW1⟩ : ∃ W1, (W.alloc (.cells #[.int .u8 k, .int .u64 0, .int .i64 0, .int .u64 0, .int .u64 0, .int .u64 0, .slice none 0 0, .slice none 0 0, .slice none 0 0] 29)).alloc (.cells #[.int .u8 0, .int .u64 0, .int .i64 0, .int .u64 0, .int .u64 0, .int .u64 0, .slice none 0 0, .slice none 0 0, .slice none 0 0] 29) = W1 := ⟨_, rfl⟩
  have hB1 : Below W.heap.size W W1 := by rw [← hW1]; exact bel2 W _ _
  have hs1 : W1.heap.size = W.heap.size + 2 := by rw [← hW1]; simp
  have hb1 : W1.heap[W.heap.size]? = some (.cells #[.int .u8 k, .int .u64 0, .int .i64 0, .int .u64 0, .int .u64 0, .int .u64 0, .slice none 0 0, .slice none 0 0, .slice none 0 0] 29 (0, 0)) := by rw [← hW1]; exact blk_alloc (heap_alloc_new W _) _
  have hr1 : W1.heap[W.heap.size + 1]? = some (.cells #[.int .u8 0, .int .u64 0, .int .i64 0, .int .u64 0, .int .u64 0, .int .u64 0, .slice none 0 0, .slice none 0 0, .slice none 0 0] 29 (0, 0)) := by
    rw [← hW1]
    have := heap_alloc_new (W.alloc (.cells #[.int .u8 k, .int .u64 0, .int .i64 0, .int .u64 0, .int .u64 0, .int .u64 0, .slice none 0 0, .slice none 0 0, .slice none 0 0] 29)) (.cells #[.int .u8 0, .int .u64 0, .int .i64 0, .int .u64 0, .int .u64 0, .int .u64 0, .slice none 0 0, .slice none 0 0, .slice none 0 0] 29)
    simpa using this
  have hc := (T.below hB1).f k hk
  obtain ⟨W2, g2, cp, hcv, hb2, hrow, hg2⟩ := conv_bytes W1 k
  have hs2 : W.heap.size + 3 ≤ W2.heap.size ∨ (fldI k).length = 0 := by
    by_cases hl : (fldI k).length = 0
    · exact .inr hl
    · left
      have := World.block_lt_of_cell? W2 _ (hrow 0 (by omega))
      have h4 : (⟨g2, 0, none⟩ : Addr).block = g2 := rfl
      omega
  have hlt := h.lt
  have hX : Aside0 (BoxM W2 W.heap.size W1.heap.size (m0 k)) := Aside0.mk (show BoxM W2 W.heap.size W1.heap.size (m0 k) from ⟨_, _, _, blk_below hb1 hb2, Kd.V_nil _ _ _ _ _, Kd.V_nil _ _ _ _ _, Kd.V_nil _ _ _ _ _⟩)
  have hRs := Aside0.mk (blk_below hr1 hb2)
  have hT := Aside0.mk ((h.below hB1).below hb2)
  have h2 := Aside0.mk ((Two.of_below hB1 t g).trans (Two.of_below hb2 t g))
  have hrow' := Aside0.mk hrow
  have hF' := Aside0.mk hF
  have hlt' := Aside0.mk hlt
  have hg2' := Aside0.mk hg2
  have hs1' := Aside0.mk hs1
  have hbs := Aside0.mk h.rd.bel.size
  have hbt := Aside0.mk (show t ≠ W.heap.size by omega)
  have hbg := Aside0.mk (show g ≠ W.heap.size by omega)
  have hrt := Aside0.mk (show t ≠ W.heap.size + 1 by omega)
  have hrg := Aside0.mk (show g ≠ W.heap.size + 1 by omega)
  have hg2t := Aside0.mk (show g2 ≠ t by omega)
  have hg2g := Aside0.mk (show g2 ≠ g by omega)
  have hg2b := Aside0.mk (show g2 ≠ W.heap.size by omega)
  have hlt2 := Aside0.mk (show t < W.heap.size + 2 ∧ g < W.heap.size + 2 by omega)
  have hbl := Aside0.mk (show W.heap.size < W.heap.size + 2 by omega)
  have hbs2 := Aside0.mk h.rd.bel.size
  have hlo0 := Aside0.mk (show W.heap.size + 2 ≤ W2.heap.size by have := hb2.size; omega)
  rw [hs1] at hX
  clear h hF T hB1 hb1 hr1 hb2 hrow hs2 hlt hg2 hs1
  subst hW1
  go_enter Tryd.func38, Tryd.ntmps38
  go_wp2
  go_loopg [13] ((fldI k).length + 1) (fun kq v13 w' => ∃ (x : Int) (m1 : Mg) (s2 : TS), v13 = .int .i64 x ∧ Aside0 (kq + x.toNat = (fldI k).length + 1 ∧ 0 ≤ x ∧ x ≤ (fldI k).length) ∧ Aside0 (takesF ((fldI k).take x.toNat) (m0 k, s) = (m1, s2)) ∧ Aside0 (Tk w0 w' t g s2) ∧ Aside0 (Fine s2.r) ∧ Aside0 (BoxM w' W.heap.size (W.heap.size + 2) m1) ∧ Aside0 (w'.heap[W.heap.size + 1]? = some (.cells #[.int .u8 0, .int .u64 0, .int .i64 0, .int .u64 0, .int .u64 0, .int .u64 0, .slice none 0 0, .slice none 0 0, .slice none 0 0] 29 (0, 0))) ∧ Aside0 (∀ j : Nat, j < (fldI k).length → w'.cell? ⟨g2, j, none⟩ = some (.int .u8 ((fldI k).getD j 0))) ∧ Aside0 (Two W w' t g) ∧ Aside0 (W.heap.size + 2 ≤ w'.heap.size))
  case atStart => exact ⟨0, m0 k, s, rfl, ⟨rfl, by omega, by omega⟩, ⟨rfl⟩, hT, hF', hX, hRs, hrow', h2, hlo0⟩
  case round =>
    clear hX hT h2 hrow' hF' hRs hc hcv hlo0
    obtain ⟨x, m1, s2, rfl, hq, hp, HT, HF, HX, HS, HR, T2, hlo⟩ := hrel
    by_cases q0 : x < ((fldI k).length : Int)
    · have p0 : 0 ≤ x := hq.out.2.1
      have hx0 : x.toNat < (fldI k).length := by omega
      have hx := HR.out x.toNat hx0
      have hk1 := Aside0.mk (takes_take (fldI k) (m0 k, s) x.toNat hx0)
      have hlf := Aside0.mk (less_takeF ((fldI k).getD x.toNat 0) (m1, s2))
      have ht0 := (blk_cell HT.out.box 0).trans rfl
      have c0 : decide (x < ((fldI k).length : Int)) = true := decide_eq_true q0
      replace p0 := eq_true p0
      replace q0 := eq_true q0
      have hLn := Aside0.mk (fldI_short hk)
      rcases fldI_get hk x.toNat hx0 with hcc0 | hcc0 | hcc0 | hcc0 | hcc0 | hcc0 | hcc0
      · have hx1 : wr.cell? ⟨g2, x.toNat, none⟩ = some (.int .u8 98) := by rw [hx, hcc0]
        have hcc := Aside0.mk hcc0
        clear hx hcc0 hx0 hk
        repeat (first
          | ((with_reducible refine gate_callee (f := 59) rfl ?_); (with_reducible refine gate_dst (N := 21) rfl ?_); refine goesL_ (some 21) rfl rfl Tryd.func59 (by kernel_rfl) rfl #[.pointer (some ⟨t, 0, none⟩)] rfl (by (try simp only [List.map_toArray, List.map_cons, List.map_nil]); first | done | rfl) ?_; refine (tbal_calls w0 wr t g s2 HT.out HF.out).mono ?_; rintro e w1 ⟨rfl, HT1, T1_⟩; refine ⟨_, rfl, ?_⟩; have T1 := Aside0.mk T1_; have HX1 := Aside0.mk (HX.out.two T1.out hbt.out.symm hbg.out.symm hlt2.out.1 hlt2.out.2); have HS1 := Aside0.mk (T1.out.keep HS.out hrt.out.symm hrg.out.symm); have HR1 := Aside0.mk (row_two HR.out T1.out hg2t.out hg2g.out); obtain ⟨vV, vB, vS, hbx, hb6, hb7, hb8⟩ := HX1.out.at_; have hy1 := (blk_cell hbx 1).trans rfl; have hz1 := blk_frozen hbx 1; have hy2 := (blk_cell hbx 2).trans rfl; have hz2 := blk_frozen hbx 2; clear hbx hb6 hb7 hb8; (try clear ht0); clear T1_; (try dsimp only))
          | go_step)
        have hk := of_eq_true q0
        have hw : x + 1 = wrap64 (x + 1) := by
          unfold wrap64
          have := hq.out
          have := hLn.out
          omega
        have ht : (x + 1).toNat = x.toNat + 1 := by
          have := hq.out
          omega
        go_roundg (gk - 1)
        case measure => have := hq.out; omega
        case rel =>
          have hfi : Fine (takeF 98 (m1, s2)).2.r := by rw [← hcc.out]; exact HF.out.less hlf.out
          refine ⟨x + 1, (takeF 98 (m1, s2)).1, (takeF 98 (m1, s2)).2, by rw [← hw], ⟨?_, by omega, by omega⟩, ⟨?_⟩, ⟨?_⟩, ⟨hfi⟩, ⟨?_⟩, ⟨?_⟩, ⟨?_⟩, ⟨?_⟩, ⟨?_⟩⟩
          · have := hq.out
            omega
          · rw [ht, ← hk1.out, hcc.out, hp.out]
          · exact (HT1.set hbs2.out hbg.out hbt.out 1 _).set hbs2.out hbg.out hbt.out 2 _
          · exact (HX1.out.n hbl.out _).r hbl.out _
          · exact blk_set_far (blk_set_far HS1.out (Nat.ne_of_gt (Nat.lt_succ_self _)) 1 _) (Nat.ne_of_gt (Nat.lt_succ_self _)) 2 _
          · exact row_set (row_set HR1.out hg2b.out 1 _) hg2b.out 2 _
          · exact (T2.out.trans T1.out).set_new (Nat.le_refl _) 1 _ |>.set_new (Nat.le_refl _) 2 _
          · exact Nat.le_trans hlo.out (by simpa [World.setCell] using T1.out.size)
      · have hx1 : wr.cell? ⟨g2, x.toNat, none⟩ = some (.int .u8 99) := by rw [hx, hcc0]
        have hcc := Aside0.mk hcc0
        clear hx hcc0 hx0 hk
        repeat (first
          | ((with_reducible refine gate_callee (f := 37) rfl ?_); (with_reducible refine gate_dst (N := 29) rfl ?_); refine goesL_ (some 29) rfl rfl Tryd.func37 (by kernel_rfl) rfl #[.pointer (some ⟨g, 0, none⟩)] rfl (by (try simp only [List.map_toArray, List.map_cons, List.map_nil]); first | done | rfl) ?_; refine (ruint_calls w0 wr g s2.r HT.out.rd HF.out.fits HF.out.bys).mono ?_; rintro e w1 ⟨rfl, HR1_, G1⟩; refine ⟨_, rfl, ?_⟩; have HT1 := HT.out.read HR1_ G1; have T1 := Aside0.mk (Two.of_g G1 t); have HX1 := Aside0.mk (HX.out.two T1.out hbt.out.symm hbg.out.symm hlt2.out.1 hlt2.out.2); have HS1 := Aside0.mk (T1.out.keep HS.out hrt.out.symm hrg.out.symm); have HR1 := Aside0.mk (row_two HR.out T1.out hg2t.out hg2g.out); obtain ⟨vV, vB, vS, hbx, hb6, hb7, hb8⟩ := HX1.out.at_; have hy5 := (blk_cell hbx 5).trans rfl; have hz5 := blk_frozen hbx 5; clear hbx hb6 hb7 hb8; (try clear ht0); clear HR1_ G1; (try dsimp only))
          | go_step)
        have hk := of_eq_true q0
        have hw : x + 1 = wrap64 (x + 1) := by
          unfold wrap64
          have := hq.out
          have := hLn.out
          omega
        have ht : (x + 1).toNat = x.toNat + 1 := by
          have := hq.out
          omega
        go_roundg (gk - 1)
        case measure => have := hq.out; omega
        case rel =>
          have hfi : Fine (takeF 99 (m1, s2)).2.r := by rw [← hcc.out]; exact HF.out.less hlf.out
          refine ⟨x + 1, (takeF 99 (m1, s2)).1, (takeF 99 (m1, s2)).2, by rw [← hw], ⟨?_, by omega, by omega⟩, ⟨?_⟩, ⟨?_⟩, ⟨hfi⟩, ⟨?_⟩, ⟨?_⟩, ⟨?_⟩, ⟨?_⟩, ⟨?_⟩⟩
          · have := hq.out
            omega
          · rw [ht, ← hk1.out, hcc.out, hp.out]
          · exact HT1.set hbs2.out hbg.out hbt.out 5 _
          · exact HX1.out.commit hbl.out _
          · exact blk_set_far HS1.out (Nat.ne_of_gt (Nat.lt_succ_self _)) 5 _
          · exact row_set HR1.out hg2b.out 5 _
          · exact (T2.out.trans T1.out).set_new (Nat.le_refl _) 5 _
          · exact Nat.le_trans hlo.out (by simpa [World.setCell] using T1.out.size)
      · have hx1 : wr.cell? ⟨g2, x.toNat, none⟩ = some (.int .u8 102) := by rw [hx, hcc0]
        have hcc := Aside0.mk hcc0
        clear hx hcc0 hx0 hk
        repeat (first
          | ((with_reducible refine gate_callee (f := 37) rfl ?_); (with_reducible refine gate_dst (N := 37) rfl ?_); refine goesL_ (some 37) rfl rfl Tryd.func37 (by kernel_rfl) rfl #[.pointer (some ⟨g, 0, none⟩)] rfl (by (try simp only [List.map_toArray, List.map_cons, List.map_nil]); first | done | rfl) ?_; refine (ruint_calls w0 wr g s2.r HT.out.rd HF.out.fits HF.out.bys).mono ?_; rintro e w1 ⟨rfl, HR1_, G1⟩; refine ⟨_, rfl, ?_⟩; have HT1 := HT.out.read HR1_ G1; have T1 := Aside0.mk (Two.of_g G1 t); have HX1 := Aside0.mk (HX.out.two T1.out hbt.out.symm hbg.out.symm hlt2.out.1 hlt2.out.2); have HS1 := Aside0.mk (T1.out.keep HS.out hrt.out.symm hrg.out.symm); have HR1 := Aside0.mk (row_two HR.out T1.out hg2t.out hg2g.out); obtain ⟨vV, vB, vS, hbx, hb6, hb7, hb8⟩ := HX1.out.at_; have hy3 := (blk_cell hbx 3).trans rfl; have hz3 := blk_frozen hbx 3; clear hbx hb6 hb7 hb8; (try clear ht0); clear HR1_ G1; (try dsimp only))
          | go_step)
        have hk := of_eq_true q0
        have hw : x + 1 = wrap64 (x + 1) := by
          unfold wrap64
          have := hq.out
          have := hLn.out
          omega
        have ht : (x + 1).toNat = x.toNat + 1 := by
          have := hq.out
          omega
        go_roundg (gk - 1)
        case measure => have := hq.out; omega
        case rel =>
          have hfi : Fine (takeF 102 (m1, s2)).2.r := by rw [← hcc.out]; exact HF.out.less hlf.out
          refine ⟨x + 1, (takeF 102 (m1, s2)).1, (takeF 102 (m1, s2)).2, by rw [← hw], ⟨?_, by omega, by omega⟩, ⟨?_⟩, ⟨?_⟩, ⟨hfi⟩, ⟨?_⟩, ⟨?_⟩, ⟨?_⟩, ⟨?_⟩, ⟨?_⟩⟩
          · have := hq.out
            omega
          · rw [ht, ← hk1.out, hcc.out, hp.out]
          · exact HT1.set hbs2.out hbg.out hbt.out 3 _
          · exact HX1.out.first hbl.out _
          · exact blk_set_far HS1.out (Nat.ne_of_gt (Nat.lt_succ_self _)) 3 _
          · exact row_set HR1.out hg2b.out 3 _
          · exact (T2.out.trans T1.out).set_new (Nat.le_refl _) 3 _
          · exact Nat.le_trans hlo.out (by simpa [World.setCell] using T1.out.size)
      · have hx1 : wr.cell? ⟨g2, x.toNat, none⟩ = some (.int .u8 108) := by rw [hx, hcc0]
        have hcc := Aside0.mk hcc0
        clear hx hcc0 hx0 hk
        repeat (first
          | ((with_reducible refine gate_callee (f := 37) rfl ?_); (with_reducible refine gate_dst (N := 45) rfl ?_); refine goesL_ (some 45) rfl rfl Tryd.func37 (by kernel_rfl) rfl #[.pointer (some ⟨g, 0, none⟩)] rfl (by (try simp only [List.map_toArray, List.map_cons, List.map_nil]); first | done | rfl) ?_; refine (ruint_calls w0 wr g s2.r HT.out.rd HF.out.fits HF.out.bys).mono ?_; rintro e w1 ⟨rfl, HR1_, G1⟩; refine ⟨_, rfl, ?_⟩; have HT1 := HT.out.read HR1_ G1; have T1 := Aside0.mk (Two.of_g G1 t); have HX1 := Aside0.mk (HX.out.two T1.out hbt.out.symm hbg.out.symm hlt2.out.1 hlt2.out.2); have HS1 := Aside0.mk (T1.out.keep HS.out hrt.out.symm hrg.out.symm); have HR1 := Aside0.mk (row_two HR.out T1.out hg2t.out hg2g.out); obtain ⟨vV, vB, vS, hbx, hb6, hb7, hb8⟩ := HX1.out.at_; have hy4 := (blk_cell hbx 4).trans rfl; have hz4 := blk_frozen hbx 4; clear hbx hb6 hb7 hb8; (try clear ht0); clear HR1_ G1; (try dsimp only))
          | go_step)
        have hk := of_eq_true q0
        have hw : x + 1 = wrap64 (x + 1) := by
          unfold wrap64
          have := hq.out
          have := hLn.out
          omega
        have ht : (x + 1).toNat = x.toNat + 1 := by
          have := hq.out
          omega
        go_roundg (gk - 1)
        case measure => have := hq.out; omega
        case rel =>
          have hfi : Fine (takeF 108 (m1, s2)).2.r := by rw [← hcc.out]; exact HF.out.less hlf.out
          refine ⟨x + 1, (takeF 108 (m1, s2)).1, (takeF 108 (m1, s2)).2, by rw [← hw], ⟨?_, by omega, by omega⟩, ⟨?_⟩, ⟨?_⟩, ⟨hfi⟩, ⟨?_⟩, ⟨?_⟩, ⟨?_⟩, ⟨?_⟩, ⟨?_⟩⟩
          · have := hq.out
            omega
          · rw [ht, ← hk1.out, hcc.out, hp.out]
          · exact HT1.set hbs2.out hbg.out hbt.out 4 _
          · exact HX1.out.last hbl.out _
          · exact blk_set_far HS1.out (Nat.ne_of_gt (Nat.lt_succ_self _)) 4 _
          · exact row_set HR1.out hg2b.out 4 _
          · exact (T2.out.trans T1.out).set_new (Nat.le_refl _) 4 _
          · exact Nat.le_trans hlo.out (by simpa [World.setCell] using T1.out.size)
      · have hx1 : wr.cell? ⟨g2, x.toNat, none⟩ = some (.int .u8 112) := by rw [hx, hcc0]
        have hcc := Aside0.mk hcc0
        clear hx hcc0 hx0 hk
        repeat (first
          | ((with_reducible refine gate_callee (f := 60) rfl ?_); (with_reducible refine gate_dst (N := 50) rfl ?_); refine goesL_ (some 50) rfl rfl Tryd.func60 (by kernel_rfl) rfl #[.pointer (some ⟨t, 0, none⟩)] rfl (by (try simp only [List.map_toArray, List.map_cons, List.map_nil]); first | done | rfl) ?_; refine (ttext_calls w0 wr t g s2 HT.out HF.out (W.heap.size + 2)).mono ?_; rintro e w1 ⟨v, rfl, HV, HT1, T1_⟩; refine ⟨_, rfl, ?_⟩; have T1 := Aside0.mk T1_; obtain ⟨Av, cv, rfl⟩ := Kd.V_slice HV; have HV' := Aside0.mk (Kd.V_mono HV (ok' := fun k => W.heap.size + 2 ≤ k) (fun k hk => Nat.le_trans hlo.out hk)); have HX1 := Aside0.mk (HX.out.two T1.out hbt.out.symm hbg.out.symm hlt2.out.1 hlt2.out.2); have HS1 := Aside0.mk (T1.out.keep HS.out hrt.out.symm hrg.out.symm); have HR1 := Aside0.mk (row_two HR.out T1.out hg2t.out hg2g.out); obtain ⟨vV, vB, vS, hbx, hb6, hb7, hb8⟩ := HX1.out.at_; have hy8 := (blk_cell hbx 8).trans rfl; have hz8 := blk_frozen hbx 8; clear hbx hb6 hb7 hb8; (try clear ht0); clear T1_ HV; (try dsimp only))
          | go_step)
        have hk := of_eq_true q0
        have hw : x + 1 = wrap64 (x + 1) := by
          unfold wrap64
          have := hq.out
          have := hLn.out
          omega
        have ht : (x + 1).toNat = x.toNat + 1 := by
          have := hq.out
          omega
        go_roundg (gk - 1)
        case measure => have := hq.out; omega
        case rel =>
          have hfi : Fine (takeF 112 (m1, s2)).2.r := by rw [← hcc.out]; exact HF.out.less hlf.out
          refine ⟨x + 1, (takeF 112 (m1, s2)).1, (takeF 112 (m1, s2)).2, by rw [← hw], ⟨?_, by omega, by omega⟩, ⟨?_⟩, ⟨?_⟩, ⟨hfi⟩, ⟨?_⟩, ⟨?_⟩, ⟨?_⟩, ⟨?_⟩, ⟨?_⟩⟩
          · have := hq.out
            omega
          · rw [ht, ← hk1.out, hcc.out, hp.out]
          · exact HT1.set hbs2.out hbg.out hbt.out 8 _
          · exact HX1.out.S hbl.out HV'.out
          · exact blk_set_far HS1.out (Nat.ne_of_gt (Nat.lt_succ_self _)) 8 _
          · exact row_set HR1.out hg2b.out 8 _
          · exact (T2.out.trans T1.out).set_new (Nat.le_refl _) 8 _
          · exact Nat.le_trans hlo.out (by simpa [World.setCell] using T1.out.size)
      · have hx1 : wr.cell? ⟨g2, x.toNat, none⟩ = some (.int .u8 115) := by rw [hx, hcc0]
        have hcc := Aside0.mk hcc0
        clear hx hcc0 hx0 hk
        repeat (first
          | ((with_reducible refine gate_callee (f := 61) rfl ?_); (with_reducible refine gate_dst (N := 57) rfl ?_); refine goesL_ (some 57) rfl rfl Tryd.func61 (by kernel_rfl) rfl #[.pointer (some ⟨t, 0, none⟩), .int .i64 16, .func (.func 60) #[.pointer (some ⟨t, 0, none⟩)] #[]] rfl (by (try simp only [List.map_toArray, List.map_cons, List.map_nil]); first | done | rfl) ?_; refine (rows61_calls w0 wr t g s2 HT.out HF.out).mono ?_; rintro e w1 ⟨v, rfl, HV, HT1, T1_⟩; refine ⟨_, rfl, ?_⟩; have T1 := Aside0.mk T1_; obtain ⟨Av, cv, rfl⟩ := Kd.V_slice HV; have HV' := Aside0.mk (Kd.V_mono HV (ok' := fun k => W.heap.size + 2 ≤ k) (fun k hk => Nat.le_trans hlo.out hk)); have HX1 := Aside0.mk (HX.out.two T1.out hbt.out.symm hbg.out.symm hlt2.out.1 hlt2.out.2); have HS1 := Aside0.mk (T1.out.keep HS.out hrt.out.symm hrg.out.symm); have HR1 := Aside0.mk (row_two HR.out T1.out hg2t.out hg2g.out); obtain ⟨vV, vB, vS, hbx, hb6, hb7, hb8⟩ := HX1.out.at_; have hy7 := (blk_cell hbx 7).trans rfl; have hz7 := blk_frozen hbx 7; clear hbx hb6 hb7 hb8; (try clear ht0); clear T1_ HV; (try dsimp only))
          | go_step)
        have hk := of_eq_true q0
        have hw : x + 1 = wrap64 (x + 1) := by
          unfold wrap64
          have := hq.out
          have := hLn.out
          omega
        have ht : (x + 1).toNat = x.toNat + 1 := by
          have := hq.out
          omega
        go_roundg (gk - 1)
        case measure => have := hq.out; omega
        case rel =>
          have hfi : Fine (takeF 115 (m1, s2)).2.r := by rw [← hcc.out]; exact HF.out.less hlf.out
          refine ⟨x + 1, (takeF 115 (m1, s2)).1, (takeF 115 (m1, s2)).2, by rw [← hw], ⟨?_, by omega, by omega⟩, ⟨?_⟩, ⟨?_⟩, ⟨hfi⟩, ⟨?_⟩, ⟨?_⟩, ⟨?_⟩, ⟨?_⟩, ⟨?_⟩⟩
          · have := hq.out
            omega
          · rw [ht, ← hk1.out, hcc.out, hp.out]
          · exact HT1.set hbs2.out hbg.out hbt.out 7 _
          · exact HX1.out.B hbl.out HV'.out
          · exact blk_set_far HS1.out (Nat.ne_of_gt (Nat.lt_succ_self _)) 7 _
          · exact row_set HR1.out hg2b.out 7 _
          · exact (T2.out.trans T1.out).set_new (Nat.le_refl _) 7 _
          · exact Nat.le_trans hlo.out (by simpa [World.setCell] using T1.out.size)
      · have hx1 : wr.cell? ⟨g2, x.toNat, none⟩ = some (.int .u8 118) := by rw [hx, hcc0]
        have hcc := Aside0.mk hcc0
        clear hx hcc0 hx0 hk
        repeat (first
          | ((with_reducible refine gate_callee (f := 62) rfl ?_); (with_reducible refine gate_dst (N := 64) rfl ?_); refine goesL_ (some 64) rfl rfl Tryd.func62 (by kernel_rfl) rfl #[.pointer (some ⟨t, 0, none⟩), .int .i64 256, .func (.func 63) #[.pointer (some ⟨t, 0, none⟩)] #[]] rfl (by (try simp only [List.map_toArray, List.map_cons, List.map_nil]); first | done | rfl) ?_; refine (rows62_calls w0 wr t g s2 HT.out HF.out).mono ?_; rintro e w1 ⟨v, rfl, HV, HT1, T1_⟩; refine ⟨_, rfl, ?_⟩; have T1 := Aside0.mk T1_; obtain ⟨Av, cv, rfl⟩ := Kd.V_slice HV; have HV' := Aside0.mk (Kd.V_mono HV (ok' := fun k => W.heap.size + 2 ≤ k) (fun k hk => Nat.le_trans hlo.out hk)); have HX1 := Aside0.mk (HX.out.two T1.out hbt.out.symm hbg.out.symm hlt2.out.1 hlt2.out.2); have HS1 := Aside0.mk (T1.out.keep HS.out hrt.out.symm hrg.out.symm); have HR1 := Aside0.mk (row_two HR.out T1.out hg2t.out hg2g.out); obtain ⟨vV, vB, vS, hbx, hb6, hb7, hb8⟩ := HX1.out.at_; have hy6 := (blk_cell hbx 6).trans rfl; have hz6 := blk_frozen hbx 6; clear hbx hb6 hb7 hb8; (try clear ht0); clear T1_ HV; (try dsimp only))
          | go_step)
        have hk := of_eq_true q0
        have hw : x + 1 = wrap64 (x + 1) := by
          unfold wrap64
          have := hq.out
          have := hLn.out
          omega
        have ht : (x + 1).toNat = x.toNat + 1 := by
          have := hq.out
          omega
        go_roundg (gk - 1)
        case measure => have := hq.out; omega
        case rel =>
          have hfi : Fine (takeF 118 (m1, s2)).2.r := by rw [← hcc.out]; exact HF.out.less hlf.out
          refine ⟨x + 1, (takeF 118 (m1, s2)).1, (takeF 118 (m1, s2)).2, by rw [← hw], ⟨?_, by omega, by omega⟩, ⟨?_⟩, ⟨?_⟩, ⟨hfi⟩, ⟨?_⟩, ⟨?_⟩, ⟨?_⟩, ⟨?_⟩, ⟨?_⟩⟩
          · have := hq.out
            omega
          · rw [ht, ← hk1.out, hcc.out, hp.out]
          · exact HT1.set hbs2.out hbg.out hbt.out 6 _
          · exact HX1.out.V hbl.out HV'.out
          · exact blk_set_far HS1.out (Nat.ne_of_gt (Nat.lt_succ_self _)) 6 _
          · exact row_set HR1.out hg2b.out 6 _
          · exact (T2.out.trans T1.out).set_new (Nat.le_refl _) 6 _
          · exact Nat.le_trans hlo.out (by simpa [World.setCell] using T1.out.size)
    · have c0 : decide (x < ((fldI k).length : Int)) = false := decide_eq_false q0
      have hk2 : x.toNat = (fldI k).length := by have := hq.out; omega
      have hpe := hp.out
      rw [hk2, List.take_length] at hpe
      have hkk : m1.k = k := by
        have : ∀ (l : List Int) (p : Mg × TS), (takesF l p).1.k = p.1.k := by
          intro l
          induction l with
          | nil => intro p; rfl
          | cons c l ih => intro p; exact (ih _).trans (k_takeF c p)
        have h3 := this (fldI k) (m0 k, s)
        rw [hpe] at h3
        exact h3
      have hpe' := Aside0.mk hpe
      obtain ⟨vV, vB, vS, hbx, h6, h7, h8⟩ := HX.out.at_
      rw [hkk] at hbx
      obtain ⟨A6, c6, rfl⟩ := Kd.V_slice h6
      obtain ⟨A7, c7, rfl⟩ := Kd.V_slice h7
      obtain ⟨A8, c8, rfl⟩ := Kd.V_slice h8
      have h6' := Aside0.mk h6
      have h7' := Aside0.mk h7
      have h8' := Aside0.mk h8
      have hy0 := (blk_cell hbx 0).trans rfl
      have hx0 := (blk_cell HS.out 0).trans rfl
      have hz0 := blk_frozen HS.out 0
      have hy1 := (blk_cell hbx 1).trans rfl
      have hx1 := (blk_cell HS.out 1).trans rfl
      have hz1 := blk_frozen HS.out 1
      have hy2 := (blk_cell hbx 2).trans rfl
      have hx2 := (blk_cell HS.out 2).trans rfl
      have hz2 := blk_frozen HS.out 2
      have hy3 := (blk_cell hbx 3).trans rfl
      have hx3 := (blk_cell HS.out 3).trans rfl
      have hz3 := blk_frozen HS.out 3
      have hy4 := (blk_cell hbx 4).trans rfl
      have hx4 := (blk_cell HS.out 4).trans rfl
      have hz4 := blk_frozen HS.out 4
      have hy5 := (blk_cell hbx 5).trans rfl
      have hx5 := (blk_cell HS.out 5).trans rfl
      have hz5 := blk_frozen HS.out 5
      have hy6 := (blk_cell hbx 6).trans rfl
      have hx6 := (blk_cell HS.out 6).trans rfl
      have hz6 := blk_frozen HS.out 6
      have hy7 := (blk_cell hbx 7).trans rfl
      have hx7 := (blk_cell HS.out 7).trans rfl
      have hz7 := blk_frozen HS.out 7
      have hy8 := (blk_cell hbx 8).trans rfl
      have hx8 := (blk_cell HS.out 8).trans rfl
      have hz8 := blk_frozen HS.out 8
      clear q0 hk hbx h6 h7 h8 hkk hpe
      repeat go_step
      rw [hpe'.out]
      have hS9 := set9 HS.out (.int .u8 k) (.int .u64 m1.n) (.int .i64 m1.r) (.int .u64 m1.first) (.int .u64 m1.last) (.int .u64 m1.commit) (.slice A6 m1.V.length c6) (.slice A7 m1.B.length c7) (.slice A8 m1.S.length c8)
      refine bodyPost_ret (results_cell_row rfl _ _ (W.heap.size + 1) 29 _ (0, 0) _ rfl hS9.1 Tryd.underlying29 rfl (by kernel_rfl)) rfl ?_
      have hok : ∀ k, W.heap.size + 2 ≤ k → some k ≠ some (W.heap.size + 1) := fun k hk e => by have := Option.some.inj e; omega
      have hu : ∀ k, (Value.slice (some ⟨W.heap.size + 1, 0, none⟩) 0 0).ownBlock = some k → W.heap.size ≤ k := fun k hk => by have : W.heap.size + 1 = k := Option.some.inj hk; omega
      exact ⟨_, _, _, rfl, Kd.V_map (Kd.V_mono (Kd.V_grown h6'.out hS9.2 hok) (fun k hk => by omega)) (fun _ hf => hf), Kd.V_map (Kd.V_mono (Kd.V_grown h7'.out hS9.2 hok) (fun k hk => by omega)) (fun _ hf => hf), Kd.V_map (Kd.V_mono (Kd.V_grown h8'.out hS9.2 hok) (fun k hk => by omega)) (fun _ hf => hf),
        Tk_grown (u := .slice (some ⟨W.heap.size + 1, 0, none⟩) 0 0) HT.out hS9.2 hlt'.out hu, T2.out.trans_own (u := .slice (some ⟨W.heap.size + 1, 0, none⟩) 0 0) hS9.2 hu⟩
end Go.Proofs.YtfkfboigkpofkaaDoor.M
end
