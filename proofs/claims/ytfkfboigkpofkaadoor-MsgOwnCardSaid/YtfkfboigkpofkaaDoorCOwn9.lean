/- Parts of a proof, pruned and joined by flat.py out of: OB. -/
import Derived.Test.YtfkfboigkpofkaaDoorCOwn8
section
namespace Go.Proofs.YtfkfboigkpofkaaDoor.M
open Go.RowKit Go.Proofs.YtfkfboigkpofkaaDoorW.PrintWords Go.Proofs.YtfkfboigkpofkaaDoorW.PrintLast Go.Proofs.YtfkfboigkpofkaaDoorW.PrintMore Go.Proofs.YtfkfboigkpofkaaDoor.PMsgPuts
set_option linter.unusedVariables false
set_option linter.unusedSimpArgs false
set_option maxHeartbeats 1000000 in
set_option maxRecDepth 100000 in
theorem ttext_callsW (w0 W : World) (t g : Nat) (s : TS) (h : Tk w0 W t g s) (hF : Fine s.r) (base : Nat) :
    Calls Tryd.prog 60 #[.pointer (some ⟨t, 0, none⟩)] W fun e w' => ∃ v, e = .returned v ∧ V2 KW w' base (fun k => W.heap.size ≤ k) v (textT s).1 ∧ Tk w0 w' t g (textT s).2 ∧ Two W w' t g := by
  have hc := Aside0.mk (rtext_calls w0 W g s.r h.rd hF.fits hF.bys hF.lim)
  have hT := Aside0.mk h
  have hb0 := (blk_cell h.box 0).trans rfl
  have hsz := Aside0.mk (show Fits (textR s.r).1.size from by have := text_size s.r; have := hF.fits; unfold Fits at *; omega)
  clear h hF
  go_enter Tryd.func60, Tryd.ntmps60
  go_wp2_with (first | ((with_reducible refine gate_callee (f := 69) rfl ?_); (with_reducible refine gate_dst (N := 7) rfl ?_); refine goesL_ (some 7) rfl rfl Tryd.func69 (by kernel_rfl) rfl #[.pointer (some ⟨g, 0, none⟩)] rfl (by (try simp only [List.map_toArray, List.map_cons, List.map_nil]); first | done | rfl) ?_; refine (hc.out).mono ?_; rintro e w1 ⟨rfl, HR1, G1⟩; refine ⟨_, rfl, ?_⟩; have HT1 := Aside0.mk (hT.out.read HR1 G1); have G1' := Aside0.mk G1; obtain ⟨w2, v, hcv, hB2, hV⟩ := conv_W w1 (textR s.r).1 hsz.out base; have hB2' := Aside0.mk hB2; have hV' := Aside0.mk hV; clear HR1 G1 hB2 hV; (try dsimp only)))
  go_ret
  exact ⟨_, rfl, V2_mono hV'.out (fun k hk => by rw [hk]; exact G1'.out.size), HT1.out.below hB2'.out, (Two.of_g G1'.out t).trans (Two.of_below hB2'.out t g)⟩
set_option maxHeartbeats 1000000 in
set_option maxRecDepth 100000 in
theorem vote_callsW (w0 W : World) (t g : Nat) (s : TS) (h : Tk w0 W t g s) (hF : Fine s.r) (base : Nat) :
    Calls Tryd.prog 63 #[.pointer (some ⟨t, 0, none⟩)] W fun e w' => ∃ v, e = .returned (.agg #[.int .u64 (voteT s).1.f0, .int .u64 (voteT s).1.f1.f0, .int .i64 (voteT s).1.f1.f1, v]) ∧ V2 KW w' base (fun k => W.heap.size ≤ k) v (voteT s).1.f2 ∧ Tk w0 w' t g (voteT s).2 ∧ Two W w' t g := by
  obtain ⟨sr, bad⟩ := s
  obtain ⟨n, s1, h1⟩ : ∃ n s1, nR sr = (n, s1) := ⟨_, _, rfl⟩
  obtain ⟨n2, r2, s2, h2⟩ : ∃ n2 r2 s2, balT ⟨s1, bad⟩ = ((n2, r2), s2) := ⟨_, _, _, rfl⟩
  obtain ⟨l, s3, h3⟩ : ∃ l s3, textT s2 = (l, s3) := ⟨_, _, rfl⟩
  have hv : voteT ⟨sr, bad⟩ = (⟨n, ⟨n2, r2⟩, l⟩, s3) := by unfold voteT; simp only [h1, h2, h3]
  rw [hv]
  clear hv
  have hF1 : Fine s1 := by have := hF.less (less_nR sr); rwa [h1] at this
  have hF2 : Fine s2.r := by
    have := hF1.less (less_bal s1)
    have e : (balR s1).2 = s2.r := by have := congrArg (fun x => x.2.r) h2; exact this
    rwa [e] at this
  have hc1 := Aside0.mk (num_at w0 g hF.fits hF.bys h1)
  have hc2 : Aside0 (∀ V, Tk w0 V t g ⟨s1, bad⟩ → Calls Tryd.prog 59 #[.pointer (some ⟨t, 0, none⟩)] V fun e w' => e = .returned (.agg #[.int .u64 n2, .int .i64 r2]) ∧ Tk w0 w' t g s2 ∧ Two V w' t g) := by
    refine ⟨fun V hV => ?_⟩
    have := tbal_calls w0 V t g ⟨s1, bad⟩ hV hF1
    rwa [h2] at this
  have hc3 : Aside0 (∀ V, Tk w0 V t g s2 → Calls Tryd.prog 60 #[.pointer (some ⟨t, 0, none⟩)] V fun e w' => ∃ v, e = .returned v ∧ V2 KW w' base (fun k => V.heap.size ≤ k) v l ∧ Tk w0 w' t g s3 ∧ Two V w' t g) := by
    refine ⟨fun V hV => ?_⟩
    have := ttext_callsW w0 V t g s2 hV hF2 base
    rwa [h3] at this
  obtain ⟨W1, hW1⟩ : ∃ W1, (W.alloc (.cells #[.int .u64 0, .int .u64 0, .int .i64 0, .slice none 0 0] 52)).alloc (.cells #[.int .u64 0, .int .u64 0, .int .i64 0, .slice none 0 0] 52) = W1 := ⟨_, rfl⟩
  have hB1 := Aside0.mk (show Below W.heap.size W W1 by rw [← hW1]; exact bel2 W _ _)
  have hT := Aside0.mk (h.below hB1.out)
  have hr : W1.heap[W.heap.size]? = some (.cells #[.int .u64 0, .int .u64 0, .int .i64 0, .slice none 0 0] 52 (0, 0)) := by rw [← hW1]; exact blk_alloc (heap_alloc_new W _) _
  have hb : W1.heap[W.heap.size + 1]? = some (.cells #[.int .u64 0, .int .u64 0, .int .i64 0, .slice none 0 0] 52 (0, 0)) := by
    rw [← hW1]
    have := heap_alloc_new (W.alloc (.cells #[.int .u64 0, .int .u64 0, .int .i64 0, .slice none 0 0] 52)) (.cells #[.int .u64 0, .int .u64 0, .int .i64 0, .slice none 0 0] 52)
    simpa using this
  have hlt := h.lt
  have hbs := Aside0.mk h.rd.bel.size
  have hr' := Aside0.mk hr
  have hb' := Aside0.mk hb
  have hrt : t ≠ W.heap.size := by omega
  have hrg : g ≠ W.heap.size := by omega
  have hbt : t ≠ W.heap.size + 1 := by omega
  have hbg : g ≠ W.heap.size + 1 := by omega
  have hlt' := Aside0.mk hlt
  have hrt' := Aside0.mk hrt
  have hrg' := Aside0.mk hrg
  have hbt' := Aside0.mk hbt
  have hbg' := Aside0.mk hbg
  have ht0 := (blk_cell hT.out.box 0).trans rfl
  clear h hF h1 h2 h3 hF1 hF2 hr hb hlt hrt hrg hbt hbg
  subst hW1
  go_enter Tryd.func63, Tryd.ntmps63
  repeat (first
    | ((with_reducible refine gate_callee (f := 37) rfl ?_); (with_reducible refine gate_dst (N := 8) rfl ?_); refine goesL_ (some 8) rfl rfl Tryd.func37 (by kernel_rfl) rfl #[.pointer (some ⟨g, 0, none⟩)] rfl (by (try simp only [List.map_toArray, List.map_cons, List.map_nil]); first | done | rfl) ?_; refine (hc1.out _ hT.out.rd).mono ?_; rintro e w1 ⟨rfl, HR1, G1⟩; refine ⟨_, rfl, ?_⟩; have HT1 := Aside0.mk (hT.out.read HR1 G1); have T1 := Aside0.mk (Two.of_g G1 t); have hb1 := Aside0.mk (T1.out.keep hb'.out hbt'.out.symm hbg'.out.symm); have hr1 := Aside0.mk (T1.out.keep hr'.out hrt'.out.symm hrg'.out.symm); have hy0 := (blk_cell hb1.out 0).trans rfl; have hf0 := blk_frozen hb1.out 0; clear HR1 G1 ht0; (try dsimp only))
    | ((with_reducible refine gate_callee (f := 59) rfl ?_); (with_reducible refine gate_dst (N := 11) rfl ?_); refine goesL_ (some 11) rfl rfl Tryd.func59 (by kernel_rfl) rfl #[.pointer (some ⟨t, 0, none⟩)] rfl (by (try simp only [List.map_toArray, List.map_cons, List.map_nil]); first | done | rfl) ?_; refine (hc2.out _ (HT1.out.set (le1 hbs.out) hbg'.out hbt'.out 0 _)).mono ?_; rintro e w2 ⟨rfl, HT2, T2⟩; refine ⟨_, rfl, ?_⟩; have HT2' := Aside0.mk HT2; have T2' := Aside0.mk T2; have hb2 := Aside0.mk (T2.keep (show _ = some (.cells #[.int .u64 n, .int .u64 0, .int .i64 0, .slice none 0 0] 52 (0, 0)) by simpa using blk_set hb1.out 0 (.int .u64 n)) hbt'.out.symm hbg'.out.symm); have hr2 := Aside0.mk (T2.keep (blk_set_far hr1.out (Nat.ne_of_lt (Nat.lt_succ_self _)) 0 (.int .u64 n)) hrt'.out.symm hrg'.out.symm); clear hy0 hf0; have hy1 := (blk_cell hb2.out 1).trans rfl; have hf1 := blk_frozen hb2.out 1; have hy2 := (blk_cell hb2.out 2).trans rfl; have hf2 := blk_frozen hb2.out 2; clear HT2 T2; (try dsimp only))
    | ((with_reducible refine gate_callee (f := 60) rfl ?_); (with_reducible refine gate_dst (N := 14) rfl ?_); refine goesL_ (some 14) rfl rfl Tryd.func60 (by kernel_rfl) rfl #[.pointer (some ⟨t, 0, none⟩)] rfl (by (try simp only [List.map_toArray, List.map_cons, List.map_nil]); first | done | rfl) ?_; refine (hc3.out _ ((HT2'.out.set (le1 hbs.out) hbg'.out hbt'.out 1 _).set (le1 hbs.out) hbg'.out hbt'.out 2 _)).mono ?_; rintro e w3 ⟨v, rfl, HV, HT3, T3⟩; refine ⟨_, rfl, ?_⟩; obtain ⟨Av, cv, rfl⟩ := V2_slice HV; have HV' := Aside0.mk HV; have HT3' := Aside0.mk HT3; have T3' := Aside0.mk T3; have hb3 := Aside0.mk (T3.keep (set12 hb2.out (.int .u64 n2) (.int .i64 r2)) hbt'.out.symm hbg'.out.symm); have hr3 := Aside0.mk (T3.keep (blk_set_far (blk_set_far hr2.out (Nat.ne_of_lt (Nat.lt_succ_self _)) 1 (.int .u64 n2)) (Nat.ne_of_lt (Nat.lt_succ_self _)) 2 (.int .i64 r2)) hrt'.out.symm hrg'.out.symm); clear hy1 hf1 hy2 hf2; have hy0 := (blk_cell hb3.out 0).trans rfl; have hy1 := (blk_cell hb3.out 1).trans rfl; have hy2 := (blk_cell hb3.out 2).trans rfl; have hy3 := (blk_cell hb3.out 3).trans rfl; have hf3 := blk_frozen hb3.out 3; have hx0 := (blk_cell hr3.out 0).trans rfl; have hx1 := (blk_cell hr3.out 1).trans rfl; have hx2 := (blk_cell hr3.out 2).trans rfl; have hx3 := (blk_cell hr3.out 3).trans rfl; have hg0 := blk_frozen hr3.out 0; have hg1 := blk_frozen hr3.out 1; have hg2 := blk_frozen hr3.out 2; have hg3 := blk_frozen hr3.out 3; clear HT3 T3 HV; (try dsimp only))
    | go_step)
  have hsz : W.heap.size + 2 ≤ w2.heap.size := by
    have h1 := T1.out.size
    have h2 := T2'.out.size
    have h3 : ((W.alloc (.cells #[.int .u64 0, .int .u64 0, .int .i64 0, .slice none 0 0] 52)).alloc (.cells #[.int .u64 0, .int .u64 0, .int .i64 0, .slice none 0 0] 52)).heap.size = W.heap.size + 2 := by simp
    have h4 : (w1.setCell ⟨W.heap.size + 1, 0, none⟩ (.int .u64 n)).heap.size = w1.heap.size := by simp [World.setCell]
    omega
  have hV0 := V2_mono HV'.out (ok' := fun k => W.heap.size + 2 ≤ k) (fun k hk => by
    have h5 : ((w2.setCell ⟨W.heap.size + 1, 1, none⟩ (.int .u64 n2)).setCell ⟨W.heap.size + 1, 2, none⟩ (.int .i64 r2)).heap.size = w2.heap.size := by simp [World.setCell]
    have hk' : ((w2.setCell ⟨W.heap.size + 1, 1, none⟩ (.int .u64 n2)).setCell ⟨W.heap.size + 1, 2, none⟩ (.int .i64 r2)).heap.size ≤ k := hk
    omega)
  have hb4 := blk_set_far hr3.out (Nat.ne_of_lt (Nat.lt_succ_self _)) 3 (.slice Av l.length cv)
  refine bodyPost_ret (results_cell_row rfl _ _ W.heap.size 52 _ (0, 0) _ rfl (set4 hb4 _ _ _ _) Tryd.underlying52 rfl (by kernel_rfl)) rfl ?_
  have f1 : ∀ k, W.heap.size + 2 ≤ k → k ≠ W.heap.size := fun k hk => by omega
  have f2 : ∀ k, W.heap.size + 2 ≤ k → k ≠ W.heap.size + 1 := fun k hk => by omega
  refine ⟨_, rfl, V2_mono (V2_far (p := ⟨W.heap.size, 3, none⟩) (V2_far (p := ⟨W.heap.size, 2, none⟩) (V2_far (p := ⟨W.heap.size, 1, none⟩) (V2_far (p := ⟨W.heap.size, 0, none⟩) (V2_far (p := ⟨W.heap.size + 1, 3, none⟩) hV0 f2 _) f1 _) f1 _) f1 _) f1 _) (fun k hk => by omega), ?_, ?_⟩
  · exact ((((HT3'.out.set (le1 hbs.out) hbg'.out hbt'.out 3 _).set hbs.out hrg'.out hrt'.out 0 _).set hbs.out hrg'.out hrt'.out 1 _).set hbs.out hrg'.out hrt'.out 2 _).set hbs.out hrg'.out hrt'.out 3 _
  · have e1 := (((Two.of_below hB1.out t g).trans T1.out).set_new (Nat.le_succ W.heap.size) 0 (.int .u64 n)).trans T2'.out
    have e2 := ((e1.set_new (Nat.le_succ W.heap.size) 1 (.int .u64 n2)).set_new (Nat.le_succ W.heap.size) 2 (.int .i64 r2)).trans T3'.out
    exact (((((e2.set_new (Nat.le_succ W.heap.size) 3 _).set_new (Nat.le_refl _) 0 _).set_new (Nat.le_refl _) 1 _).set_new (Nat.le_refl _) 2 _).set_new (Nat.le_refl _) 3 _)
set_option maxHeartbeats 1000000 in
set_option maxRecDepth 100000 in
theorem rows61_callsW (w0 W : World) (t g : Nat) (s : TS) (h : Tk w0 W t g s) (hF : Fine s.r) :
    Calls Tryd.prog 61 #[.pointer (some ⟨t, 0, none⟩), .int .i64 16, .func (.func 60) #[.pointer (some ⟨t, 0, none⟩)] #[]] W fun e w' => ∃ v, e = .returned v ∧ V2 DB w' W.heap.size (fun k => W.heap.size ≤ k) v (rowsT textT 16 s).1 ∧ Tk w0 w' t g (rowsT textT 16 s).2 ∧ Two W w' t g := by
  obtain ⟨sr, bad⟩ := s
  obtain ⟨n, s1, h1⟩ : ∃ n s1, nR sr = (n, s1) := ⟨_, _, rfl⟩
  have hc1 := Aside0.mk (num_at w0 g hF.fits hF.bys h1)
  have hF1 : Fine s1 := by have := hF.less (less_nR sr); rwa [h1] at this
  have hU : U n := by have := nR_U hF.bys; rwa [h1] at this
  have hT := Aside0.mk h
  have ht0 := (blk_cell h.box 0).trans rfl
  have hf1 := blk_frozen h.box 1
  have hU' := Aside0.mk hU
  have hF1' := Aside0.mk hF1
  have h1' := Aside0.mk h1
  clear h hF h1 hF1 hU
  by_cases d : 16 < n
  · have c1 : decide (16 < n) = true := decide_eq_true d
    have e1 : rowsT textT 16 ⟨sr, bad⟩ = ([], ⟨s1, true⟩) := by unfold rowsT; rw [h1'.out, if_pos d]
    rw [e1]
    clear d e1
    go_enter Tryd.func61, Tryd.ntmps61
    repeat (first
      | ((with_reducible refine gate_callee (f := 37) rfl ?_); (with_reducible refine gate_dst (N := 13) rfl ?_); refine goesL_ (some 13) rfl rfl Tryd.func37 (by kernel_rfl) rfl #[.pointer (some ⟨g, 0, none⟩)] rfl (by (try simp only [List.map_toArray, List.map_cons, List.map_nil]); first | done | rfl) ?_; refine (hc1.out _ hT.out.rd).mono ?_; rintro e w1 ⟨rfl, HR1, G1⟩; refine ⟨_, rfl, ?_⟩; have HT1 := Aside0.mk (hT.out.read HR1 G1); have G1' := Aside0.mk G1; have hy1 := (blk_cell HT1.out.box 1).trans rfl; have hz1 := blk_frozen HT1.out.box 1; clear HR1 G1 ht0 hf1; (try dsimp only))
      | go_step)
    go_ret
    exact ⟨_, rfl, V2_nil _ _ _ _, HT1.out.bad true, (Two.of_g G1'.out t).set_t 1 _⟩
  · have c1 : decide (16 < n) = false := decide_eq_false d
    have e1 : rowsT textT 16 ⟨sr, bad⟩ = manyT textT n.toNat ⟨s1, bad⟩ := by unfold rowsT; rw [h1'.out, if_neg d]
    rw [e1]
    have n0 : 0 ≤ n := hU'.out.1
    have n1 : n ≤ 16 := by omega
    clear e1 d
    go_enter Tryd.func61, Tryd.ntmps61
    repeat (first
      | ((with_reducible refine gate_callee (f := 37) rfl ?_); (with_reducible refine gate_dst (N := 13) rfl ?_); refine goesL_ (some 13) rfl rfl Tryd.func37 (by kernel_rfl) rfl #[.pointer (some ⟨g, 0, none⟩)] rfl (by (try simp only [List.map_toArray, List.map_cons, List.map_nil]); first | done | rfl) ?_; refine (hc1.out _ hT.out.rd).mono ?_; rintro e w1 ⟨rfl, HR1, G1⟩; refine ⟨_, rfl, ?_⟩; have HT1 := Aside0.mk (hT.out.read HR1 G1); have G1' := Aside0.mk G1; have hy1 := (blk_cell HT1.out.box 1).trans rfl; have hz1 := blk_frozen HT1.out.box 1; clear HR1 G1 ht0 hf1; (try dsimp only))
      | go_step)
    go_loopg [8, 22] (n.toNat + 1) (fun kq v8 v22 w' => ∃ (i : Int) (u : Value) (xs : List (List Int)) (s2 : TS), u = v8 ∧ v22 = .int .u64 i ∧ Aside0 (kq + i.toNat = n.toNat + 1 ∧ 0 ≤ i ∧ i ≤ n ∧ xs.length = i.toNat) ∧ Aside0 (manyT textT n.toNat ⟨s1, bad⟩ = (xs ++ (manyT textT (n.toNat - i.toNat) s2).1, (manyT textT (n.toNat - i.toNat) s2).2)) ∧ Aside0 (Kd.N KW 27 w' W.heap.size (fun k => W.heap.size ≤ k) u xs) ∧ Aside0 (Tk w0 w' t g s2) ∧ Aside0 (Fine s2.r) ∧ Aside0 (Two W w' t g))
    case atStart => exact ⟨0, _, [], ⟨s1, bad⟩, rfl, rfl, ⟨by omega, by omega, by omega, rfl⟩, ⟨rfl⟩, ⟨Kd.N_nil _ _ _ _ _⟩, HT1, hF1', ⟨Two.of_g G1'.out t⟩⟩
    case round =>
      have hlt := Aside0.mk hT.out.lt
      clear hc1 HT1 hF1' hT G1' hy1 hz1
      obtain ⟨i, u, xs, s2, rfl, rfl, hi, hm, HN, HT, HF, T2⟩ := hrel
      by_cases d : i < n
      · have c2 : decide (i < n) = true := decide_eq_true d
        have i0 : 0 ≤ i := hi.out.2.1
        obtain ⟨y, s3, h3⟩ : ∃ y s3, textT s2 = (y, s3) := ⟨_, _, rfl⟩
        have hc : Aside0 (Calls Tryd.prog 60 #[.pointer (some ⟨t, 0, none⟩)] wr fun e w' => ∃ v, e = .returned v ∧ V2 KW w' W.heap.size (fun k => wr.heap.size ≤ k) v y ∧ Tk w0 w' t g s3 ∧ Two wr w' t g) := by
          have := ttext_callsW w0 wr t g s2 HT.out HF.out W.heap.size
          rw [h3] at this
          exact ⟨this⟩
        have hF3 := Aside0.mk (show Fine s3.r by have := HF.out.less (less_textT s2); rwa [h3] at this)
        have h3' := Aside0.mk h3
        clear h3
        have d' := Aside0.mk d
        repeat (first
          | ((with_reducible refine gate_dst (N := 26) rfl ?_); (with_reducible refine gate_tmp rfl ?_); refine closB_ _ rfl rfl Tryd.func60 (by kernel_rfl) rfl #[.pointer (some ⟨t, 0, none⟩)] rfl rfl (by (try simp only [List.map_toArray, List.map_cons, List.map_nil]); first | done | rfl) ?_; refine hc.out.mono ?_; rintro e w3 ⟨v, rfl, HV3, HT3, T3⟩; refine ⟨_, rfl, ?_⟩; obtain ⟨Av, cv, rfl⟩ := V2_slice HV3; have HV3' := Aside0.mk HV3; have HT3' := Aside0.mk HT3; have T3' := Aside0.mk T3; have HN3 := Aside0.mk (N_two HN.out T3 hlt.out); clear HV3 HT3 T3; (try dsimp only))
          | ((with_reducible refine gate_builtin (b := .append) (xs := #[.tmp 24, .tmp 27]) rfl ?_); at_builtin; refine Kd.N_append KW (w0 := w3) W.heap.size rfl (.tmp 24) (.tmp 27) 26 27 (.slice none 0 0) 24 rfl Tryd.underlying26 info27 rfl (by decide) (by omega) u xs y [.slice Av y.length cv] (fun k => W.heap.size ≤ k) (fun k => wr.heap.size ≤ k) rfl rfl (HV3'.out.2) (fun k hk => ⟨Nat.le_trans T2.out.size hk, fun he => by have := Kd.N_lt HN.out k he.symm; omega⟩) (fun k hk => Nat.le_trans (Nat.le_trans T2.out.size T3'.out.size) hk) HN3.out (Below.refl _ _) (Nat.le_trans T2.out.size T3'.out.size) (by have := hi.out; have := d'.out; omega) ?_; intro v4 w4 HN4 _ HG4 _; have HN4' := Aside0.mk HN4; have HG4' := Aside0.mk HG4; clear HN4 HG4; (try dsimp only))
          | go_step)
        go_roundg (gk - 1)
        case measure => have := hi.out; omega
        case rel =>
          have hu : ∀ k, u.ownBlock = some k → W.heap.size ≤ k := fun k hk => Kd.N_base HN.out k hk
          refine ⟨i + 1, v4, xs ++ [y], s3, rfl, rfl, ⟨?_⟩, ⟨?_⟩, HN4', ⟨Tk_grown HT3'.out HG4'.out hlt.out hu⟩, hF3, ⟨(T2.out.trans T3'.out).trans_own HG4'.out hu⟩⟩
          · have := hi.out
            have := d'.out
            refine ⟨by omega, by omega, by omega, ?_⟩
            rw [List.length_append, hi.out.2.2.2]
            show i.toNat + 1 = _
            omega
          · have e2 : n.toNat - i.toNat = (n.toNat - (i + 1).toNat) + 1 := by have := hi.out; have := d'.out; omega
            rw [hm.out, e2, manyT, h3'.out]
            simp
      · have c2 : decide (i < n) = false := decide_eq_false d
        have hk : n.toNat - i.toNat = 0 := by have := hi.out; omega
        clear d
        go_wp2
        go_ret
        have hm2 := hm.out
        rw [hk, manyT] at hm2
        rw [hm2]
        refine ⟨_, rfl, ?_, HT.out, T2.out⟩
        simpa using N_V2 HN.out
set_option maxHeartbeats 1000000 in
set_option maxRecDepth 100000 in
theorem rows62_callsW (w0 W : World) (t g : Nat) (s : TS) (h : Tk w0 W t g s) (hF : Fine s.r) :
    Calls Tryd.prog 62 #[.pointer (some ⟨t, 0, none⟩), .int .i64 256, .func (.func 63) #[.pointer (some ⟨t, 0, none⟩)] #[]] W fun e w' => ∃ v, e = .returned v ∧ V2 DV w' W.heap.size (fun k => W.heap.size ≤ k) v (rowsT voteT 256 s).1 ∧ Tk w0 w' t g (rowsT voteT 256 s).2 ∧ Two W w' t g := by
  obtain ⟨sr, bad⟩ := s
  obtain ⟨n, s1, h1⟩ : ∃ n s1, nR sr = (n, s1) := ⟨_, _, rfl⟩
  have hc1 := Aside0.mk (num_at w0 g hF.fits hF.bys h1)
  have hF1 : Fine s1 := by have := hF.less (less_nR sr); rwa [h1] at this
  have hU : U n := by have := nR_U hF.bys; rwa [h1] at this
  have hT := Aside0.mk h
  have ht0 := (blk_cell h.box 0).trans rfl
  have hf1 := blk_frozen h.box 1
  have hU' := Aside0.mk hU
  have hF1' := Aside0.mk hF1
  have h1' := Aside0.mk h1
  clear h hF h1 hF1 hU
  by_cases d : 256 < n
  · have c1 : decide (256 < n) = true := decide_eq_true d
    have e1 : rowsT voteT 256 ⟨sr, bad⟩ = ([], ⟨s1, true⟩) := by unfold rowsT; rw [h1'.out, if_pos d]
    rw [e1]
    clear d e1
    go_enter Tryd.func62, Tryd.ntmps62
    repeat (first
      | ((with_reducible refine gate_callee (f := 37) rfl ?_); (with_reducible refine gate_dst (N := 13) rfl ?_); refine goesL_ (some 13) rfl rfl Tryd.func37 (by kernel_rfl) rfl #[.pointer (some ⟨g, 0, none⟩)] rfl (by (try simp only [List.map_toArray, List.map_cons, List.map_nil]); first | done | rfl) ?_; refine (hc1.out _ hT.out.rd).mono ?_; rintro e w1 ⟨rfl, HR1, G1⟩; refine ⟨_, rfl, ?_⟩; have HT1 := Aside0.mk (hT.out.read HR1 G1); have G1' := Aside0.mk G1; have hy1 := (blk_cell HT1.out.box 1).trans rfl; have hz1 := blk_frozen HT1.out.box 1; clear HR1 G1 ht0 hf1; (try dsimp only))
      | go_step)
    go_ret
    exact ⟨_, rfl, V2_nil _ _ _ _, HT1.out.bad true, (Two.of_g G1'.out t).set_t 1 _⟩
  · have c1 : decide (256 < n) = false := decide_eq_false d
    have e1 : rowsT voteT 256 ⟨sr, bad⟩ = manyT voteT n.toNat ⟨s1, bad⟩ := by unfold rowsT; rw [h1'.out, if_neg d]
    rw [e1]
    have n0 : 0 ≤ n := hU'.out.1
    have n1 : n ≤ 256 := by omega
    clear e1 d
    go_enter Tryd.func62, Tryd.ntmps62
    repeat (first
      | ((with_reducible refine gate_callee (f := 37) rfl ?_); (with_reducible refine gate_dst (N := 13) rfl ?_); refine goesL_ (some 13) rfl rfl Tryd.func37 (by kernel_rfl) rfl #[.pointer (some ⟨g, 0, none⟩)] rfl (by (try simp only [List.map_toArray, List.map_cons, List.map_nil]); first | done | rfl) ?_; refine (hc1.out _ hT.out.rd).mono ?_; rintro e w1 ⟨rfl, HR1, G1⟩; refine ⟨_, rfl, ?_⟩; have HT1 := Aside0.mk (hT.out.read HR1 G1); have G1' := Aside0.mk G1; have hy1 := (blk_cell HT1.out.box 1).trans rfl; have hz1 := blk_frozen HT1.out.box 1; clear HR1 G1 ht0 hf1; (try dsimp only))
      | go_step)
    go_loopg [8, 22] (n.toNat + 1) (fun kq v8 v22 w' => ∃ (i : Int) (u : Value) (xs : List S52) (s2 : TS), u = v8 ∧ v22 = .int .u64 i ∧ Aside0 (kq + i.toNat = n.toNat + 1 ∧ 0 ≤ i ∧ i ≤ n ∧ xs.length = i.toNat) ∧ Aside0 (manyT voteT n.toNat ⟨s1, bad⟩ = (xs ++ (manyT voteT (n.toNat - i.toNat) s2).1, (manyT voteT (n.toNat - i.toNat) s2).2)) ∧ Aside0 (Kd.N kvw 52 w' W.heap.size (fun k => W.heap.size ≤ k) u xs) ∧ Aside0 (Tk w0 w' t g s2) ∧ Aside0 (Fine s2.r) ∧ Aside0 (Two W w' t g))
    case atStart => exact ⟨0, _, [], ⟨s1, bad⟩, rfl, rfl, ⟨by omega, by omega, by omega, rfl⟩, ⟨rfl⟩, ⟨Kd.N_nil _ _ _ _ _⟩, HT1, hF1', ⟨Two.of_g G1'.out t⟩⟩
    case round =>
      have hlt := Aside0.mk hT.out.lt
      clear hc1 HT1 hF1' hT G1' hy1 hz1
      obtain ⟨i, u, xs, s2, rfl, rfl, hi, hm, HN, HT, HF, T2⟩ := hrel
      by_cases d : i < n
      · have c2 : decide (i < n) = true := decide_eq_true d
        have i0 : 0 ≤ i := hi.out.2.1
        obtain ⟨y, s3, h3⟩ : ∃ y s3, voteT s2 = (y, s3) := ⟨_, _, rfl⟩
        have hc : Aside0 (Calls Tryd.prog 63 #[.pointer (some ⟨t, 0, none⟩)] wr fun e w' => ∃ v, e = .returned (.agg #[.int .u64 y.f0, .int .u64 y.f1.f0, .int .i64 y.f1.f1, v]) ∧ V2 KW w' W.heap.size (fun k => wr.heap.size ≤ k) v y.f2 ∧ Tk w0 w' t g s3 ∧ Two wr w' t g) := by
          have := vote_callsW w0 wr t g s2 HT.out HF.out W.heap.size
          rw [h3] at this
          exact ⟨this⟩
        have hF3 := Aside0.mk (show Fine s3.r by have := HF.out.less (less_voteT s2); rwa [h3] at this)
        have h3' := Aside0.mk h3
        clear h3
        have d' := Aside0.mk d
        repeat (first
          | ((with_reducible refine gate_dst (N := 26) rfl ?_); (with_reducible refine gate_tmp rfl ?_); refine closB_ _ rfl rfl Tryd.func63 (by kernel_rfl) rfl #[.pointer (some ⟨t, 0, none⟩)] rfl rfl (by (try simp only [List.map_toArray, List.map_cons, List.map_nil]); first | done | rfl) ?_; refine hc.out.mono ?_; rintro e w3 ⟨v, rfl, HV3, HT3, T3⟩; refine ⟨_, rfl, ?_⟩; obtain ⟨Av, cv, rfl⟩ := V2_slice HV3; have HV3' := Aside0.mk HV3; have HT3' := Aside0.mk HT3; have T3' := Aside0.mk T3; have HN3 := Aside0.mk (N_two HN.out T3 hlt.out); clear HV3 HT3 T3; (try dsimp only))
          | ((with_reducible refine gate_builtin (b := .append) (xs := #[.tmp 24, .tmp 27]) rfl ?_); at_builtin; refine Kd.N_append kvw (w0 := w3) W.heap.size rfl (.tmp 24) (.tmp 27) 25 52 (.agg #[(.int .u64 0), (.int .u64 0), (.int .i64 0), (.slice none 0 0)]) 48 rfl Tryd.underlying25 info52 rfl (by decide) (by omega) u xs y [.int .u64 y.f0, .int .u64 y.f1.f0, .int .i64 y.f1.f1, .slice Av y.f2.length cv] (fun k => W.heap.size ≤ k) (fun k => wr.heap.size ≤ k) rfl rfl (FK_voteW HV3'.out) (fun k hk => ⟨Nat.le_trans T2.out.size hk, fun he => by have := Kd.N_lt HN.out k he.symm; omega⟩) (fun k hk => Nat.le_trans (Nat.le_trans T2.out.size T3'.out.size) hk) HN3.out (Below.refl _ _) (Nat.le_trans T2.out.size T3'.out.size) (by have := hi.out; have := d'.out; omega) ?_; intro v4 w4 HN4 _ HG4 _; have HN4' := Aside0.mk HN4; have HG4' := Aside0.mk HG4; clear HN4 HG4; (try dsimp only))
          | go_step)
        go_roundg (gk - 1)
        case measure => have := hi.out; omega
        case rel =>
          have hu : ∀ k, u.ownBlock = some k → W.heap.size ≤ k := fun k hk => Kd.N_base HN.out k hk
          refine ⟨i + 1, v4, xs ++ [y], s3, rfl, rfl, ⟨?_⟩, ⟨?_⟩, HN4', ⟨Tk_grown HT3'.out HG4'.out hlt.out hu⟩, hF3, ⟨(T2.out.trans T3'.out).trans_own HG4'.out hu⟩⟩
          · have := hi.out
            have := d'.out
            refine ⟨by omega, by omega, by omega, ?_⟩
            rw [List.length_append, hi.out.2.2.2]
            show i.toNat + 1 = _
            omega
          · have e2 : n.toNat - i.toNat = (n.toNat - (i + 1).toNat) + 1 := by have := hi.out; have := d'.out; omega
            rw [hm.out, e2, manyT, h3'.out]
            simp
      · have c2 : decide (i < n) = false := decide_eq_false d
        have hk : n.toNat - i.toNat = 0 := by have := hi.out; omega
        clear d
        go_wp2
        go_ret
        have hm2 := hm.out
        rw [hk, manyT] at hm2
        rw [hm2]
        refine ⟨_, rfl, ?_, HT.out, T2.out⟩
        simpa using N_V2 HN.out
end Go.Proofs.YtfkfboigkpofkaaDoor.M
end
