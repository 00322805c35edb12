/- Parts of a proof, pruned and joined by flat.py out of: OC, MS, MXa, TA, MT, MW. -/
import Derived.Test.YtfkfboigkpofkaaDoorCOwn9
section
namespace Go.Proofs.YtfkfboigkpofkaaDoor.M
open Go.RowKit Go.Proofs.YtfkfboigkpofkaaDoorW.PrintWords Go.Proofs.YtfkfboigkpofkaaDoorW.PrintLast Go.Proofs.YtfkfboigkpofkaaDoorW.PrintMore Go.Proofs.YtfkfboigkpofkaaDoor.PMsgPuts
set_option linter.unusedVariables false
set_option linter.unusedSimpArgs false
structure BoxMW (W : World) (b lo : Nat) (m : Mg) : Prop where
  at_ : ∃ vV vB vS, W.heap[b]? = some (.cells #[.int .u8 m.k, .int .u64 m.n, .int .i64 m.r, .int .u64 m.first, .int .u64 m.last, .int .u64 m.commit, vV, vB, vS] 29 (0, 0)) ∧
    V2 DV W lo (fun k => lo ≤ k) vV m.V ∧ V2 DB W lo (fun k => lo ≤ k) vB m.B ∧ V2 KW W lo (fun k => lo ≤ k) vS m.S
theorem BoxMW.two {W W' : World} {b lo t g : Nat} {m : Mg} (h : BoxMW W b lo m) (T : Two W W' t g) (h1 : b ≠ t) (h2 : b ≠ g) (ht : t < lo) (hg : g < lo) : BoxMW W' b lo m := by
  obtain ⟨vV, vB, vS, hb, h3, h4, h5⟩ := h.at_
  have hk : ∀ k, lo ≤ k → ¬ (k = t ∨ k = g) := fun k hk hs => by rcases hs with rfl | rfl <;> omega
  exact ⟨vV, vB, vS, T.keep hb h1 h2, V2_kept h3 T.kept hk, V2_kept h4 T.kept hk, V2_kept h5 T.kept hk⟩
theorem BoxMW.n {W : World} {b lo : Nat} {m : Mg} (h : BoxMW W b lo m) (hb : b < lo) (x : Int) : BoxMW (W.setCell ⟨b, 1, none⟩ (.int .u64 x)) b lo { m with n := x } := by
  obtain ⟨vV, vB, vS, h1, h3, h4, h5⟩ := h.at_
  have hk : ∀ k, lo ≤ k → k ≠ (⟨b, 1, none⟩ : Addr).block := fun k hk => by show k ≠ b; omega
  exact ⟨vV, vB, vS, by simpa using blk_set h1 1 (.int .u64 x), V2_far h3 hk _, V2_far h4 hk _, V2_far h5 hk _⟩
theorem BoxMW.r {W : World} {b lo : Nat} {m : Mg} (h : BoxMW W b lo m) (hb : b < lo) (x : Int) : BoxMW (W.setCell ⟨b, 2, none⟩ (.int .i64 x)) b lo { m with r := x } := by
  obtain ⟨vV, vB, vS, h1, h3, h4, h5⟩ := h.at_
  have hk : ∀ k, lo ≤ k → k ≠ (⟨b, 2, none⟩ : Addr).block := fun k hk => by show k ≠ b; omega
  exact ⟨vV, vB, vS, by simpa using blk_set h1 2 (.int .i64 x), V2_far h3 hk _, V2_far h4 hk _, V2_far h5 hk _⟩
theorem BoxMW.first {W : World} {b lo : Nat} {m : Mg} (h : BoxMW W b lo m) (hb : b < lo) (x : Int) : BoxMW (W.setCell ⟨b, 3, none⟩ (.int .u64 x)) b lo { m with first := x } := by
  obtain ⟨vV, vB, vS, h1, h3, h4, h5⟩ := h.at_
  have hk : ∀ k, lo ≤ k → k ≠ (⟨b, 3, none⟩ : Addr).block := fun k hk => by show k ≠ b; omega
  exact ⟨vV, vB, vS, by simpa using blk_set h1 3 (.int .u64 x), V2_far h3 hk _, V2_far h4 hk _, V2_far h5 hk _⟩
theorem BoxMW.last {W : World} {b lo : Nat} {m : Mg} (h : BoxMW W b lo m) (hb : b < lo) (x : Int) : BoxMW (W.setCell ⟨b, 4, none⟩ (.int .u64 x)) b lo { m with last := x } := by
  obtain ⟨vV, vB, vS, h1, h3, h4, h5⟩ := h.at_
  have hk : ∀ k, lo ≤ k → k ≠ (⟨b, 4, none⟩ : Addr).block := fun k hk => by show k ≠ b; omega
  exact ⟨vV, vB, vS, by simpa using blk_set h1 4 (.int .u64 x), V2_far h3 hk _, V2_far h4 hk _, V2_far h5 hk _⟩
theorem BoxMW.commit {W : World} {b lo : Nat} {m : Mg} (h : BoxMW W b lo m) (hb : b < lo) (x : Int) : BoxMW (W.setCell ⟨b, 5, none⟩ (.int .u64 x)) b lo { m with commit := x } := by
  obtain ⟨vV, vB, vS, h1, h3, h4, h5⟩ := h.at_
  have hk : ∀ k, lo ≤ k → k ≠ (⟨b, 5, none⟩ : Addr).block := fun k hk => by show k ≠ b; omega
  exact ⟨vV, vB, vS, by simpa using blk_set h1 5 (.int .u64 x), V2_far h3 hk _, V2_far h4 hk _, V2_far h5 hk _⟩
theorem BoxMW.V {W : World} {b lo : Nat} {m : Mg} (h : BoxMW W b lo m) (hb : b < lo) {v : Value} {x : List S52} {lo2 : Nat} (hv : V2 DV W lo2 (fun k => lo ≤ k) v x) : BoxMW (W.setCell ⟨b, 6, none⟩ v) b lo { m with V := x } := by
  obtain ⟨vV, vB, vS, h1, h3, h4, h5⟩ := h.at_
  have hk : ∀ k, lo ≤ k → k ≠ (⟨b, 6, none⟩ : Addr).block := fun k hk => by show k ≠ b; omega
  exact ⟨v, vB, vS, by simpa using blk_set h1 6 v, V2_far (V2_map hv (fun _ hf => hf)) hk _, V2_far h4 hk _, V2_far h5 hk _⟩
theorem BoxMW.B {W : World} {b lo : Nat} {m : Mg} (h : BoxMW W b lo m) (hb : b < lo) {v : Value} {x : List (List Int)} {lo2 : Nat} (hv : V2 DB W lo2 (fun k => lo ≤ k) v x) : BoxMW (W.setCell ⟨b, 7, none⟩ v) b lo { m with B := x } := by
  obtain ⟨vV, vB, vS, h1, h3, h4, h5⟩ := h.at_
  have hk : ∀ k, lo ≤ k → k ≠ (⟨b, 7, none⟩ : Addr).block := fun k hk => by show k ≠ b; omega
  exact ⟨vV, v, vS, by simpa using blk_set h1 7 v, V2_far h3 hk _, V2_far (V2_map hv (fun _ hf => hf)) hk _, V2_far h5 hk _⟩
theorem BoxMW.S {W : World} {b lo : Nat} {m : Mg} (h : BoxMW W b lo m) (hb : b < lo) {v : Value} {x : List Int} {lo2 : Nat} (hv : V2 KW W lo2 (fun k => lo ≤ k) v x) : BoxMW (W.setCell ⟨b, 8, none⟩ v) b lo { m with S := x } := by
  obtain ⟨vV, vB, vS, h1, h3, h4, h5⟩ := h.at_
  have hk : ∀ k, lo ≤ k → k ≠ (⟨b, 8, none⟩ : Addr).block := fun k hk => by show k ≠ b; omega
  exact ⟨vV, vB, v, by simpa using blk_set h1 8 v, V2_far h3 hk _, V2_far h4 hk _, V2_far (V2_map hv (fun _ hf => hf)) hk _⟩
set_option maxHeartbeats 1000000 in
set_option maxRecDepth 100000 in
theorem take_callsW (w0 W : World) (t g : Nat) (s : TS) (h : Tk w0 W t g s) (hF : Fine s.r) (T : Tabs W) (kI : Int) (k : Nat) (hkI : kI = k) (hk : k < 9) :
    Calls Tryd.prog 38 #[.pointer (some ⟨t, 0, none⟩), .agg #[.int .u8 kI, .int .u64 0, .int .i64 0, .int .u64 0, .int .u64 0, .int .u64 0, .slice none 0 0, .slice none 0 0, .slice none 0 0]] W fun e w' =>
      ∃ vV vB vS, e = .returned (.agg #[.int .u8 k, .int .u64 (takesF (fldI k) (m0 k, s)).1.n, .int .i64 (takesF (fldI k) (m0 k, s)).1.r, .int .u64 (takesF (fldI k) (m0 k, s)).1.first, .int .u64 (takesF (fldI k) (m0 k, s)).1.last, .int .u64 (takesF (fldI k) (m0 k, s)).1.commit, vV, vB, vS]) ∧
        V2 DV w' W.heap.size (fun k => W.heap.size ≤ k) vV (takesF (fldI k) (m0 k, s)).1.V ∧ V2 DB w' W.heap.size (fun k => W.heap.size ≤ k) vB (takesF (fldI k) (m0 k, s)).1.B ∧ V2 KW w' W.heap.size (fun k => W.heap.size ≤ k) vS (takesF (fldI k) (m0 k, s)).1.S ∧
        Tk w0 w' t g (takesF (fldI k) (m0 k, s)).2 ∧ Two W w' t g := by
  subst hkI
  obtain ⟨W1, hW1⟩ : ∃ W1, (W.alloc (.cells #[.int .u8 k, .int .u64 0, .int .i64 0, .int .u64 0, .int .u64 0, .int .u64 0, .slice none 0 0, .slice none 0 0, .slice none 0 0] 29)).alloc (.cells #[.int .u8 0, .int .u64 0, .int .i64 0, .int .u64 0, .int .u64 0, .int .u64 0, .slice none 0 0, .slice none 0 0, .slice none 0 0] 29) = W1 := ⟨_, rfl⟩
  have hB1 : Below W.heap.size W W1 := by rw [← hW1]; exact bel2 W _ _
  have hs1 : W1.heap.size = W.heap.size + 2 := by rw [← hW1]; simp
  have hb1 : W1.heap[W.heap.size]? = some (.cells #[.int .u8 k, .int .u64 0, .int .i64 0, .int .u64 0, .int .u64 0, .int .u64 0, .slice none 0 0, .slice none 0 0, .slice none 0 0] 29 (0, 0)) := by rw [← hW1]; exact blk_alloc (heap_alloc_new W _) _
  have hr1 : W1.heap[W.heap.size + 1]? = some (.cells #[.int .u8 0, .int .u64 0, .int .i64 0, .int .u64 0, .int .u64 0, .int .u64 0, .slice none 0 0, .slice none 0 0, .slice none 0 0] 29 (0, 0)) := by
    rw [← hW1]
    have := heap_alloc_new (W.alloc (.cells #[.int .u8 k, .int .u64 0, .int .i64 0, .int .u64 0, .int .u64 0, .int .u64 0, .slice none 0 0, .slice none 0 0, .slice none 0 0] 29)) (.cells #[.int .u8 0, .int .u64 0, .int .i64 0, .int .u64 0, .int .u64 0, .int .u64 0, .slice none 0 0, .slice none 0 0, .slice none 0 0] 29)
    simpa using this
  have hc := (T.below hB1).f k hk
  obtain ⟨W2, g2, cp, hcv, hb2, hrow, hg2⟩ := conv_bytes W1 k
  have hs2 : W.heap.size + 3 ≤ W2.heap.size ∨ (fldI k).length = 0 := by
    by_cases hl : (fldI k).length = 0
    · exact .inr hl
    · left
      have := World.block_lt_of_cell? W2 _ (hrow 0 (by omega))
      have h4 : (⟨g2, 0, none⟩ : Addr).block = g2 := rfl
      omega
  have hlt := h.lt
  have hX : Aside0 (BoxMW W2 W.heap.size W1.heap.size (m0 k)) := Aside0.mk (show BoxMW W2 W.heap.size W1.heap.size (m0 k) from ⟨_, _, _, blk_below hb1 hb2, V2_nil _ _ _ _, V2_nil _ _ _ _, V2_nil _ _ _ _⟩)
  have hRs := Aside0.mk (blk_below hr1 hb2)
  have hT := Aside0.mk ((h.below hB1).below hb2)
  have h2 := Aside0.mk ((Two.of_below hB1 t g).trans (Two.of_below hb2 t g))
  have hrow' := Aside0.mk hrow
  have hF' := Aside0.mk hF
  have hlt' := Aside0.mk hlt
  have hg2' := Aside0.mk hg2
  have hs1' := Aside0.mk hs1
  have hbs := Aside0.mk h.rd.bel.size
  have hbt := Aside0.mk (show t ≠ W.heap.size by omega)
  have hbg := Aside0.mk (show g ≠ W.heap.size by omega)
  have hrt := Aside0.mk (show t ≠ W.heap.size + 1 by omega)
  have hrg := Aside0.mk (show g ≠ W.heap.size + 1 by omega)
  have hg2t := Aside0.mk (show g2 ≠ t by omega)
  have hg2g := Aside0.mk (show g2 ≠ g by omega)
  have hg2b := Aside0.mk (show g2 ≠ W.heap.size by omega)
  have hlt2 := Aside0.mk (show t < W.heap.size + 2 ∧ g < W.heap.size + 2 by omega)
  have hbl := Aside0.mk (show W.heap.size < W.heap.size + 2 by omega)
  have hbs2 := Aside0.mk h.rd.bel.size
  have hlo0 := Aside0.mk (show W.heap.size + 2 ≤ W2.heap.size by have := hb2.size; omega)
  rw [hs1] at hX
  clear h hF T hB1 hb1 hr1 hb2 hrow hs2 hlt hg2 hs1
  subst hW1
  go_enter Tryd.func38, Tryd.ntmps38
  go_wp2
  go_loopg [13] ((fldI k).length + 1) (fun kq v13 w' => ∃ (x : Int) (m1 : Mg) (s2 : TS), v13 = .int .i64 x ∧ Aside0 (kq + x.toNat = (fldI k).length + 1 ∧ 0 ≤ x ∧ x ≤ (fldI k).length) ∧ Aside0 (takesF ((fldI k).take x.toNat) (m0 k, s) = (m1, s2)) ∧ Aside0 (Tk w0 w' t g s2) ∧ Aside0 (Fine s2.r) ∧ Aside0 (BoxMW w' W.heap.size (W.heap.size + 2) m1) ∧ Aside0 (w'.heap[W.heap.size + 1]? = some (.cells #[.int .u8 0, .int .u64 0, .int .i64 0, .int .u64 0, .int .u64 0, .int .u64 0, .slice none 0 0, .slice none 0 0, .slice none 0 0] 29 (0, 0))) ∧ Aside0 (∀ j : Nat, j < (fldI k).length → w'.cell? ⟨g2, j, none⟩ = some (.int .u8 ((fldI k).getD j 0))) ∧ Aside0 (Two W w' t g) ∧ Aside0 (W.heap.size + 2 ≤ w'.heap.size))
  case atStart => exact ⟨0, m0 k, s, rfl, ⟨rfl, by omega, by omega⟩, ⟨rfl⟩, hT, hF', hX, hRs, hrow', h2, hlo0⟩
  case round =>
    clear hX hT h2 hrow' hF' hRs hc hcv hlo0
    obtain ⟨x, m1, s2, rfl, hq, hp, HT, HF, HX, HS, HR, T2, hlo⟩ := hrel
    by_cases q0 : x < ((fldI k).length : Int)
    · have p0 : 0 ≤ x := hq.out.2.1
      have hx0 : x.toNat < (fldI k).length := by omega
      have hx := HR.out x.toNat hx0
      have hk1 := Aside0.mk (takes_take (fldI k) (m0 k, s) x.toNat hx0)
      have hlf := Aside0.mk (less_takeF ((fldI k).getD x.toNat 0) (m1, s2))
      have ht0 := (blk_cell HT.out.box 0).trans rfl
      have c0 : decide (x < ((fldI k).length : Int)) = true := decide_eq_true q0
      replace p0 := eq_true p0
      replace q0 := eq_true q0
      have hLn := Aside0.mk (fldI_short hk)
      rcases fldI_get hk x.toNat hx0 with hcc0 | hcc0 | hcc0 | hcc0 | hcc0 | hcc0 | hcc0
      · have hx1 : wr.cell? ⟨g2, x.toNat, none⟩ = some (.int .u8 98) := by rw [hx, hcc0]
        have hcc := Aside0.mk hcc0
        clear hx hcc0 hx0 hk
        repeat (first
          | ((with_reducible refine gate_callee (f := 59) rfl ?_); (with_reducible refine gate_dst (N := 21) rfl ?_); refine goesL_ (some 21) rfl rfl Tryd.func59 (by kernel_rfl) rfl #[.pointer (some ⟨t, 0, none⟩)] rfl (by (try simp only [List.map_toArray, List.map_cons, List.map_nil]); first | done | rfl) ?_; refine (tbal_calls w0 wr t g s2 HT.out HF.out).mono ?_; rintro e w1 ⟨rfl, HT1, T1_⟩; refine ⟨_, rfl, ?_⟩; have T1 := Aside0.mk T1_; have HX1 := Aside0.mk (HX.out.two T1.out hbt.out.symm hbg.out.symm hlt2.out.1 hlt2.out.2); have HS1 := Aside0.mk (T1.out.keep HS.out hrt.out.symm hrg.out.symm); have HR1 := Aside0.mk (row_two HR.out T1.out hg2t.out hg2g.out); obtain ⟨vV, vB, vS, hbx, hb6, hb7, hb8⟩ := HX1.out.at_; have hy1 := (blk_cell hbx 1).trans rfl; have hz1 := blk_frozen hbx 1; have hy2 := (blk_cell hbx 2).trans rfl; have hz2 := blk_frozen hbx 2; clear hbx hb6 hb7 hb8; (try clear ht0); clear T1_; (try dsimp only))
          | go_step)
        have hk := of_eq_true q0
        have hw : x + 1 = wrap64 (x + 1) := by
          unfold wrap64
          have := hq.out
          have := hLn.out
          omega
        have ht : (x + 1).toNat = x.toNat + 1 := by
          have := hq.out
          omega
        go_roundg (gk - 1)
        case measure => have := hq.out; omega
        case rel =>
          have hfi : Fine (takeF 98 (m1, s2)).2.r := by rw [← hcc.out]; exact HF.out.less hlf.out
          refine ⟨x + 1, (takeF 98 (m1, s2)).1, (takeF 98 (m1, s2)).2, by rw [← hw], ⟨?_, by omega, by omega⟩, ⟨?_⟩, ⟨?_⟩, ⟨hfi⟩, ⟨?_⟩, ⟨?_⟩, ⟨?_⟩, ⟨?_⟩, ⟨?_⟩⟩
          · have := hq.out
            omega
          · rw [ht, ← hk1.out, hcc.out, hp.out]
          · exact (HT1.set hbs2.out hbg.out hbt.out 1 _).set hbs2.out hbg.out hbt.out 2 _
          · exact (HX1.out.n hbl.out _).r hbl.out _
          · exact blk_set_far (blk_set_far HS1.out (Nat.ne_of_gt (Nat.lt_succ_self _)) 1 _) (Nat.ne_of_gt (Nat.lt_succ_self _)) 2 _
          · exact row_set (row_set HR1.out hg2b.out 1 _) hg2b.out 2 _
          · exact (T2.out.trans T1.out).set_new (Nat.le_refl _) 1 _ |>.set_new (Nat.le_refl _) 2 _
          · exact Nat.le_trans hlo.out (by simpa [World.setCell] using T1.out.size)
      · have hx1 : wr.cell? ⟨g2, x.toNat, none⟩ = some (.int .u8 99) := by rw [hx, hcc0]
        have hcc := Aside0.mk hcc0
        clear hx hcc0 hx0 hk
        repeat (first
          | ((with_reducible refine gate_callee (f := 37) rfl ?_); (with_reducible refine gate_dst (N := 29) rfl ?_); refine goesL_ (some 29) rfl rfl Tryd.func37 (by kernel_rfl) rfl #[.pointer (some ⟨g, 0, none⟩)] rfl (by (try simp only [List.map_toArray, List.map_cons, List.map_nil]); first | done | rfl) ?_; refine (ruint_calls w0 wr g s2.r HT.out.rd HF.out.fits HF.out.bys).mono ?_; rintro e w1 ⟨rfl, HR1_, G1⟩; refine ⟨_, rfl, ?_⟩; have HT1 := HT.out.read HR1_ G1; have T1 := Aside0.mk (Two.of_g G1 t); have HX1 := Aside0.mk (HX.out.two T1.out hbt.out.symm hbg.out.symm hlt2.out.1 hlt2.out.2); have HS1 := Aside0.mk (T1.out.keep HS.out hrt.out.symm hrg.out.symm); have HR1 := Aside0.mk (row_two HR.out T1.out hg2t.out hg2g.out); obtain ⟨vV, vB, vS, hbx, hb6, hb7, hb8⟩ := HX1.out.at_; have hy5 := (blk_cell hbx 5).trans rfl; have hz5 := blk_frozen hbx 5; clear hbx hb6 hb7 hb8; (try clear ht0); clear HR1_ G1; (try dsimp only))
          | go_step)
        have hk := of_eq_true q0
        have hw : x + 1 = wrap64 (x + 1) := by
          unfold wrap64
          have := hq.out
          have := hLn.out
          omega
        have ht : (x + 1).toNat = x.toNat + 1 := by
          have := hq.out
          omega
        go_roundg (gk - 1)
        case measure => have := hq.out; omega
        case rel =>
          have hfi : Fine (takeF 99 (m1, s2)).2.r := by rw [← hcc.out]; exact HF.out.less hlf.out
          refine ⟨x + 1, (takeF 99 (m1, s2)).1, (takeF 99 (m1, s2)).2, by rw [← hw], ⟨?_, by omega, by omega⟩, ⟨?_⟩, ⟨?_⟩, ⟨hfi⟩, ⟨?_⟩, ⟨?_⟩, ⟨?_⟩, ⟨?_⟩, ⟨?_⟩⟩
          · have := hq.out
            omega
          · rw [ht, ← hk1.out, hcc.out, hp.out]
          · exact HT1.set hbs2.out hbg.out hbt.out 5 _
          · exact HX1.out.commit hbl.out _
          · exact blk_set_far HS1.out (Nat.ne_of_gt (Nat.lt_succ_self _)) 5 _
          · exact row_set HR1.out hg2b.out 5 _
          · exact (T2.out.trans T1.out).set_new (Nat.le_refl _) 5 _
          · exact Nat.le_trans hlo.out (by simpa [World.setCell] using T1.out.size)
      · have hx1 : wr.cell? ⟨g2, x.toNat, none⟩ = some (.int .u8 102) := by rw [hx, hcc0]
        have hcc := Aside0.mk hcc0
        clear hx hcc0 hx0 hk
        repeat (first
          | ((with_reducible refine gate_callee (f := 37) rfl ?_); (with_reducible refine gate_dst (N := 37) rfl ?_); refine goesL_ (some 37) rfl rfl Tryd.func37 (by kernel_rfl) rfl #[.pointer (some ⟨g, 0, none⟩)] rfl (by (try simp only [List.map_toArray, List.map_cons, List.map_nil]); first | done | rfl) ?_; refine (ruint_calls w0 wr g s2.r HT.out.rd HF.out.fits HF.out.bys).mono ?_; rintro e w1 ⟨rfl, HR1_, G1⟩; refine ⟨_, rfl, ?_⟩; have HT1 := HT.out.read HR1_ G1; have T1 := Aside0.mk (Two.of_g G1 t); have HX1 := Aside0.mk (HX.out.two T1.out hbt.out.symm hbg.out.symm hlt2.out.1 hlt2.out.2); have HS1 := Aside0.mk (T1.out.keep HS.out hrt.out.symm hrg.out.symm); have HR1 := Aside0.mk (row_two HR.out T1.out hg2t.out hg2g.out); obtain ⟨vV, vB, vS, hbx, hb6, hb7, hb8⟩ := HX1.out.at_; have hy3 := (blk_cell hbx 3).trans rfl; have hz3 := blk_frozen hbx 3; clear hbx hb6 hb7 hb8; (try clear ht0); clear HR1_ G1; (try dsimp only))
          | go_step)
        have hk := of_eq_true q0
        have hw : x + 1 = wrap64 (x + 1) := by
          unfold wrap64
          have := hq.out
          have := hLn.out
          omega
        have ht : (x + 1).toNat = x.toNat + 1 := by
          have := hq.out
          omega
        go_roundg (gk - 1)
        case measure => have := hq.out; omega
        case rel =>
          have hfi : Fine (takeF 102 (m1, s2)).2.r := by rw [← hcc.out]; exact HF.out.less hlf.out
          refine ⟨x + 1, (takeF 102 (m1, s2)).1, (takeF 102 (m1, s2)).2, by rw [← hw], ⟨?_, by omega, by omega⟩, ⟨?_⟩, ⟨?_⟩, ⟨hfi⟩, ⟨?_⟩, ⟨?_⟩, ⟨?_⟩, ⟨?_⟩, ⟨?_⟩⟩
          · have := hq.out
            omega
          · rw [ht, ← hk1.out, hcc.out, hp.out]
          · exact HT1.set hbs2.out hbg.out hbt.out 3 _
          · exact HX1.out.first hbl.out _
          · exact blk_set_far HS1.out (Nat.ne_of_gt (Nat.lt_succ_self _)) 3 _
          · exact row_set HR1.out hg2b.out 3 _
          · exact (T2.out.trans T1.out).set_new (Nat.le_refl _) 3 _
          · exact Nat.le_trans hlo.out (by simpa [World.setCell] using T1.out.size)
      · have hx1 : wr.cell? ⟨g2, x.toNat, none⟩ = some (.int .u8 108) := by rw [hx, hcc0]
        have hcc := Aside0.mk hcc0
        clear hx hcc0 hx0 hk
        repeat (first
          | ((with_reducible refine gate_callee (f := 37) rfl ?_); (with_reducible refine gate_dst (N := 45) rfl ?_); refine goesL_ (some 45) rfl rfl Tryd.func37 (by kernel_rfl) rfl #[.pointer (some ⟨g, 0, none⟩)] rfl (by (try simp only [List.map_toArray, List.map_cons, List.map_nil]); first | done | rfl) ?_; refine (ruint_calls w0 wr g s2.r HT.out.rd HF.out.fits HF.out.bys).mono ?_; rintro e w1 ⟨rfl, HR1_, G1⟩; refine ⟨_, rfl, ?_⟩; have HT1 := HT.out.read HR1_ G1; have T1 := Aside0.mk (Two.of_g G1 t); have HX1 := Aside0.mk (HX.out.two T1.out hbt.out.symm hbg.out.symm hlt2.out.1 hlt2.out.2); have HS1 := Aside0.mk (T1.out.keep HS.out hrt.out.symm hrg.out.symm); have HR1 := Aside0.mk (row_two HR.out T1.out hg2t.out hg2g.out); obtain ⟨vV, vB, vS, hbx, hb6, hb7, hb8⟩ := HX1.out.at_; have hy4 := (blk_cell hbx 4).trans rfl; have hz4 := blk_frozen hbx 4; clear hbx hb6 hb7 hb8; (try clear ht0); clear HR1_ G1; (try dsimp only))
          | go_step)
        have hk := of_eq_true q0
        have hw : x + 1 = wrap64 (x + 1) := by
          unfold wrap64
          have := hq.out
          have := hLn.out
          omega
        have ht : (x + 1).toNat = x.toNat + 1 := by
          have := hq.out
          omega
        go_roundg (gk - 1)
        case measure => have := hq.out; omega
        case rel =>
          have hfi : Fine (takeF 108 (m1, s2)).2.r := by rw [← hcc.out]; exact HF.out.less hlf.out
          refine ⟨x + 1, (takeF 108 (m1, s2)).1, (takeF 108 (m1, s2)).2, by rw [← hw], ⟨?_, by omega, by omega⟩, ⟨?_⟩, ⟨?_⟩, ⟨hfi⟩, ⟨?_⟩, ⟨?_⟩, ⟨?_⟩, ⟨?_⟩, ⟨?_⟩⟩
          · have := hq.out
            omega
          · rw [ht, ← hk1.out, hcc.out, hp.out]
          · exact HT1.set hbs2.out hbg.out hbt.out 4 _
          · exact HX1.out.last hbl.out _
          · exact blk_set_far HS1.out (Nat.ne_of_gt (Nat.lt_succ_self _)) 4 _
          · exact row_set HR1.out hg2b.out 4 _
          · exact (T2.out.trans T1.out).set_new (Nat.le_refl _) 4 _
          · exact Nat.le_trans hlo.out (by simpa [World.setCell] using T1.out.size)
      · have hx1 : wr.cell? ⟨g2, x.toNat, none⟩ = some (.int .u8 112) := by rw [hx, hcc0]
        have hcc := Aside0.mk hcc0
        clear hx hcc0 hx0 hk
        repeat (first
          | ((with_reducible refine gate_callee (f := 60) rfl ?_); (with_reducible refine gate_dst (N := 50) rfl ?_); refine goesL_ (some 50) rfl rfl Tryd.func60 (by kernel_rfl) rfl #[.pointer (some ⟨t, 0, none⟩)] rfl (by (try simp only [List.map_toArray, List.map_cons, List.map_nil]); first | done | rfl) ?_; refine (ttext_callsW w0 wr t g s2 HT.out HF.out (W.heap.size + 2)).mono ?_; rintro e w1 ⟨v, rfl, HV, HT1, T1_⟩; refine ⟨_, rfl, ?_⟩; have T1 := Aside0.mk T1_; obtain ⟨Av, cv, rfl⟩ := V2_slice HV; have HV' := Aside0.mk (V2_mono HV (ok' := fun k => W.heap.size + 2 ≤ k) (fun k hk => Nat.le_trans hlo.out hk)); have HX1 := Aside0.mk (HX.out.two T1.out hbt.out.symm hbg.out.symm hlt2.out.1 hlt2.out.2); have HS1 := Aside0.mk (T1.out.keep HS.out hrt.out.symm hrg.out.symm); have HR1 := Aside0.mk (row_two HR.out T1.out hg2t.out hg2g.out); obtain ⟨vV, vB, vS, hbx, hb6, hb7, hb8⟩ := HX1.out.at_; have hy8 := (blk_cell hbx 8).trans rfl; have hz8 := blk_frozen hbx 8; clear hbx hb6 hb7 hb8; (try clear ht0); clear T1_ HV; (try dsimp only))
          | go_step)
        have hk := of_eq_true q0
        have hw : x + 1 = wrap64 (x + 1) := by
          unfold wrap64
          have := hq.out
          have := hLn.out
          omega
        have ht : (x + 1).toNat = x.toNat + 1 := by
          have := hq.out
          omega
        go_roundg (gk - 1)
        case measure => have := hq.out; omega
        case rel =>
          have hfi : Fine (takeF 112 (m1, s2)).2.r := by rw [← hcc.out]; exact HF.out.less hlf.out
          refine ⟨x + 1, (takeF 112 (m1, s2)).1, (takeF 112 (m1, s2)).2, by rw [← hw], ⟨?_, by omega, by omega⟩, ⟨?_⟩, ⟨?_⟩, ⟨hfi⟩, ⟨?_⟩, ⟨?_⟩, ⟨?_⟩, ⟨?_⟩, ⟨?_⟩⟩
          · have := hq.out
            omega
          · rw [ht, ← hk1.out, hcc.out, hp.out]
          · exact HT1.set hbs2.out hbg.out hbt.out 8 _
          · exact HX1.out.S hbl.out HV'.out
          · exact blk_set_far HS1.out (Nat.ne_of_gt (Nat.lt_succ_self _)) 8 _
          · exact row_set HR1.out hg2b.out 8 _
          · exact (T2.out.trans T1.out).set_new (Nat.le_refl _) 8 _
          · exact Nat.le_trans hlo.out (by simpa [World.setCell] using T1.out.size)
      · have hx1 : wr.cell? ⟨g2, x.toNat, none⟩ = some (.int .u8 115) := by rw [hx, hcc0]
        have hcc := Aside0.mk hcc0
        clear hx hcc0 hx0 hk
        repeat (first
          | ((with_reducible refine gate_callee (f := 61) rfl ?_); (with_reducible refine gate_dst (N := 57) rfl ?_); refine goesL_ (some 57) rfl rfl Tryd.func61 (by kernel_rfl) rfl #[.pointer (some ⟨t, 0, none⟩), .int .i64 16, .func (.func 60) #[.pointer (some ⟨t, 0, none⟩)] #[]] rfl (by (try simp only [List.map_toArray, List.map_cons, List.map_nil]); first | done | rfl) ?_; refine (rows61_callsW w0 wr t g s2 HT.out HF.out).mono ?_; rintro e w1 ⟨v, rfl, HV, HT1, T1_⟩; refine ⟨_, rfl, ?_⟩; have T1 := Aside0.mk T1_; obtain ⟨Av, cv, rfl⟩ := V2_slice HV; have HV' := Aside0.mk (V2_mono HV (ok' := fun k => W.heap.size + 2 ≤ k) (fun k hk => Nat.le_trans hlo.out hk)); have HX1 := Aside0.mk (HX.out.two T1.out hbt.out.symm hbg.out.symm hlt2.out.1 hlt2.out.2); have HS1 := Aside0.mk (T1.out.keep HS.out hrt.out.symm hrg.out.symm); have HR1 := Aside0.mk (row_two HR.out T1.out hg2t.out hg2g.out); obtain ⟨vV, vB, vS, hbx, hb6, hb7, hb8⟩ := HX1.out.at_; have hy7 := (blk_cell hbx 7).trans rfl; have hz7 := blk_frozen hbx 7; clear hbx hb6 hb7 hb8; (try clear ht0); clear T1_ HV; (try dsimp only))
          | go_step)
        have hk := of_eq_true q0
        have hw : x + 1 = wrap64 (x + 1) := by
          unfold wrap64
          have := hq.out
          have := hLn.out
          omega
        have ht : (x + 1).toNat = x.toNat + 1 := by
          have := hq.out
          omega
        go_roundg (gk - 1)
        case measure => have := hq.out; omega
        case rel =>
          have hfi : Fine (takeF 115 (m1, s2)).2.r := by rw [← hcc.out]; exact HF.out.less hlf.out
          refine ⟨x + 1, (takeF 115 (m1, s2)).1, (takeF 115 (m1, s2)).2, by rw [← hw], ⟨?_, by omega, by omega⟩, ⟨?_⟩, ⟨?_⟩, ⟨hfi⟩, ⟨?_⟩, ⟨?_⟩, ⟨?_⟩, ⟨?_⟩, ⟨?_⟩⟩
          · have := hq.out
            omega
          · rw [ht, ← hk1.out, hcc.out, hp.out]
          · exact HT1.set hbs2.out hbg.out hbt.out 7 _
          · exact HX1.out.B hbl.out HV'.out
          · exact blk_set_far HS1.out (Nat.ne_of_gt (Nat.lt_succ_self _)) 7 _
          · exact row_set HR1.out hg2b.out 7 _
          · exact (T2.out.trans T1.out).set_new (Nat.le_refl _) 7 _
          · exact Nat.le_trans hlo.out (by simpa [World.setCell] using T1.out.size)
      · have hx1 : wr.cell? ⟨g2, x.toNat, none⟩ = some (.int .u8 118) := by rw [hx, hcc0]
        have hcc := Aside0.mk hcc0
        clear hx hcc0 hx0 hk
        repeat (first
          | ((with_reducible refine gate_callee (f := 62) rfl ?_); (with_reducible refine gate_dst (N := 64) rfl ?_); refine goesL_ (some 64) rfl rfl Tryd.func62 (by kernel_rfl) rfl #[.pointer (some ⟨t, 0, none⟩), .int .i64 256, .func (.func 63) #[.pointer (some ⟨t, 0, none⟩)] #[]] rfl (by (try simp only [List.map_toArray, List.map_cons, List.map_nil]); first | done | rfl) ?_; refine (rows62_callsW w0 wr t g s2 HT.out HF.out).mono ?_; rintro e w1 ⟨v, rfl, HV, HT1, T1_⟩; refine ⟨_, rfl, ?_⟩; have T1 := Aside0.mk T1_; obtain ⟨Av, cv, rfl⟩ := V2_slice HV; have HV' := Aside0.mk (V2_mono HV (ok' := fun k => W.heap.size + 2 ≤ k) (fun k hk => Nat.le_trans hlo.out hk)); have HX1 := Aside0.mk (HX.out.two T1.out hbt.out.symm hbg.out.symm hlt2.out.1 hlt2.out.2); have HS1 := Aside0.mk (T1.out.keep HS.out hrt.out.symm hrg.out.symm); have HR1 := Aside0.mk (row_two HR.out T1.out hg2t.out hg2g.out); obtain ⟨vV, vB, vS, hbx, hb6, hb7, hb8⟩ := HX1.out.at_; have hy6 := (blk_cell hbx 6).trans rfl; have hz6 := blk_frozen hbx 6; clear hbx hb6 hb7 hb8; (try clear ht0); clear T1_ HV; (try dsimp only))
          | go_step)
        have hk := of_eq_true q0
        have hw : x + 1 = wrap64 (x + 1) := by
          unfold wrap64
          have := hq.out
          have := hLn.out
          omega
        have ht : (x + 1).toNat = x.toNat + 1 := by
          have := hq.out
          omega
        go_roundg (gk - 1)
        case measure => have := hq.out; omega
        case rel =>
          have hfi : Fine (takeF 118 (m1, s2)).2.r := by rw [← hcc.out]; exact HF.out.less hlf.out
          refine ⟨x + 1, (takeF 118 (m1, s2)).1, (takeF 118 (m1, s2)).2, by rw [← hw], ⟨?_, by omega, by omega⟩, ⟨?_⟩, ⟨?_⟩, ⟨hfi⟩, ⟨?_⟩, ⟨?_⟩, ⟨?_⟩, ⟨?_⟩, ⟨?_⟩⟩
          · have := hq.out
            omega
          · rw [ht, ← hk1.out, hcc.out, hp.out]
          · exact HT1.set hbs2.out hbg.out hbt.out 6 _
          · exact HX1.out.V hbl.out HV'.out
          · exact blk_set_far HS1.out (Nat.ne_of_gt (Nat.lt_succ_self _)) 6 _
          · exact row_set HR1.out hg2b.out 6 _
          · exact (T2.out.trans T1.out).set_new (Nat.le_refl _) 6 _
          · exact Nat.le_trans hlo.out (by simpa [World.setCell] using T1.out.size)
    · have c0 : decide (x < ((fldI k).length : Int)) = false := decide_eq_false q0
      have hk2 : x.toNat = (fldI k).length := by have := hq.out; omega
      have hpe := hp.out
      rw [hk2, List.take_length] at hpe
      have hkk : m1.k = k := by
        have : ∀ (l : List Int) (p : Mg × TS), (takesF l p).1.k = p.1.k := by
          intro l
          induction l with
          | nil => intro p; rfl
          | cons c l ih => intro p; exact (ih _).trans (k_takeF c p)
        have h3 := this (fldI k) (m0 k, s)
        rw [hpe] at h3
        exact h3
      have hpe' := Aside0.mk hpe
      obtain ⟨vV, vB, vS, hbx, h6, h7, h8⟩ := HX.out.at_
      rw [hkk] at hbx
      obtain ⟨A6, c6, rfl⟩ := V2_slice h6
      obtain ⟨A7, c7, rfl⟩ := V2_slice h7
      obtain ⟨A8, c8, rfl⟩ := V2_slice h8
      have h6' := Aside0.mk h6
      have h7' := Aside0.mk h7
      have h8' := Aside0.mk h8
      have hy0 := (blk_cell hbx 0).trans rfl
      have hx0 := (blk_cell HS.out 0).trans rfl
      have hz0 := blk_frozen HS.out 0
      have hy1 := (blk_cell hbx 1).trans rfl
      have hx1 := (blk_cell HS.out 1).trans rfl
      have hz1 := blk_frozen HS.out 1
      have hy2 := (blk_cell hbx 2).trans rfl
      have hx2 := (blk_cell HS.out 2).trans rfl
      have hz2 := blk_frozen HS.out 2
      have hy3 := (blk_cell hbx 3).trans rfl
      have hx3 := (blk_cell HS.out 3).trans rfl
      have hz3 := blk_frozen HS.out 3
      have hy4 := (blk_cell hbx 4).trans rfl
      have hx4 := (blk_cell HS.out 4).trans rfl
      have hz4 := blk_frozen HS.out 4
      have hy5 := (blk_cell hbx 5).trans rfl
      have hx5 := (blk_cell HS.out 5).trans rfl
      have hz5 := blk_frozen HS.out 5
      have hy6 := (blk_cell hbx 6).trans rfl
      have hx6 := (blk_cell HS.out 6).trans rfl
      have hz6 := blk_frozen HS.out 6
      have hy7 := (blk_cell hbx 7).trans rfl
      have hx7 := (blk_cell HS.out 7).trans rfl
      have hz7 := blk_frozen HS.out 7
      have hy8 := (blk_cell hbx 8).trans rfl
      have hx8 := (blk_cell HS.out 8).trans rfl
      have hz8 := blk_frozen HS.out 8
      clear q0 hk hbx h6 h7 h8 hkk hpe
      repeat go_step
      rw [hpe'.out]
      have hS9 := set9 HS.out (.int .u8 k) (.int .u64 m1.n) (.int .i64 m1.r) (.int .u64 m1.first) (.int .u64 m1.last) (.int .u64 m1.commit) (.slice A6 m1.V.length c6) (.slice A7 m1.B.length c7) (.slice A8 m1.S.length c8)
      refine bodyPost_ret (results_cell_row rfl _ _ (W.heap.size + 1) 29 _ (0, 0) _ rfl hS9.1 Tryd.underlying29 rfl (by kernel_rfl)) rfl ?_
      have hok : ∀ k, W.heap.size + 2 ≤ k → some k ≠ some (W.heap.size + 1) := fun k hk e => by have := Option.some.inj e; omega
      have hu : ∀ k, (Value.slice (some ⟨W.heap.size + 1, 0, none⟩) 0 0).ownBlock = some k → W.heap.size ≤ k := fun k hk => by have : W.heap.size + 1 = k := Option.some.inj hk; omega
      exact ⟨_, _, _, rfl, V2_map (V2_mono (V2_grown h6'.out hS9.2 hok) (fun k hk => by omega)) (fun _ hf => hf), V2_map (V2_mono (V2_grown h7'.out hS9.2 hok) (fun k hk => by omega)) (fun _ hf => hf), V2_map (V2_mono (V2_grown h8'.out hS9.2 hok) (fun k hk => by omega)) (fun _ hf => hf),
        Tk_grown (u := .slice (some ⟨W.heap.size + 1, 0, none⟩) 0 0) HT.out hS9.2 hlt'.out hu, T2.out.trans_own (u := .slice (some ⟨W.heap.size + 1, 0, none⟩) 0 0) hS9.2 hu⟩
def TakeW (w : World) (p : Mg × Int) (e : Ending) (w' : World) : Prop :=
  ∃ vV vB vS, e = .returned (.tuple #[.agg #[.int .u8 p.1.k, .int .u64 p.1.n, .int .i64 p.1.r, .int .u64 p.1.first, .int .u64 p.1.last, .int .u64 p.1.commit, vV, vB, vS], .int .i64 p.2]) ∧
    V2 DV w' w.heap.size (fun k => w.heap.size ≤ k) vV p.1.V ∧ V2 DB w' w.heap.size (fun k => w.heap.size ≤ k) vB p.1.B ∧ V2 KW w' w.heap.size (fun k => w.heap.size ≤ k) vS p.1.S ∧ Below w.heap.size w w'
set_option maxHeartbeats 1000000 in
set_option maxRecDepth 100000 in
theorem Take_okW (A : Option Addr) (n c : Nat) (l : List Int) (hl : l.length = n) (hn : 5 ≤ n) (hc : n ≤ c) (w : World) (T : Tabs w) (hr : Kd.C (Kd.int .u8) w A n l) (hb : Bys l) (hf : Fits n) (hOk : sumOk l = true) (hkk : knownB (nR (rs0 l)).1 = true) (hbd_ : (takenM l).2.bad = false) (hdn_ : (doneR (takenM l).2.r).1 = 0) (hce_ : checkM (takenM l).1 (nR (rs0 l)).1.toNat = true) :
    Calls Tryd.prog 17 #[.slice A n c] w (TakeW w ((takenM l).1, 0)) := by
  have hn1 : (5 : Int) ≤ n := by omega
  have c0 : decide ((n : Int) < 5) = false := decide_eq_false (by omega)
  have hn2 : 4 ≤ n := by omega
  have hn3 : (n : Int) < 140737488355328 := by have := hf; unfold Fits at this; omega
  have hcn : n ≤ c := hc
  have hm1 : (4 ≤ (n : Int)) = True := eq_true (by omega)
  have hm2 : (4 ≤ (c : Int)) = True := eq_true (by omega)
  have hcn4 : 4 ≤ c := by omega
  have e4 : (l.drop 4).length = n - 4 := by rw [List.length_drop, hl]
  have hDr : Kd.C (Kd.int .u8) w (if c = 4 then A else Option.map (fun x => (⟨x.block, x.off + 4, none⟩ : Addr)) A) (l.drop 4).length (l.drop 4) := by
    have := Kd.C_drop (m := 4) (c := c) (by rw [hl]; exact hr) (by omega) (by omega)
    exact this
  have hTk : Kd.C (Kd.int .u8) w A 4 (l.take 4) := by
    have := Kd.C_take (m := 4) (by rw [hl]; exact hr) (by omega)
    rwa [show (l.take 4).length = 4 from by simp; omega] at this
  have hbd : Bys (l.drop 4) := fun x hx => hb x (List.mem_of_mem_drop hx)
  have hfd : Fits (l.drop 4).length := by unfold Fits at *; omega
  have hSum : Aside0 (∀ W, Below w.heap.size w W → Calls Tryd.prog 27 #[.slice (if c = 4 then A else Option.map (fun x => (⟨x.block, x.off + 4, none⟩ : Addr)) A) (n - 4) (c - 4)] W fun e w' => ∃ g, W.heap.size ≤ g ∧ e = .returned (.slice (some ⟨g, 0, none⟩) 4 4) ∧ w'.heap[g]? = some (.cells (nums .u8 (sumB (l.drop 4))).toArray 5 (0, 0)) ∧ Below W.heap.size W w') := by
    refine ⟨fun W hW => ?_⟩
    have := sum_calls (if c = 4 then A else Option.map (fun x => (⟨x.block, x.off + 4, none⟩ : Addr)) A) (c - 4) (l.drop 4) W (T.below hW) (Kd.C_below hDr hW) hbd hfd
    rwa [e4] at this
  have hEq : Aside0 (∀ (g : Nat) (W : World), Below w.heap.size w W → W.heap[g]? = some (.cells (nums .u8 (sumB (l.drop 4))).toArray 5 (0, 0)) → Calls Tryd.prog 35 #[.slice (some ⟨g, 0, none⟩) 4 4, .slice A 4 c] W fun e w' => e = .returned (.bool true) ∧ Below W.heap.size W w') := by
    refine ⟨fun g W hW hg => ?_⟩
    have h1 := (Kd.R_reads' (Kd.R_of_own (enc := Value.int .u8) (h1 := fun _ => rfl) (ok := fun _ => True) (own_four hg (Nat.zero_le g)) (fun _ _ => trivial))).2.2
    have h2 := Kd.C_below hTk hW
    have h3 : (l.take 4).length = 4 := by simp; omega
    have := bytes_Equal.calls (some ⟨g, 0, none⟩) 4 (sumB (l.drop 4)) A c (l.take 4) true W h1 (Nat.le_refl _) (by rw [h3]; exact h2) (by omega) (by unfold bytes_Equal.f; rw [← hOk]; rfl)
    rw [h3] at this
    refine this.mono ?_
    rintro e w' ⟨rfl, hD⟩
    exact ⟨rfl, below_drawn hD⟩
  obtain ⟨kd, s1, hks⟩ : ∃ kd s1, nR (rs0 l) = (kd, s1) := ⟨_, _, rfl⟩
  have hU : U kd := by have := nR_U (s := rs0 l) hbd; rwa [hks] at this
  have hlim : (0 : Int) ≤ (rs0 l).lim ∧ (rs0 l).lim < 9223372036854775808 := by show (0 : Int) ≤ (l.length : Int) ∧ (l.length : Int) < _; unfold Fits at hf; omega
  have hFn1 : Fine s1 := by have := (Fine.mk hfd hbd hlim : Fine (rs0 l)).less (less_nR (rs0 l)); rwa [hks] at this
  rw [hks] at hkk
  obtain ⟨k, rfl⟩ := Int.eq_ofNat_of_zero_le hU.1
  have hkb := of_decide_eq_true hkk
  have hkn : Aside0 (knownB (k : Int) = true) := ⟨hkk⟩
  have hk0 := Aside0.mk hU.1
  have hk9 : k < 9 := by omega
  have hk8 : (k : Int) < 9 := by omega
  obtain ⟨m, ts, hts⟩ : ∃ m ts, takesF (fldI k) (m0 k, ⟨s1, false⟩) = (m, ts) := ⟨_, _, rfl⟩
  have htk : takenM l = (m, ts) := by unfold takenM; rw [hks]; exact hts
  rw [htk] at hbd_ hdn_ hce_ ⊢
  have hmk : Aside0 (m.k = k) := by
    have : ∀ (l : List Int) (p : Mg × TS), (takesF l p).1.k = p.1.k := by
      intro l
      induction l with
      | nil => intro p; rfl
      | cons c l ih => intro p; exact (ih _).trans (k_takeF c p)
    have h3 := this (fldI k) (m0 k, ⟨s1, false⟩)
    rw [hts] at h3
    exact ⟨h3⟩
  have hFts : Aside0 (Fine ts.r) := by
    have : ∀ (l : List Int) (p : Mg × TS), Less p.2.r (takesF l p).2.r := by
      intro l
      induction l with
      | nil => intro p; exact Less.refl _
      | cons c l ih => intro p; exact (less_takeF c p).trans (ih _)
    have h3 := this (fldI k) (m0 k, ⟨s1, false⟩)
    rw [hts] at h3
    exact ⟨hFn1.less h3⟩
  have hTake : Aside0 (∀ (W : World) (t g : Nat), Tk w W t g ⟨s1, false⟩ → Below w.heap.size w W → Calls Tryd.prog 38 #[.pointer (some ⟨t, 0, none⟩), .agg #[.int .u8 k, .int .u64 0, .int .i64 0, .int .u64 0, .int .u64 0, .int .u64 0, .slice none 0 0, .slice none 0 0, .slice none 0 0]] W fun e w' => ∃ vV vB vS, e = .returned (.agg #[.int .u8 k, .int .u64 m.n, .int .i64 m.r, .int .u64 m.first, .int .u64 m.last, .int .u64 m.commit, vV, vB, vS]) ∧ V2 DV w' W.heap.size (fun k => W.heap.size ≤ k) vV m.V ∧ V2 DB w' W.heap.size (fun k => W.heap.size ≤ k) vB m.B ∧ V2 KW w' W.heap.size (fun k => W.heap.size ≤ k) vS m.S ∧ Tk w w' t g ts ∧ Two W w' t g) := by
    refine ⟨fun W t g hT hB => ?_⟩
    have := take_callsW w W t g ⟨s1, false⟩ hT hFn1 (T.below hB) k k rfl hk9
    rwa [hts] at this
  have hbad : Aside0 (ts.bad = false) := ⟨hbd_⟩
  have hdn : Aside0 ((doneR ts.r).1 = 0) := ⟨hdn_⟩
  have hce : Aside0 (errI (checkM m k) = 0) := ⟨by rw [show checkM m k = true from by rw [hks] at hce_; exact hce_]; rfl⟩
  have hk256 := Aside0.mk (show k < 256 by omega)
  have hfV : Aside0 (Fits m.V.length) := ⟨by
    have h3 := takes_V (fldI k) (m0 k, ⟨s1, false⟩) (by show ([] : List S52).length ≤ 256; simp)
    rw [hts] at h3
    unfold Fits
    have h4 : m.V.length ≤ 256 := h3
    omega⟩
  have hChk : Aside0 (∀ (W : World) (A6 A7 A8 : Option Addr) (c6 c7 c8 : Nat), Below w.heap.size w W → m.At W A6 A7 A8 → m.V.length ≤ c6 → m.B.length ≤ c7 → m.S.length ≤ c8 → Calls Tryd.prog 10 #[.agg #[.int .u8 k, .int .u64 m.n, .int .i64 m.r, .int .u64 m.first, .int .u64 m.last, .int .u64 m.commit, .slice A6 m.V.length c6, .slice A7 m.B.length c7, .slice A8 m.S.length c8]] W fun e w' => e = .returned (.int .i64 (errI (checkM m k))) ∧ Below W.heap.size W w') := by
    refine ⟨fun W A6 A7 A8 c6 c7 c8 hB hAt h6 h7 h8 => ?_⟩
    have := check_m m k hmk.out hk256.out hfV.out A6 A7 A8 c6 c7 c8 W (T.below hB) hAt h6 h7 h8 W (Below.refl _ _)
    unfold Mg.cells at this
    rwa [hmk.out] at this
  have hDr2 : Kd.C (Kd.int .u8) w (Option.map (fun x => (⟨x.block, x.off + 4, none⟩ : Addr)) A) (l.drop 4).length (l.drop 4) := by
    have := hDr
    rwa [if_neg (by omega)] at this
  have hNum : Aside0 (∀ (g : Nat) (V : World), Rd w V g (rs0 l) → Calls Tryd.prog 37 #[.pointer (some ⟨g, 0, none⟩)] V fun e w' => e = .returned (.int .u64 k) ∧ Rd w w' g s1 ∧ V.grownBy w' (some g)) := ⟨fun g V hV => num_at w g hfd hbd hks V hV⟩
  have hStart : Aside0 (∀ (w3 : World), Below w.heap.size w w3 → Tk w ((w3.alloc (.cells #[.int .i64 0, .slice (Option.map (fun x => (⟨x.block, x.off + 4, none⟩ : Addr)) A) (n - 4) (c - 4), .int .i64 n] 99)).alloc (.cells #[.pointer (some ⟨w3.heap.size, 0, none⟩), .bool false] 73)) (w3.heap.size + 1) w3.heap.size ⟨rs0 l, false⟩) := ⟨fun w3 hB => start_Tk hB e4 hl hc hDr2⟩
  have hTab := Aside0.mk T
  have hX := Aside0.mk (heap_alloc_new w (.cells #[.int .u8 0, .int .u64 0, .int .i64 0, .int .u64 0, .int .u64 0, .int .u64 0, .slice none 0 0, .slice none 0 0, .slice none 0 0] 29))
  clear hr hf hb hOk T hl hn hc hDr hDr2 hTk hbd hfd e4 hks hU hkk hlim hFn1 hkb hk9 hts htk hbd_ hdn_ hce_
  go_enter Tryd.func17, Tryd.ntmps17
  go_wp2
  have hX1 := Aside0.mk (blk_drew hX.out)
  have hW1 := Aside0.mk (below_drew1 (bel1 w (.cells #[.int .u8 0, .int .u64 0, .int .i64 0, .int .u64 0, .int .u64 0, .int .u64 0, .slice none 0 0, .slice none 0 0, .slice none 0 0] 29)))
  refine start_ (n := 8) (S := fun _ => True) (ds := []) #[false, false, false, false, false, false, false, false] (by kernel_rfl) rfl rfl trivial (fun hHeld => ?_)
  refine pure_ (i := 0) (N := some 13) (v := ?_) (a' := ?_) #[true, false, false, false, false, false, false, false] rfl rfl (by kernel_rfl) (fun _ _ _ h => h) (Or.inl ⟨by rfl, ?_⟩) ?_ ?_
  rotate_left
  · intro w'
    go_simp
    with_reducible rfl
  rotate_left
  · simp only [Act.put, List.setIfInBounds_toArray, List.set_cons_zero, List.set_cons_succ, i64_w, i32_w]
    rfl
  refine pure_ (i := 3) (N := some 16) (v := ?_) (a' := ?_) #[true, false, false, true, false, false, false, false] rfl rfl (by kernel_rfl) (fun _ _ _ h => h) (Or.inl ⟨by rfl, ?_⟩) ?_ ?_
  rotate_left
  · intro w'
    go_simp
    with_reducible rfl
  rotate_left
  · simp only [Act.put, List.setIfInBounds_toArray, List.set_cons_zero, List.set_cons_succ, i64_w, i32_w]
    rfl
  refine pure_ (i := 1) (N := some 14) (v := ?_) (a' := ?_) #[true, true, false, true, false, false, false, false] rfl rfl (by kernel_rfl) (fun _ _ _ h => h) (Or.inl ⟨by rfl, ?_⟩) ?_ ?_
  rotate_left
  · intro w'
    go_simp
    with_reducible rfl
  rotate_left
  · simp only [Act.put, List.setIfInBounds_toArray, List.set_cons_zero, List.set_cons_succ, i64_w, i32_w]
    rfl
  refine pure_ (i := 4) (N := some 17) (v := ?_) (a' := ?_) #[true, true, false, true, true, false, false, false] rfl rfl (by kernel_rfl) (fun _ _ _ h => h) (Or.inl ⟨by rfl, ?_⟩) ?_ ?_
  rotate_left
  · intro w'
    go_simp
    with_reducible rfl
  rotate_left
  · simp only [Act.put, List.setIfInBounds_toArray, List.set_cons_zero, List.set_cons_succ, i64_w, i32_w]
    rfl
  refine one_ (i := 2) (N := some 15) #[true, true, true, true, true, false, false, false] rfl rfl (by kernel_rfl) (by decide) (fun K hK => ?_)
  refine goes_ Tryd.func27 (by kernel_rfl) rfl #[.slice (if c = 4 then A else Option.map (fun x => (⟨x.block, x.off + 4, none⟩ : Addr)) A) (n - 4) (c - 4)] (by rfl) rfl rfl (by (try simp only [List.map_toArray, List.map_cons, List.map_nil]); first | done | rfl) ?_
  refine (hSum.out _ hW1.out).mono ?_
  rintro e w2 ⟨g2, hg2, rfl, hh2, hB2⟩
  refine ⟨_, rfl, ?_⟩
  have hB2' := Aside0.mk (hW1.out.trans (hB2.mono hW1.out.size))
  have hX2 := Aside0.mk (blk_below hX1.out hB2)
  have hg2' := Aside0.mk hh2
  clear hB2 hh2
  refine hK.out _ _ trivial (fun hHeld => ?_)
  clear hK K
  refine norm_ (a' := ?_) ?_ ?_
  rotate_left
  · show Act.put _ (some 15) _ = _
    simp only [Act.put, List.setIfInBounds_toArray, List.set_cons_zero, List.set_cons_succ, i64_w, i32_w]
    rfl
  refine one_ (i := 5) (N := some 18) #[true, true, true, true, true, true, false, false] rfl rfl (by kernel_rfl) (by decide) (fun K hK => ?_)
  refine goes_ Tryd.func35 (by kernel_rfl) rfl #[.slice (some ⟨g2, 0, none⟩) 4 4, .slice A 4 c] (by rfl) rfl rfl (by (try simp only [List.map_toArray, List.map_cons, List.map_nil]); first | done | rfl) ?_
  refine (hEq.out g2 w2 hB2'.out hg2'.out).mono ?_
  rintro e w3 ⟨rfl, hD3⟩
  refine ⟨_, rfl, ?_⟩
  have hB3 := Aside0.mk (hB2'.out.trans (hD3.mono hB2'.out.size))
  have hX3 := Aside0.mk (blk_below hX2.out hD3)
  clear hD3 hX2 hB2' hg2'
  refine hK.out _ _ trivial (fun hHeld => ?_)
  clear hK K
  refine norm_ (a' := ?_) ?_ ?_
  rotate_left
  · show Act.put _ (some 18) _ = _
    simp only [Act.put, List.setIfInBounds_toArray, List.set_cons_zero, List.set_cons_succ, i64_w, i32_w]
    rfl
  refine pure_ (i := 6) (N := some 19) (v := ?_) (a' := ?_) #[true, true, true, true, true, true, true, false] rfl rfl (by kernel_rfl) (fun _ _ _ h => h) (Or.inl ⟨by rfl, ?_⟩) ?_ ?_
  rotate_left
  · intro w'
    go_simp
    with_reducible rfl
  rotate_left
  · simp only [Act.put, List.setIfInBounds_toArray, List.set_cons_zero, List.set_cons_succ, i64_w, i32_w]
    rfl
  refine pure_ (i := 7) (N := some 12) (v := ?_) (a' := ?_) #[true, true, true, true, true, true, true, true] rfl rfl (by kernel_rfl) (fun _ _ _ h => h) (Or.inl ⟨by rfl, ?_⟩) ?_ ?_
  rotate_left
  · intro w'
    go_simp
    with_reducible rfl
  rotate_left
  · simp only [Act.put, List.setIfInBounds_toArray, List.set_cons_zero, List.set_cons_succ, i64_w, i32_w]
    rfl
  refine done_ (by kernel_rfl) ?_
  repeat (first
    | ((with_reducible refine gate_callee (f := 36) rfl ?_); (with_reducible refine gate_dst (N := 25) rfl ?_); refine goesL_ (some 25) rfl rfl Tryd.func36 (by kernel_rfl) rfl #[.slice (Option.map (fun x => (⟨x.block, x.off + 4, none⟩ : Addr)) A) (n - 4) (c - 4), .int .i64 n] rfl (by (try simp only [List.map_toArray, List.map_cons, List.map_nil]); first | done | rfl) ?_; refine (newr_calls _ _ _ _ _).mono ?_; rintro e w4 ⟨rfl, rfl⟩; refine ⟨_, rfl, ?_⟩; have hTk5 := hStart.out _ hB3.out; have ht0 := (blk_cell hTk5.box 0).trans rfl; (try dsimp only))
    | ((with_reducible refine gate_callee (f := 37) rfl ?_); (with_reducible refine gate_dst (N := 32) rfl ?_); refine goesL_ (some 32) rfl rfl Tryd.func37 (by kernel_rfl) rfl #[.pointer (some ⟨w3.heap.size, 0, none⟩)] rfl (by (try simp only [List.map_toArray, List.map_cons, List.map_nil]); first | done | rfl) ?_; refine (hNum.out _ _ hTk5.rd).mono ?_; rintro e w5 ⟨rfl, HR5, G5⟩; refine ⟨_, rfl, ?_⟩; have hT5 := Aside0.mk (hTk5.read HR5 G5); have hX5 := Aside0.mk (blk_grown (blk_alloc (blk_alloc hX3.out _) _) G5 (fun e => Nat.lt_irrefl _ (Nat.lt_of_lt_of_le (blk_lt hX3.out) (Nat.le_of_eq (Option.some.inj e).symm)))); have hB5 := Aside0.mk ((below_alloc (below_alloc hB3.out _) _).trans (grown_bel G5 hB3.out.size (Nat.le_trans hB3.out.size (by simp; omega)))); have G5' := Aside0.mk G5; clear HR5 G5 ht0 hTk5; (try dsimp only))
    | ((with_reducible refine gate_callee (f := 20) rfl ?_); (with_reducible refine gate_dst (N := 34) rfl ?_); refine goesL_ (some 34) rfl rfl Tryd.func20 (by kernel_rfl) rfl #[.int .u64 k] rfl (by (try simp only [List.map_toArray, List.map_cons, List.map_nil]); first | done | rfl) ?_; refine (known_calls _ hk0.out _ (hTab.out.below hB5.out)).mono ?_; rintro e w6 ⟨rfl, rfl⟩; refine ⟨_, rfl, ?_⟩; rw [hkn.out]; (try dsimp only))
    | ((with_reducible refine gate_callee (f := 38) rfl ?_); (with_reducible refine gate_dst (N := 41) rfl ?_); refine goesL_ (some 41) rfl rfl Tryd.func38 (by kernel_rfl) rfl #[.pointer (some ⟨w3.heap.size + 1, 0, none⟩), .agg #[.int .u8 k, .int .u64 0, .int .i64 0, .int .u64 0, .int .u64 0, .int .u64 0, .slice none 0 0, .slice none 0 0, .slice none 0 0]] rfl (by (try simp only [List.map_toArray, List.map_cons, List.map_nil]); first | done | rfl) ?_; refine (hTake.out w5 _ _ hT5.out hB5.out).mono ?_; rintro e w7 ⟨vV, vB, vS, rfl, HV, HB_, HS_, HT7, T7⟩; refine ⟨_, rfl, ?_⟩; obtain ⟨A6, c6, rfl⟩ := V2_slice HV; obtain ⟨A7, c7, rfl⟩ := V2_slice HB_; obtain ⟨A8, c8, rfl⟩ := V2_slice HS_; have hBx := Aside0.mk (heap_alloc_new w7 (.cells #[.int .u8 k, .int .u64 m.n, .int .i64 m.r, .int .u64 m.first, .int .u64 m.last, .int .u64 m.commit, .slice A6 m.V.length c6, .slice A7 m.B.length c7, .slice A8 m.S.length c8] 29)); have hT8 := HT7.below (bel1 w7 (.cells #[.int .u8 k, .int .u64 m.n, .int .i64 m.r, .int .u64 m.first, .int .u64 m.last, .int .u64 m.commit, .slice A6 m.V.length c6, .slice A7 m.B.length c7, .slice A8 m.S.length c8] 29)); have hX7 := T7.keep hX5.out (Nat.ne_of_lt (Nat.lt_succ_of_lt (blk_lt hX3.out))) (Nat.ne_of_lt (blk_lt hX3.out)); have hX8 := Aside0.mk (blk_alloc hX7 (.cells #[.int .u8 k, .int .u64 m.n, .int .i64 m.r, .int .u64 m.first, .int .u64 m.last, .int .u64 m.commit, .slice A6 m.V.length c6, .slice A7 m.B.length c7, .slice A8 m.S.length c8] 29)); have hB7 := T7.bel hB5.out.size (Nat.le_succ_of_le hB3.out.size) hB3.out.size; have hB8 := Aside0.mk (below_alloc (hB5.out.trans hB7) (.cells #[.int .u8 k, .int .u64 m.n, .int .i64 m.r, .int .u64 m.first, .int .u64 m.last, .int .u64 m.commit, .slice A6 m.V.length c6, .slice A7 m.B.length c7, .slice A8 m.S.length c8] 29)); have hV8 := Aside0.mk (V2_alloc HV (.cells #[.int .u8 k, .int .u64 m.n, .int .i64 m.r, .int .u64 m.first, .int .u64 m.last, .int .u64 m.commit, .slice A6 m.V.length c6, .slice A7 m.B.length c7, .slice A8 m.S.length c8] 29)); have hU8 := Aside0.mk (V2_alloc HB_ (.cells #[.int .u8 k, .int .u64 m.n, .int .i64 m.r, .int .u64 m.first, .int .u64 m.last, .int .u64 m.commit, .slice A6 m.V.length c6, .slice A7 m.B.length c7, .slice A8 m.S.length c8] 29)); have hS8 := Aside0.mk (V2_alloc HS_ (.cells #[.int .u8 k, .int .u64 m.n, .int .i64 m.r, .int .u64 m.first, .int .u64 m.last, .int .u64 m.commit, .slice A6 m.V.length c6, .slice A7 m.B.length c7, .slice A8 m.S.length c8] 29)); have hs7 := Aside0.mk (Nat.le_trans (Nat.le_of_lt (Nat.lt_succ_self _)) (Nat.le_trans (Nat.le_of_eq (by simp)) (Nat.le_trans G5'.out.size T7.size)) : w3.heap.size + 1 ≤ w7.heap.size); have ht1 := (blk_cell hT8.box 1).trans rfl; have ht2 := (blk_cell hT8.box 0).trans rfl; have hT8' := Aside0.mk hT8; rw [hbad.out] at ht1; clear HV HB_ HS_ HT7 T7 hX7 hB7 hT8; (try dsimp only))
    | ((with_reducible refine Calls.mono (done_calls w _ _ ts.r hT8'.out.rd hFts.out.fits) ?_); rintro e w9 ⟨rfl, HR9, G9⟩; rw [hdn.out]; have hBx9 := Aside0.mk (blk_grown hBx.out G9 (fun e => by have := Option.some.inj e; have := hs7.out; omega)); have hX9 := Aside0.mk (blk_grown hX8.out G9 (fun e => by have := Option.some.inj e; have := blk_lt hX3.out; omega)); have hB9 := Aside0.mk (hB8.out.trans (grown_bel G9 hB3.out.size hB8.out.size)); have hok9 : ∀ k, w5.heap.size ≤ k → some k ≠ some w3.heap.size := (fun k hk e => by have := Option.some.inj e; have := G5'.out.size; simp at this; omega); have hV9 := Aside0.mk (V2_grown hV8.out G9 hok9); have hU9 := Aside0.mk (V2_grown hU8.out G9 hok9); have hS9_ := Aside0.mk (V2_grown hS8.out G9 hok9); clear HR9 G9 hok9; have hx0 := (blk_cell hBx9.out 0).trans rfl; have hx1 := (blk_cell hBx9.out 1).trans rfl; have hx2 := (blk_cell hBx9.out 2).trans rfl; have hx3 := (blk_cell hBx9.out 3).trans rfl; have hx4 := (blk_cell hBx9.out 4).trans rfl; have hx5 := (blk_cell hBx9.out 5).trans rfl; have hx6 := (blk_cell hBx9.out 6).trans rfl; have hx7 := (blk_cell hBx9.out 7).trans rfl; have hx8 := (blk_cell hBx9.out 8).trans rfl; (try dsimp only))
    | ((with_reducible refine Calls.mono (hChk.out w9 A6 A7 A8 c6 c7 c8 hB9.out ⟨(Cv_drop (V2_reads' hV9.out).2.2), (Cb_drop (V2_reads' hU9.out).2.2), (V2_reads' hS9_.out).2.2⟩ (V2_reads' hV9.out).2.1 (V2_reads' hU9.out).2.1 (V2_reads' hS9_.out).2.1) ?_); rintro e w10 ⟨rfl, HB10⟩; rw [hce.out]; have hBx10 := Aside0.mk (blk_below hBx9.out HB10); have hX10 := Aside0.mk (blk_below hX9.out HB10); have hB10 := Aside0.mk (hB9.out.trans (HB10.mono hB9.out.size)); have hV10 := Aside0.mk (V2_below hV9.out HB10); have hU10 := Aside0.mk (V2_below hU9.out HB10); have hS10 := Aside0.mk (V2_below hS9_.out HB10); clear HB10; (try clear hx0 hx1 hx2 hx3 hx4 hx5 hx6 hx7 hx8); have hx0 := (blk_cell hBx10.out 0).trans rfl; have hx1 := (blk_cell hBx10.out 1).trans rfl; have hx2 := (blk_cell hBx10.out 2).trans rfl; have hx3 := (blk_cell hBx10.out 3).trans rfl; have hx4 := (blk_cell hBx10.out 4).trans rfl; have hx5 := (blk_cell hBx10.out 5).trans rfl; have hx6 := (blk_cell hBx10.out 6).trans rfl; have hx7 := (blk_cell hBx10.out 7).trans rfl; have hx8 := (blk_cell hBx10.out 8).trans rfl; have hz0 := (blk_cell hX10.out 0).trans rfl; have hy0 := blk_frozen hX10.out 0; have hz1 := (blk_cell hX10.out 1).trans rfl; have hy1 := blk_frozen hX10.out 1; have hz2 := (blk_cell hX10.out 2).trans rfl; have hy2 := blk_frozen hX10.out 2; have hz3 := (blk_cell hX10.out 3).trans rfl; have hy3 := blk_frozen hX10.out 3; have hz4 := (blk_cell hX10.out 4).trans rfl; have hy4 := blk_frozen hX10.out 4; have hz5 := (blk_cell hX10.out 5).trans rfl; have hy5 := blk_frozen hX10.out 5; have hz6 := (blk_cell hX10.out 6).trans rfl; have hy6 := blk_frozen hX10.out 6; have hz7 := (blk_cell hX10.out 7).trans rfl; have hy7 := blk_frozen hX10.out 7; have hz8 := (blk_cell hX10.out 8).trans rfl; have hy8 := blk_frozen hX10.out 8; (try dsimp only))
    | go_step)
  have hS9 := set9 hX10.out (.int .u8 k) (.int .u64 m.n) (.int .i64 m.r) (.int .u64 m.first) (.int .u64 m.last) (.int .u64 m.commit) (.slice A6 m.V.length c6) (.slice A7 m.B.length c7) (.slice A8 m.S.length c8)
  refine bodyPost_ret (results_ct rfl _ _ w.heap.size 29 _ (0, 0) _ rfl hS9.1 Tryd.underlying29 rfl (by kernel_rfl)) rfl ?_
  have hlt5 := blk_lt hX5.out
  have hokr : ∀ k, w5.heap.size ≤ k → some k ≠ some w.heap.size := fun k hk e => by have := Option.some.inj e; omega
  refine ⟨_, _, _, by rw [hmk.out]; rfl, V2_map (V2_mono (V2_grown hV10.out hS9.2 hokr) (fun k hk => by omega)) (fun _ hf => hf), V2_map (V2_mono (V2_grown hU10.out hS9.2 hokr) (fun k hk => by omega)) (fun _ hf => hf), V2_map (V2_mono (V2_grown hS10.out hS9.2 hokr) (fun k hk => by omega)) (fun _ hf => hf), hB10.out.trans (grown_bel hS9.2 (Nat.le_refl _) hB10.out.size)⟩
end Go.Proofs.YtfkfboigkpofkaaDoor.M
end
section
namespace Go.Proofs.YtfkfboigkpofkaaDoor.M
open Go.RowKit Go.Proofs.YtfkfboigkpofkaaDoorW.PrintWords Go.Proofs.YtfkfboigkpofkaaDoorW.PrintLast Go.Proofs.YtfkfboigkpofkaaDoorW.PrintMore Go.Proofs.YtfkfboigkpofkaaDoor.PMsgPuts
def mW : Mg := ⟨4, 1, 0, 5, 0, 4, [], [[120]], []⟩
theorem uv_small {n : Nat} (h : n < 128) : uv n = [(n : Int)] := by rw [uv, if_pos h]
theorem uvI_small {n : Int} (h0 : 0 ≤ n) (h : n < 128) : uvI n = [n] := by
  unfold uvI
  rw [uv_small (by omega)]
  congr 1
  omega
theorem body_W : bodyB mW 4 = [4, 1, 0, 4, 5, 1, 1, 120] := by
  have h1 : fldI 4 = [98, 99, 102, 115] := rfl
  unfold bodyB layB
  rw [h1]
  simp only [List.flatMap_cons, List.flatMap_nil, layF, rowB, textL, textB, mW]
  simp
  rw [uvI_small (by decide) (by decide), uvI_small (by decide) (by decide), show IntKind.u64.wrap 0 = 0 from rfl, uvI_small (by decide) (by decide), uvI_small (by decide) (by decide), uvI_small (by decide) (by decide)]
  decide
def bW : List Int := sumB [4, 1, 0, 4, 5, 1, 1, 120] ++ [4, 1, 0, 4, 5, 1, 1, 120]
theorem taken_W : (takenM bW).1 = mW := by kernel_rfl
theorem check_W : checkM mW 4 = true := by kernel_rfl
def bW2 : List Int := sumB [4, 1, 0, 4, 5, 1, 1, 120] ++ [4, 1, 0, 5, 5, 1, 1, 120]
theorem toL (l : List Int) : (strOfNums l).toList = l.map fun n => UInt8.ofNat n.toNat := by
  rw [ByteArray.toList_eq]
  rfl
theorem sumOk_eq (l : List Int) : sumOk l = (((sumB (l.drop 4)).map fun n => UInt8.ofNat n.toNat) == ((l.take 4).map fun n => UInt8.ofNat n.toNat)) := by
  unfold sumOk
  rw [toL, toL]
theorem sum_W : sumOk bW = true := by rw [sumOk_eq]; kernel_rfl
theorem sum_W2 : sumOk bW2 = false := by rw [sumOk_eq]; kernel_rfl
theorem rest_W : restOk bW = true := by kernel_rfl
theorem known_W : knownB (nR (rs0 bW)).1 = true := by kernel_rfl
theorem take_W : takeM bW = (mW, 0) := by
  unfold takeM
  rw [if_neg (by decide), if_neg (by rw [sum_W]; decide), if_neg (by rw [known_W]; decide), if_neg (by rw [rest_W]; decide), taken_W]
theorem take_W2 : takeM bW2 = (m0 0, 12) := by
  unfold takeM
  rw [if_neg (by decide), if_pos sum_W2]
theorem want_no : checkM ⟨6, 0, 0, 0, 0, 0, [], [], []⟩ 6 = false := by kernel_rfl
theorem want_yes : checkM ⟨6, 0, 0, 1, 0, 0, [], [], []⟩ 6 = true := by kernel_rfl
end Go.Proofs.YtfkfboigkpofkaaDoor.M
end
section
namespace Go.Proofs.YtfkfboigkpofkaaDoor.M
open Go.RowKit Go.Proofs.YtfkfboigkpofkaaDoorW.PrintWords Go.Proofs.YtfkfboigkpofkaaDoorW.PrintLast Go.Proofs.YtfkfboigkpofkaaDoorW.PrintMore Go.Proofs.YtfkfboigkpofkaaDoor.PMsgPuts
set_option linter.unusedVariables false
set_option linter.unusedSimpArgs false
theorem uv_len : ∀ (j n : Nat), n < 128 ^ (j + 1) → (uv n).length ≤ j + 1
  | 0, n, h => by
    rw [uv_small (by simpa using h)]
    exact Nat.le_refl _
  | j + 1, n, h => by
    by_cases h1 : n < 128
    · rw [uv_small h1]
      show 1 ≤ _
      omega
    · rw [uv, if_neg h1, List.length_cons]
      have := uv_len j (n / 128) (by rw [Nat.div_lt_iff_lt_mul (by decide)]; rwa [Nat.pow_succ] at h)
      omega
theorem pow10 : (18446744073709551616 : Nat) ≤ 128 ^ 10 := by decide
theorem uvI_len {a : Int} (h : U a) : (uvI a).length ≤ 10 := uv_len 9 _ (by have := pow10; have := h.2; have := h.1; omega)
theorem textL_len {l : List Int} (h : l.length ≤ 1000000) : (textL l).length ≤ 10 + l.length := by
  unfold textL textB
  have e := sON_size l
  have hu : U ((strOfNums l).size : Int) := by unfold U; omega
  have := uvI_len hu
  have e2 : (bytesOf (strOfNums l)).length = (strOfNums l).size := by
    unfold bytesOf
    rw [List.length_map]
    rfl
  rw [List.length_append, e2]
  omega
theorem voteB_len {x : S52} (h : x.f2.length ≤ 1000000) (hu : U x.f0) (hn : U x.f1.f0) : (voteB x).length ≤ 40 + x.f2.length := by
  unfold voteB
  have := textL_len h
  have := uvI_len hu
  have := uvI_len hn
  have := uvI_len (U.wrap x.f1.f1)
  simp only [List.length_append]
  omega
theorem flat_len {α : Type} (f : α → List Int) (b : Nat) : ∀ (l : List α), (∀ x ∈ l, (f x).length ≤ b) → (l.flatMap f).length ≤ l.length * b
  | [], _ => by simp
  | x :: l, h => by
    rw [List.flatMap_cons, List.length_append, List.length_cons, Nat.succ_mul]
    have := flat_len f b l (fun y hy => h y (List.mem_cons_of_mem _ hy))
    have := h x (List.mem_cons_self ..)
    omega
structure Small (m : Mg) : Prop where
  nV : m.V.length ≤ 5000
  nB : m.B.length ≤ 5000
  nS : m.S.length ≤ 5000
  V : ∀ x ∈ m.V, x.f2.length ≤ 5000
  B : ∀ x ∈ m.B, x.length ≤ 5000
theorem rdL_at (B : List (List Int)) (j : Nat) (h : j < B.length) : rd_L4 B (j : Int) = B[j] := by
  show B.getD (j : Int).toNat [] = _
  rw [Int.toNat_natCast, List.getD_eq_getElem?_getD, List.getElem?_eq_getElem h]
  rfl
theorem rdT_at (V : List S52) (j : Nat) (h : j < V.length) : rd_T52 V (j : Int) = V[j] := by
  show V.getD (j : Int).toNat z52 = _
  rw [Int.toNat_natCast, List.getD_eq_getElem?_getD, List.getElem?_eq_getElem h]
  rfl
section
variable (m : Mg) (s : ByteArray) (i : Int)
end
theorem lay_len (m : Mg) (hs : Small m) (hok : m.Ok) (c : Int) : (layF m c).length ≤ 30000000 := by
  have h1 := uvI_len hok.n
  have h2 := uvI_len (U.wrap m.r)
  have h3 := uvI_len hok.commit
  have h4 := uvI_len hok.first
  have h5 := uvI_len hok.last
  have h6 := textL_len (l := m.S) (by have := hs.nS; omega)
  have h7 := flat_len textL 5010 m.B (fun x hx => by have := hs.B x hx; have := textL_len (l := x) (by omega); omega)
  have h8 := flat_len voteB 5040 m.V (fun x hx => by have := hs.V x hx; have := voteB_len (x := x) (by omega) (hok.V x hx).1 (hok.V x hx).2; omega)
  have h9 := uvI_len (a := (m.B.length : Int)) (by have := hs.nB; unfold U; omega)
  have h10 := uvI_len (a := (m.V.length : Int)) (by have := hs.nV; unfold U; omega)
  have hv := hs.nV
  have hb := hs.nB
  have hS := hs.nS
  have h11 : m.B.length * 5010 ≤ 5000 * 5010 := Nat.mul_le_mul_right _ hb
  have h12 : m.V.length * 5040 ≤ 5000 * 5040 := Nat.mul_le_mul_right _ hv
  unfold layF rowB rowV
  repeat' split
  all_goals (try simp only [List.length_append])
  all_goals first | omega | simp
end Go.Proofs.YtfkfboigkpofkaaDoor.M
end
section
namespace Go.Proofs.YtfkfboigkpofkaaDoor.M
open Go.RowKit Go.Proofs.YtfkfboigkpofkaaDoorW.PrintWords Go.Proofs.YtfkfboigkpofkaaDoorW.PrintLast Go.Proofs.YtfkfboigkpofkaaDoorW.PrintMore Go.Proofs.YtfkfboigkpofkaaDoor.PMsgPuts
set_option linter.unusedVariables false
set_option linter.unusedSimpArgs false
def dU : Nat → List Int → Option (Nat × List Int)
  | 0, _ => none
  | _ + 1, [] => none
  | f + 1, c :: t => if (f = 0 ∧ 1 < c) ∨ (f < 9 ∧ c = 0) then none else if c < 128 then some (c.toNat, t) else (dU f t).map fun p => (c.toNat % 128 + 128 * p.1, p.2)
theorem uR_dU : ∀ (f : Nat) (acc : Nat) (l : List Int) (lim : Int), f ≤ 10 → Bys l → (∀ n r, dU f l = some (n, r) → uR f acc ⟨0, l, lim⟩ = (((acc + n * 2 ^ (7 * (10 - f)) : Nat) : Int), ⟨0, r, lim⟩)) ∧ (dU f l = none → 0 < f → (uR f acc ⟨0, l, lim⟩).1 = 0 ∧ (uR f acc ⟨0, l, lim⟩).2.e ≠ 0)
  | 0, acc, l, lim, _, _ => ⟨fun n r h => by simp [dU] at h, fun _ h => absurd h (Nat.lt_irrefl 0)⟩
  | f + 1, acc, [], lim, hf, hb => by
    refine ⟨fun n r h => by simp [dU] at h, fun _ _ => ?_⟩
    have hbr : byteR ⟨0, [], lim⟩ = (0, ⟨10, [], lim⟩) := rfl
    rw [uR_err hbr (show (10 : Int) ≠ 0 by decide)]
    exact ⟨rfl, show (10 : Int) ≠ 0 by decide⟩
  | f + 1, acc, c :: t, lim, hf, hb => by
    have hbr : byteR ⟨0, c :: t, lim⟩ = (c, ⟨0, t, lim⟩) := rfl
    have hc := hb c List.mem_cons_self
    have hbt : Bys t := fun x hx => hb x (List.mem_cons_of_mem _ hx)
    by_cases h1 : (f = 0 ∧ 1 < c) ∨ (f < 9 ∧ c = 0)
    · have hd : dU (f + 1) (c :: t) = none := by rw [dU, if_pos h1]
      rw [hd, uR_bad hbr rfl f acc h1]
      refine ⟨(fun n r h => (by cases h)), fun _ _ => ⟨rfl, ?_⟩⟩
      show (failR ⟨0, t, lim⟩ 11).e ≠ 0
      unfold failR
      rw [if_pos rfl]
      exact (show (11 : Int) ≠ 0 by decide)
    · by_cases h2 : c < 128
      · have hd : dU (f + 1) (c :: t) = some (c.toNat, t) := by rw [dU, if_neg h1, if_pos h2]
        rw [hd, uR_end hbr rfl f acc h1 h2]
        refine ⟨fun n r h => ?_, fun h => by cases h⟩
        simp only [Option.some.injEq, Prod.mk.injEq] at h
        rw [← h.1, ← h.2, Nat.mod_eq_of_lt (by omega), show 10 - (f + 1) = 9 - f by omega]
      · have hd : dU (f + 1) (c :: t) = (dU f t).map fun p => (c.toNat % 128 + 128 * p.1, p.2) := by rw [dU, if_neg h1, if_neg h2]
        have ih := uR_dU f (acc + c.toNat % 128 * 2 ^ (7 * (9 - f))) t lim (by omega) hbt
        rw [hd, uR_go hbr rfl f acc h1 h2]
        refine ⟨fun n r h => ?_, fun h _ => ?_⟩
        · rw [Option.map_eq_some_iff] at h
          obtain ⟨⟨m, r'⟩, e1, e2⟩ := h
          simp only [Prod.mk.injEq] at e2
          have hf0 : f ≠ 0 := by rintro rfl; simp [dU] at e1
          rw [ih.1 m r' e1, ← e2.1, ← e2.2]
          congr 2
          have e3 : 2 ^ (7 * (10 - f)) = 128 * 2 ^ (7 * (9 - f)) := by
            rw [show 7 * (10 - f) = 7 + 7 * (9 - f) by omega, Nat.pow_add]
          rw [e3, show 10 - (f + 1) = 9 - f by omega, Nat.add_mul, Nat.add_assoc, Nat.mul_comm 128 m, Nat.mul_assoc]
        · rw [Option.map_eq_none_iff] at h
          rcases Nat.eq_zero_or_pos f with rfl | hf0
          · exact absurd (Or.inl ⟨rfl, by omega⟩) h1
          · exact ih.2 h hf0
theorem nR_some {l r : List Int} {n : Nat} (lim : Int) (hb : Bys l) (h : dU 10 l = some (n, r)) : nR ⟨0, l, lim⟩ = ((n : Int), ⟨0, r, lim⟩) := by
  have h1 := (uR_dU 10 0 l lim (Nat.le_refl _) hb).1 n r h
  unfold nR
  rw [h1]
  simp
theorem dU_uv : ∀ (f n : Nat) (r : List Int), f < 10 → n < 2 ^ (1 + 7 * f) → (n = 0 → f = 9) → dU (f + 1) (uv n ++ r) = some (n, r)
  | f, n, r, hf, hn, h0 => by
    by_cases h : n < 128
    · rw [uv_small h]
      show dU (f + 1) ((n : Int) :: r) = _
      rw [dU, if_neg (by
        rintro (⟨h1, h2⟩ | ⟨h1, h2⟩)
        · subst h1
          have : n < 2 := by simpa using hn
          omega
        · have := h0 (by omega)
          omega), if_pos (by omega)]
      simp
    · have hf0 : f ≠ 0 := by
        rintro rfl
        have : n < 2 := by simpa using hn
        omega
      obtain ⟨g, rfl⟩ : ∃ g, f = g + 1 := ⟨f - 1, by omega⟩
      have ih := dU_uv g (n / 128) r (by omega) (by
        rw [Nat.div_lt_iff_lt_mul (by decide)]
        rw [show 1 + 7 * (g + 1) = (1 + 7 * g) + 7 by omega, Nat.pow_add] at hn
        exact hn) (by omega)
      have e : uv n = ((n % 128 + 128 : Nat) : Int) :: uv (n / 128) := by
        conv => lhs; rw [uv, if_neg h]
      rw [e]
      show dU (g + 1 + 1) (((n % 128 + 128 : Nat) : Int) :: (uv (n / 128) ++ r)) = _
      rw [dU, if_neg (by rintro (⟨h1, _⟩ | ⟨_, h2⟩) <;> omega), if_neg (by omega), ih]
      simp only [Option.map_some, Option.some.injEq, Prod.mk.injEq, and_true]
      omega
theorem dU_put {n : Nat} (hn : n < 18446744073709551616) (r : List Int) : dU 10 (uv n ++ r) = some (n, r) :=
  dU_uv 9 n r (by decide) (Nat.lt_of_lt_of_le hn (by decide)) (fun _ => rfl)
end Go.Proofs.YtfkfboigkpofkaaDoor.M
end
section
namespace Go.Proofs.YtfkfboigkpofkaaDoor.M
open Go.RowKit Go.Proofs.YtfkfboigkpofkaaDoorW.PrintWords Go.Proofs.YtfkfboigkpofkaaDoorW.PrintLast Go.Proofs.YtfkfboigkpofkaaDoorW.PrintMore Go.Proofs.YtfkfboigkpofkaaDoor.PMsgPuts
set_option linter.unusedVariables false
set_option linter.unusedSimpArgs false
theorem C_none {α : Type} (d : Kd α) (W : World) : Kd.C d W none ([] : List α).length [] := Kd.C_nil d W
theorem C_one (W : World) (g : Nat) (b : Int) {fr : Nat × Nat} (h : W.heap[g]? = some (.cells #[.int .u8 b] 5 fr)) : Kd.C (Kd.int .u8) W (some ⟨g, 0, none⟩) 1 [b] := by
  refine ⟨rfl, by decide, fun _ => ⟨⟨g, 0, none⟩, rfl, fun j p hj => ⟨[.int .u8 p], rfl, rfl, fun i u hu => ?_⟩⟩⟩
  rcases j with _ | j
  · rcases i with _ | i
    · simp only [List.getElem?_cons_zero, Option.some.injEq] at hj hu
      subst hj hu
      have e : (⟨g, 0, none⟩ : Addr).add (0 * (Kd.int .u8).sz + 0) = ⟨g, 0, none⟩ := by rw [add_plain]; simp
      rw [e]
      simp [World.cell?, h]
    · simp at hu
  · simp at hj
theorem C_row1 (W : World) (g : Nat) (A : Option Addr) (l : List Int) (c : Nat) (hc : l.length ≤ c) (h : W.heap[g]? = some (.cells #[.slice A l.length c] 27 (0, 0))) (hC : Kd.C (Kd.int .u8) W A l.length l) : Kd.C (Kd.slice 5 (Kd.int .u8)) W (some ⟨g, 0, none⟩) 1 [l] := by
  refine ⟨rfl, by decide, fun _ => ⟨⟨g, 0, none⟩, rfl, fun j p hj => ?_⟩⟩
  rcases j with _ | j
  · simp only [List.getElem?_cons_zero, Option.some.injEq] at hj
    subst hj
    refine ⟨[.slice A l.length c], rfl, ⟨A, c, rfl, hc, hC⟩, fun i u hu => ?_⟩
    rcases i with _ | i
    · simp only [List.getElem?_cons_zero, Option.some.injEq] at hu
      subst hu
      have e : (⟨g, 0, none⟩ : Addr).add (0 * (Kd.slice 5 (Kd.int .u8)).sz + 0) = ⟨g, 0, none⟩ := by rw [add_plain]; simp
      rw [e]
      exact (blk_cell h 0).trans rfl
    · simp at hu
  · simp at hj
theorem ok_W : mW.Ok := ⟨by unfold U; decide, by unfold U; decide, by unfold U; decide, by unfold U; decide, by simp [mW], by unfold Fits mW; decide, by unfold Fits mW; decide⟩
theorem conv_mark (w : World) (b : Int) : ∃ W', (convert 27 27 (.slice (some ⟨w.heap.size, 0, none⟩) 1 1)).run Tryd.prog (w.alloc (.cells #[.int .u8 b] 5)) = .ok (.slice (some ⟨w.heap.size, 0, none⟩) 1 1) W' ∧ Below w.heap.size w W' ∧ W'.heap.size = w.heap.size + 1 ∧ ∃ fr, W'.heap[w.heap.size]? = some (.cells #[.int .u8 b] 5 fr) := by
  have hsh : (w.alloc (.cells #[.int .u8 b] 5)).shape? w.heap.size = some (5, 1) := by
    simp [World.shape?, World.alloc, -World.alloc_eq]
  refine ⟨(w.alloc (.cells #[.int .u8 b] 5)).freeze ⟨w.heap.size, 1, none⟩ 1, ?_, ?_, ?_, ?_⟩
  · simp [convert, run_underlying Tryd.underlying27, run_underlying Tryd.underlying5, markStringish, hsh, Result.andThen]
  · refine ⟨rfl, rfl, rfl, ?_, fun i hi => ?_⟩
    · simp [World.freeze, World.alloc, -World.alloc_eq]
    · have h1 : w.heap.size ≠ i := by omega
      simp [World.freeze, World.alloc, -World.alloc_eq, Array.getElem?_modify, Array.getElem?_push, h1, Ne.symm h1]
  · simp [World.freeze, World.alloc, -World.alloc_eq]
  · refine ⟨(1, 2), ?_⟩
    simp [World.freeze, World.alloc, -World.alloc_eq]
    rw [Array.getElem_modify_self]
    simp
theorem str4 {w2 : World} {g : Nat} {c : Nat} (h : Kd.C (Kd.int .u8) w2 (some ⟨g, 0, none⟩) bW.length bW) (hc : bW.length ≤ c) :
    (convert 27 9 (.slice (if c = 4 then some ⟨g, 0, none⟩ else some ⟨g, 4, none⟩) (bW.length - 4) (c - 4))).run Tryd.prog w2 = .ok (.string ⟨#[4, 1, 0, 4, 5, 1, 1, 120]⟩) w2 := by
  have h1 := Kd.C_drop (m := 4) h (by decide) hc
  have h2 := Kd.C_string (P := Tryd.prog) (c := c - 4) Tryd.underlying27 Tryd.underlying5 Tryd.underlying9 h1
  have e : strOfNums (bW.drop 4) = ⟨#[4, 1, 0, 4, 5, 1, 1, 120]⟩ := rfl
  rw [e] at h2
  exact h2
theorem bys_sum (l : List Int) : Bys (sumB l) := by
  intro x hx
  simp only [sumB, List.mem_cons, List.not_mem_nil, or_false] at hx
  rcases hx with rfl | rfl | rfl | rfl
  all_goals exact ⟨Int.emod_nonneg _ (by decide), Int.emod_lt_of_pos _ (by decide)⟩
theorem bys_W : Bys bW := bys_app (bys_sum _) (by unfold Bys; decide)
theorem bys_W2 : Bys bW2 := bys_app (bys_sum _) (by unfold Bys; decide)
theorem take1 {A : Option Addr} {c : Nat} {w2 : World} (T : Tabs w2) (h : Kd.C (Kd.int .u8) w2 A bW.length bW) (hc : bW.length ≤ c) : Calls Tryd.prog 17 #[.slice A bW.length c] w2 (TakeP w2 (mW, 0)) := by
  have := Take_calls A c bW hc w2 T h bys_W (by show bW.length < 140737488355328; decide)
  rwa [take_W] at this
theorem take2 {A : Option Addr} {c : Nat} {w2 : World} (T : Tabs w2) (h : Kd.C (Kd.int .u8) w2 A bW2.length bW2) (hc : bW2.length ≤ c) : Calls Tryd.prog 17 #[.slice A bW2.length c] w2 (TakeP w2 (m0 0, 12)) := by
  have := Take_calls A c bW2 hc w2 T h bys_W2 (by show bW2.length < 140737488355328; decide)
  rwa [take_W2] at this
theorem R_at {W : World} {base : Nat} {ok : Nat → Prop} {v : Value} {xs : List Int} (h : Kd.R (Kd.int .u8) 5 W base ok v xs) (hp : 0 < xs.length) : ∃ g c, v = .slice (some ⟨g, 0, none⟩) xs.length c ∧ base ≤ g ∧ g < W.heap.size := by
  rcases (Kd.own_of_R h).2 with ⟨rfl, h0⟩ | ⟨g, cap, cur, rfl, hb, hg, _⟩
  · omega
  · exact ⟨g, cap, rfl, hb, blk_lt hg⟩
theorem at7 {W : World} {base g c : Nat} {ok : Nat → Prop} (h : Kd.R (Kd.int .u8) 5 W base ok (.slice (some ⟨g, 0, none⟩) bW.length c) bW) : W.cell? ⟨g, 7, none⟩ = some (.int .u8 4) := (Kd.R_celln (d := (0 : Int)) h 7 (by decide) (by decide)).1.trans rfl
theorem at7f {W : World} {base g c : Nat} {ok : Nat → Prop} (h : Kd.R (Kd.int .u8) 5 W base ok (.slice (some ⟨g, 0, none⟩) bW.length c) bW) : W.frozen? ⟨g, 7, none⟩ = false := (Kd.R_celln (d := (0 : Int)) h 7 (by decide) (by decide)).2
theorem below4 {w w2 w3 : World} {g : Nat} {o : Obj} {u : Value} {i : Nat} (h : Below w.heap.size w w2) (k : Below w2.heap.size w2 w3) (hg : w.heap.size ≤ g) : Below w.heap.size w ((w3.alloc o).setCell ⟨g, i, none⟩ u) := by
  have h1 := below_alloc (below_step h k) o
  exact ⟨h1.os, h1.tape, h1.output, by simpa [World.setCell] using h1.size, fun j hj => (Below.heap_setCell _ _ _ _ (show j ≠ g by omega)).trans (h1.block j hj)⟩
theorem put7 {W : World} {base g c : Nat} {ok : Nat → Prop} (h : Kd.R (Kd.int .u8) 5 W base ok (.slice (some ⟨g, 0, none⟩) bW.length c) bW) : Kd.C (Kd.int .u8) (W.setCell ⟨g, 7, none⟩ (.int .u8 5)) (some ⟨g, 0, none⟩) bW2.length bW2 :=
  (Kd.R_reads' (Kd.R_putn h 7 5)).2.2
theorem row_after {w2 w3 w5 : World} {g : Nat} {A7 : Option Addr} {n7 c7 : Nat} {O1 O2 : Obj} {u : Value} {i : Nat} (HU : Kd.V (Kd.slice 5 (Kd.int .u8)) 27 w3 w2.heap.size (fun k => w2.heap.size ≤ k) (.slice A7 n7 c7) mW.B) (hg : g < w2.heap.size) (HB5 : Below ((w3.alloc O1).setCell ⟨g, i, none⟩ u).heap.size ((w3.alloc O1).setCell ⟨g, i, none⟩ u) w5) :
    ∃ ad A c, A7 = some ad ∧ (w5.alloc O2).cell? ad = some (.slice A 1 c) ∧ ∀ W, Below (w5.alloc O2).heap.size (w5.alloc O2) W → (convert 27 9 (.slice A 1 c)).run Tryd.prog W = .ok (.string ⟨#[120]⟩) W := by
  have h1 := Kd.V_alloc (Kd.V_below (Kd.V_far (p := ⟨g, i, none⟩) (Kd.V_alloc HU O1) (fun k hk => by show k ≠ g; omega) u) HB5) O2
  obtain ⟨hn, _, hC⟩ := Kd.V_reads' h1
  obtain ⟨ad, A, c, rfl, hx, _, hi⟩ := at_L4 hC 0 (Int.le_refl _) (by decide)
  have e : rd_L4 mW.B 0 = [120] := rfl
  rw [e] at hx hi
  refine ⟨ad, A, c, rfl, ?_, fun W hW => ?_⟩
  · have e2 : ad.add (0 : Int).toNat = ad := by simp [Addr.add]
    rwa [e2] at hx
  · have h2 := Kd.C_string (P := Tryd.prog) (c := c) Tryd.underlying27 Tryd.underlying5 Tryd.underlying9 (Kd.C_below hi hW)
    exact h2.trans rfl
theorem want_calls (f : Int) (b : Bool) (hf : checkM ⟨6, 0, 0, f, 0, 0, [], [], []⟩ 6 = b) (W : World) (T : Tabs W) :
    Calls Tryd.prog 10 #[.agg #[.int .u8 6, .int .u64 0, .int .i64 0, .int .u64 f, .int .u64 0, .int .u64 0, .slice none 0 0, .slice none 0 0, .slice none 0 0]] W fun e w' => e = .returned (.int .i64 (errI b)) ∧ Below W.heap.size W w' := by
  have h := check_m ⟨6, 0, 0, f, 0, 0, [], [], []⟩ 6 rfl (by decide) (show (0 : Nat) < 140737488355328 by decide) none none none 0 0 0 W T ⟨C_none _ _, C_none _ _, C_none _ _⟩ (Nat.le_refl _) (Nat.le_refl _) (Nat.le_refl _)
  rw [hf] at h
  exact h W (Below.refl _ _)
set_option maxHeartbeats 1000000 in
set_option maxRecDepth 100000 in
theorem wakes_calls (w : World) (T : Tabs w) : Calls Tryd.prog 8 #[] w fun e w' => e = .returned (.bool true) ∧ Below w.heap.size w w' := by
  obtain ⟨W1, hcv, hB1, hs1, fr, hh1⟩ := conv_mark w 120
  have hW2 := Aside0.mk (below_alloc hB1 (.cells #[.slice (some ⟨w.heap.size, 0, none⟩) 1 1] 27))
  have hrow := heap_alloc_new W1 (.cells #[.slice (some ⟨w.heap.size, 0, none⟩) 1 1] 27)
  rw [hs1] at hrow
  have hm : mW.At (W1.alloc (.cells #[.slice (some ⟨w.heap.size, 0, none⟩) 1 1] 27)) none (some ⟨w.heap.size + 1, 0, none⟩) none :=
    ⟨C_none _ _, C_row1 _ _ (some ⟨w.heap.size, 0, none⟩) [120] 1 (Nat.le_refl _) hrow (C_one _ _ 120 (blk_alloc hh1 _)), C_none _ _⟩
  have hput : Aside0 (Calls Tryd.prog 11 #[.agg #[.int .u8 4, .int .u64 1, .int .i64 0, .int .u64 5, .int .u64 0, .int .u64 4, .slice none 0 0, .slice (some ⟨w.heap.size + 1, 0, none⟩) 1 1, .slice none 0 0]] (W1.alloc (.cells #[.slice (some ⟨w.heap.size, 0, none⟩) 1 1] 27)) fun e w' => ∃ v, e = .returned (.tuple #[v, .int .i64 0]) ∧ Kd.R (Kd.int .u8) 5 w' w.heap.size (fun _ => True) v bW ∧ Below w.heap.size w w') := by
    have hT := T.below hW2.out
    have hC := check_m mW 4 rfl (by decide) ok_W.fV none (some ⟨w.heap.size + 1, 0, none⟩) none 0 1 0 _ hT hm (Nat.le_refl _) (Nat.le_refl _) (Nat.le_refl _)
    rw [check_W] at hC
    have hbW : putB mW 4 = bW := by unfold putB; rw [body_W]; rfl
    have h := put_yes mW ok_W 4 rfl (by decide) none (some ⟨w.heap.size + 1, 0, none⟩) none 0 1 0 _ hT hm hC (by rw [hbW]; show bW.length < 140737488355328; decide)
    rw [hbW] at h
    refine ⟨h.mono ?_⟩
    rintro e w' ⟨v, rfl, hR, hB⟩
    exact ⟨v, rfl, Kd.R_lower hR hW2.out.size, hW2.out.trans (hB.mono hW2.out.size)⟩
  clear hrow hm hB1 hh1
  have hT := Aside0.mk T
  clear T
  go_enter Tryd.func8, Tryd.ntmps8
  repeat (first
    | ((with_reducible refine gate_callee (f := 11) rfl ?_); (with_reducible refine gate_dst (N := 13) rfl ?_); refine goesL_ (some 13) rfl rfl Tryd.func11 (by kernel_rfl) rfl #[.agg #[.int .u8 4, .int .u64 1, .int .i64 0, .int .u64 5, .int .u64 0, .int .u64 4, .slice none 0 0, .slice (some ⟨w.heap.size + 1, 0, none⟩) 1 1, .slice none 0 0]] rfl (by (try simp only [List.map_toArray, List.map_cons, List.map_nil]); first | done | rfl) ?_; refine (hput.out).mono ?_; rintro e w2 ⟨v, rfl, HR2, HB2⟩; refine ⟨_, rfl, ?_⟩; obtain ⟨g, c, rfl, hgb_, hgs_⟩ := R_at HR2 (by decide); have hgb := Aside0.mk hgb_; have hgs := Aside0.mk hgs_; clear hgb_ hgs_; have HR2' := Aside0.mk HR2; have HB2' := Aside0.mk HB2; have hcv2 := str4 (Kd.R_reads' HR2).2.2 (Kd.R_reads' HR2).2.1; clear HR2 HB2; (try dsimp only))
    | ((with_reducible refine gate_callee (f := 17) rfl ?_); (with_reducible refine gate_dst (N := 31) rfl ?_); refine goesL_ (some 31) rfl rfl Tryd.func17 (by kernel_rfl) rfl #[.slice (some ⟨g, 0, none⟩) bW.length c] rfl (by (try simp only [List.map_toArray, List.map_cons, List.map_nil]); first | done | rfl) ?_; refine (take1 (hT.out.below HB2'.out) (Kd.R_reads' HR2'.out).2.2 (Kd.R_reads' HR2'.out).2.1).mono ?_; rintro e w3 ⟨vV, vB, vS, rfl, HV, HB_, HS, HB3⟩; refine ⟨_, rfl, ?_⟩; obtain ⟨A6, c6, rfl⟩ := Kd.V_slice HV; obtain ⟨A7, c7, rfl⟩ := Kd.V_slice HB_; obtain ⟨A8, c8, rfl⟩ := Kd.V_slice HS; have HR3 := Aside0.mk (Kd.R_alloc (Kd.R_below HR2'.out HB3) (.cells #[.int .u8 mW.k, .int .u64 mW.n, .int .i64 mW.r, .int .u64 mW.first, .int .u64 mW.last, .int .u64 mW.commit, .slice A6 mW.V.length c6, .slice A7 mW.B.length c7, .slice A8 mW.S.length c8] 29)); have hb7 := at7 HR3.out; have hf7 := at7f HR3.out; have HU3 := Aside0.mk HB_; have HB3' := Aside0.mk HB3; clear HV HB_ HS HB3 hcv2; (try dsimp only))
    | ((with_reducible refine gate_callee (f := 17) rfl ?_); (with_reducible refine gate_dst (N := 41) rfl ?_); refine goesL_ (some 41) rfl rfl Tryd.func17 (by kernel_rfl) rfl #[.slice (some ⟨g, 0, none⟩) bW.length c] rfl (by (try simp only [List.map_toArray, List.map_cons, List.map_nil]); first | done | rfl) ?_; refine (take2 (hT.out.below (below4 HB2'.out HB3'.out hgb.out)) (put7 HR3.out) (Kd.R_reads' HR3.out).2.1).mono ?_; rintro e w5 ⟨vV, vB, vS, rfl, HV, HB_, HS, HB5⟩; refine ⟨_, rfl, ?_⟩; obtain ⟨B6, d6, rfl⟩ := Kd.V_slice HV; obtain ⟨B7, d7, rfl⟩ := Kd.V_slice HB_; obtain ⟨B8, d8, rfl⟩ := Kd.V_slice HS; have hgl : g ≠ w3.heap.size := Nat.ne_of_lt (Nat.lt_of_lt_of_le hgs.out HB3'.out.size); have hbx := Aside0.mk (blk_alloc (blk_below (blk_set_far (heap_alloc_new w3 (.cells #[.int .u8 mW.k, .int .u64 mW.n, .int .i64 mW.r, .int .u64 mW.first, .int .u64 mW.last, .int .u64 mW.commit, .slice A6 mW.V.length c6, .slice A7 mW.B.length c7, .slice A8 mW.S.length c8] 29)) hgl.symm 7 (.int .u8 5)) HB5) (.cells #[.int .u8 (m0 0).k, .int .u64 (m0 0).n, .int .i64 (m0 0).r, .int .u64 (m0 0).first, .int .u64 (m0 0).last, .int .u64 (m0 0).commit, .slice B6 (m0 0).V.length d6, .slice B7 (m0 0).B.length d7, .slice B8 (m0 0).S.length d8] 29)); have hx0 : (w5.alloc (.cells #[.int .u8 (m0 0).k, .int .u64 (m0 0).n, .int .i64 (m0 0).r, .int .u64 (m0 0).first, .int .u64 (m0 0).last, .int .u64 (m0 0).commit, .slice B6 (m0 0).V.length d6, .slice B7 (m0 0).B.length d7, .slice B8 (m0 0).S.length d8] 29)).cell? ⟨w3.heap.size, 0, none⟩ = some (.int .u8 4) := (blk_cell hbx.out 0).trans rfl; have hx4 : (w5.alloc (.cells #[.int .u8 (m0 0).k, .int .u64 (m0 0).n, .int .i64 (m0 0).r, .int .u64 (m0 0).first, .int .u64 (m0 0).last, .int .u64 (m0 0).commit, .slice B6 (m0 0).V.length d6, .slice B7 (m0 0).B.length d7, .slice B8 (m0 0).S.length d8] 29)).cell? ⟨w3.heap.size, 5, none⟩ = some (.int .u64 4) := (blk_cell hbx.out 5).trans rfl; have hx2 : (w5.alloc (.cells #[.int .u8 (m0 0).k, .int .u64 (m0 0).n, .int .i64 (m0 0).r, .int .u64 (m0 0).first, .int .u64 (m0 0).last, .int .u64 (m0 0).commit, .slice B6 (m0 0).V.length d6, .slice B7 (m0 0).B.length d7, .slice B8 (m0 0).S.length d8] 29)).cell? ⟨w3.heap.size, 3, none⟩ = some (.int .u64 5) := (blk_cell hbx.out 3).trans rfl; have hx6 : (w5.alloc (.cells #[.int .u8 (m0 0).k, .int .u64 (m0 0).n, .int .i64 (m0 0).r, .int .u64 (m0 0).first, .int .u64 (m0 0).last, .int .u64 (m0 0).commit, .slice B6 (m0 0).V.length d6, .slice B7 (m0 0).B.length d7, .slice B8 (m0 0).S.length d8] 29)).cell? ⟨w3.heap.size, 7, none⟩ = some (.slice A7 1 c7) := (blk_cell hbx.out 7).trans rfl; obtain ⟨ad7, A71, c71, rfl, hq7, hcx_⟩ := row_after (O2 := (.cells #[.int .u8 (m0 0).k, .int .u64 (m0 0).n, .int .i64 (m0 0).r, .int .u64 (m0 0).first, .int .u64 (m0 0).last, .int .u64 (m0 0).commit, .slice B6 (m0 0).V.length d6, .slice B7 (m0 0).B.length d7, .slice B8 (m0 0).S.length d8] 29)) HU3.out hgs.out HB5; have hcx0 := hcx_ _ (Below.refl _ _); have hcx := Aside0.mk hcx_; clear hcx_; have HBe := Aside0.mk (below_alloc (below_step (below4 HB2'.out HB3'.out hgb.out) HB5) (.cells #[.int .u8 (m0 0).k, .int .u64 (m0 0).n, .int .i64 (m0 0).r, .int .u64 (m0 0).first, .int .u64 (m0 0).last, .int .u64 (m0 0).commit, .slice B6 (m0 0).V.length d6, .slice B7 (m0 0).B.length d7, .slice B8 (m0 0).S.length d8] 29)); clear HV HB_ HS HB5 hb7 hf7; (try dsimp only))
    | ((with_reducible refine Calls.mono (want_calls 0 false want_no _ (hT.out.below HBe.out)) ?_); rintro e w6 ⟨rfl, HB6⟩; have HBf := Aside0.mk (below_step HBe.out HB6); clear HB6; (try dsimp only))
    | ((with_reducible refine Calls.mono (want_calls 1 true want_yes _ (hT.out.below HBf.out)) ?_); rintro e w7 ⟨rfl, HB7⟩; have HBg := Aside0.mk (below_step HBf.out HB7); clear HB7; (try dsimp only))
    | go_step)
  go_ret
  exact ⟨rfl, HBg.out⟩
end Go.Proofs.YtfkfboigkpofkaaDoor.M
end
section
namespace Go.Proofs.YtfkfboigkpofkaaDoor.M
open Go.RowKit Go.Proofs.YtfkfboigkpofkaaDoorW.PrintWords Go.Proofs.YtfkfboigkpofkaaDoorW.PrintLast Go.Proofs.YtfkfboigkpofkaaDoorW.PrintMore Go.Proofs.YtfkfboigkpofkaaDoor.PMsgPuts
set_option linter.unusedVariables false
set_option linter.unusedSimpArgs false
def votesB : Int → List S52 → Bool
  | _, [] => true
  | a, x :: t => decide (a < x.f0) && placeB x.f1.f1 && votesB x.f0 t
end Go.Proofs.YtfkfboigkpofkaaDoor.M
end
