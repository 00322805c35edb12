/- Parts of a proof, pruned and joined by flat.py out of: TH, TI, MY, TK, MZ. -/
import Derived.Test.YtfkfboigkpofkaaDoorCTakes13
import Derived.Test.YtfkfboigkpofkaaDoorRows
import Derived.ProofKit
import Derived.LaidMore
import Derived.OpenShut
import Derived.Stop.Joined
import Derived.Deep.Slices
import Derived.Lib.LaidTab
section
namespace Go.Proofs.YtfkfboigkpofkaaDoor.M
open Go.RowKit Go.Proofs.YtfkfboigkpofkaaDoorW.PrintWords Go.Proofs.YtfkfboigkpofkaaDoorW.PrintLast Go.Proofs.YtfkfboigkpofkaaDoorW.PrintMore Go.Proofs.YtfkfboigkpofkaaDoor.PMsgPuts
set_option linter.unusedVariables false
set_option linter.unusedSimpArgs false
theorem V_C {α : Type} {d : Kd α} {e base c : Nat} {W : World} {ok : Nat → Prop} {A : Option Addr} {xs : List α} (h : Kd.V d e W base ok (.slice A xs.length c) xs) : Kd.C d W A xs.length xs ∧ xs.length ≤ c := by
  obtain ⟨A', c', he, hl, hF⟩ := h
  injection he with h1 h2 h3
  subst h1
  subst h3
  exact ⟨Kd.F_now hF, hl⟩
theorem vok_mono {wb : World} {n : Nat} {p q : Addr} {u v : Value} (h : n ≤ wb.heap.size) : ∀ k, ((wb.setCell p u).setCell q v).heap.size ≤ k → n ≤ k := fun k hk => by
  have h1 : ((wb.setCell p u).setCell q v).heap.size = wb.heap.size := by simp [World.setCell]
  omega
theorem vok_up {lo n : Nat} {vV vB : Value} (h1 : lo ≤ n) (h2 : ∀ k, n + 1 ≤ k → some k ≠ vV.ownBlock ∧ some k ≠ vB.ownBlock) : ∀ k, n + 1 ≤ k → (lo ≤ k ∧ some k ≠ vB.ownBlock) ∧ some k ≠ vV.ownBlock := fun k hk => ⟨⟨by omega, (h2 k hk).2⟩, (h2 k hk).1⟩
theorem vok_new {lo n : Nat} {vV vB : Value} (h1 : lo ≤ n) (h2 : ∀ k, n ≤ k → some k ≠ vV.ownBlock ∧ some k ≠ vB.ownBlock) : ∀ k, n ≤ k → lo ≤ k ∧ some k ≠ vB.ownBlock := fun k hk => ⟨by omega, (h2 k hk).2⟩
theorem nown_ne {α : Type} {d : Kd α} {e b : Nat} {W : World} {ok : Nat → Prop} {v : Value} {xs : List α} (h : Kd.N d e W (b + 1) ok v xs) : some b ≠ v.ownBlock := fun he => by have := Kd.N_base h b he.symm; omega
theorem start_Wk {w w3 : World} {g : Nat} {s : DS} (hX : w3.heap[w.heap.size]? = some (.cells #[.int .i64 0, .int .u64 0, .int .i64 0, .int .u64 0, .int .u64 0, .int .u64 0, .slice none 0 0, .slice none 0 0, .slice none 0 0] 39 (0, 0))) (hR : Rr w w3 g s) (hg : w.heap.size < g) (k : Nat) :
    Wk w (w3.alloc (.cells #[.int .i64 k, .int .u64 0, .int .i64 0, .int .u64 0, .int .u64 0, .int .u64 0, .slice none 0 0, .slice none 0 0, .slice none 0 0] 39)) w.heap.size g w3.heap.size (w3.heap.size + 1) (m0 k) (.slice none 0 0) (.slice none 0 0) (.slice none 0 0) s :=
  ⟨⟨heap_alloc_new _ _, Kd.N_nil _ _ _ _ _, Kd.N_nil _ _ _ _ _, Kd.V_nil _ _ _ _ _⟩, hR.below (bel1 _ _), blk_alloc hX _, Nat.le_refl _, hg, hR.lt, Nat.lt_succ_self _⟩
theorem fld_at {k i : Nat} (hi : i < (fldS k).size) : ((fldS k)[i].toNat : Int) = (fldI k).getD i 0 := by
  have h : i < (fld k).length := hi
  show (((fld k)[i]).toNat : Int) = _
  simp [fldI, List.getD_eq_getElem?_getD, h]
set_option maxHeartbeats 8000000 in
set_option maxRecDepth 100000 in
theorem ref_go (A : Option Addr) (n c : Nat) (l : List Int) (w : World) (hl : l.length = n) (hr : Kd.C (Kd.int .u8) w A n l) (hc : n ≤ c) (hb : Bys l) (hf : Fits n) (hn : 5 ≤ n) (hs : sumD l = true) (hk : (kindD l).1 ≤ 8) (hL : n ≤ 5000) : Calls Tryd.prog 18 #[.slice A n c] w (RefP w (if fineD l = false then (m0 0, 11) else ((gotD l).1, 0))) := by
  have c0 : decide ((n : Int) < 5) = false := decide_eq_false (by omega)
  have hn3 : (n : Int) < 140737488355328 := by unfold Fits at hf; omega
  have hm1 : (4 ≤ (n : Int)) = True := eq_true (by omega)
  have hm2 : (4 ≤ (c : Int)) = True := eq_true (by omega)
  have e4 : (l.drop 4).length = n - 4 := by rw [List.length_drop, hl]
  have hDr : Kd.C (Kd.int .u8) w (if c = 4 then A else Option.map (fun x => (⟨x.block, x.off + 4, none⟩ : Addr)) A) (l.drop 4).length (l.drop 4) := by
    have := Kd.C_drop (m := 4) (c := c) (by rw [hl]; exact hr) (by omega) (by omega)
    exact this
  have hbd : Bys (l.drop 4) := bys_drop hb 4
  have hfd : Fits ((l.drop 4).length + 4) := by unfold Fits at *; omega
  obtain ⟨TT, hTT⟩ : ∃ TT, sumB (l.drop 4) ++ l.drop 4 = TT := ⟨_, rfl⟩
  have hSm : Aside0 (∀ W, Below w.heap.size w W → Calls Tryd.prog 15 #[.slice (if c = 4 then A else Option.map (fun x => (⟨x.block, x.off + 4, none⟩ : Addr)) A) (n - 4) (c - 4)] W fun e w' => ∃ A' c', e = .returned (.slice A' TT.length c') ∧ Kd.C (Kd.int .u8) w' A' TT.length TT ∧ Below W.heap.size W w') := by
    refine ⟨fun W hW => ?_⟩
    have := quorateref17_Summed.calls (10 * (l.drop 4).length + 1) (if c = 4 then A else Option.map (fun x => (⟨x.block, x.off + 4, none⟩ : Addr)) A) (c - 4) (l.drop 4) (sumB (l.drop 4) ++ l.drop 4) W (Kd.C_below hDr hW) (by omega) (summed_law _ hbd hfd (Nat.le_refl _))
    rw [e4, hTT] at this
    refine this.mono ?_
    rintro e w' ⟨v, rfl, hR, hb⟩
    obtain ⟨A', c', rfl, _, hr'⟩ := Kd.R_reads hR
    exact ⟨A', c', rfl, hr', hb⟩
  have hIn := Aside0.mk (show Kd.C (Kd.int .u8) w A n l from hr)
  have hX := Aside0.mk (heap_alloc_new w (.cells #[.int .i64 0, .int .u64 0, .int .i64 0, .int .u64 0, .int .u64 0, .int .u64 0, .slice none 0 0, .slice none 0 0, .slice none 0 0] 39))
  have hU := numD_U (s := ⟨l.drop 4, true⟩) hbd
  have hlk := less_numD ⟨l.drop 4, true⟩
  have hgot : Aside0 (gotD l = takesD (fldI (kindD l).1.toNat) (m0 ((kindD l).1.toNat : Nat), (kindD l).2)) := ⟨rfl⟩
  have hfin : Aside0 (fineD l = ((gotD l).2.ok && (gotD l).2.l.isEmpty && mayM (gotD l).1 (kindD l).1.toNat)) := ⟨rfl⟩
  obtain ⟨kd, s1, hks⟩ : ∃ kd s1, kindD l = (kd, s1) := ⟨_, _, rfl⟩
  have hNum : Aside0 (∀ (g : Nat) (V : World), Rr w V g ⟨l.drop 4, true⟩ → Calls Tryd.prog 40 #[.pointer (some ⟨g, 0, none⟩)] V fun e w' => e = .returned (.int .u64 kd) ∧ Rr w w' g s1 ∧ V.grownBy w' (some g)) := by
    refine ⟨fun g V hV => ?_⟩
    have := numD_calls w V g ⟨l.drop 4, true⟩ hV hbd (by unfold Fits at *; show (l.drop 4).length < _; omega)
    rwa [show numD ⟨l.drop 4, true⟩ = (kd, s1) from hks] at this
  have hRs : Aside0 (∀ (w3 : World), Below w.heap.size w w3 → Rr w (w3.alloc (.cells #[.slice (if c = 4 then A else Option.map (fun x => (⟨x.block, x.off + 4, none⟩ : Addr)) A) (n - 4) (c - 4), .bool true] 78)) w3.heap.size ⟨l.drop 4, true⟩) := ⟨fun w3 hB => start_Rr hB e4 hc hDr⟩
  have hks' : numD ⟨l.drop 4, true⟩ = (kd, s1) := hks
  rw [hks] at hk hgot hfin
  rw [hks'] at hU hlk
  obtain ⟨k, rfl⟩ := Int.eq_ofNat_of_zero_le hU.1
  have hk9 : k < 9 := by have : (k : Int) ≤ 8 := hk; omega
  rw [show ((k : Int), s1).1.toNat = k from Int.toNat_natCast k] at hgot hfin
  unfold sumD at hs
  rw [hTT] at hs
  have hSd' := Aside0.mk hs
  clear hs hTT
  have c8 : decide (8 < (k : Int)) = false := decide_eq_false (by omega)
  have hkI : (k : Int) < 9 := by omega
  have hb1 := Aside0.mk (hlk.bys hbd)
  have hf1 := Aside0.mk (show s1.l.length ≤ 5000 by have h1 : s1.l.length ≤ (l.drop 4).length := hlk.len; omega)
  have hS4 := Aside0.mk (fldI_short hk9)
  have hSz := Aside0.mk (fldI_length k)
  have hk9' := Aside0.mk hk9
  clear hk hks hks' hU hlk hk9 hL
  obtain ⟨ans, hans_⟩ : ∃ ans, (if fineD l = false then (m0 0, 11) else ((gotD l).1, (0 : Int))) = ans := ⟨_, rfl⟩
  rw [hans_]
  have hans := Aside0.mk hans_
  clear hans_
  clear hr hf hb hl hn hc hDr hbd hfd e4
  go_enter Tryd.func18, Tryd.ntmps18
  go_wp2
  have hX1 := Aside0.mk (blk_drew hX.out)
  have hW1 := Aside0.mk (below_drew1 (bel1 w (.cells #[.int .i64 0, .int .u64 0, .int .i64 0, .int .u64 0, .int .u64 0, .int .u64 0, .slice none 0 0, .slice none 0 0, .slice none 0 0] 39)))
  refine start_ (n := 7) (S := fun W => Below w.heap.size w W) (ds := []) #[false, false, false, false, false, false, false] (by kernel_rfl) rfl rfl hW1.out (fun hHeld => ?_)
  refine pure_ (i := 0) (N := some 18) (v := ?_) (a' := ?_) #[true, false, false, false, false, false, false] rfl rfl (by kernel_rfl) (fun _ _ _ h => h) (Or.inl ⟨by rfl, ?_⟩) ?_ ?_
  rotate_left
  · intro w'
    go_simp
    with_reducible rfl
  rotate_left
  · simp only [Act.put, List.setIfInBounds_toArray, List.set_cons_zero, List.set_cons_succ, i64_w, i32_w]
    rfl
  refine pure_ (i := 4) (N := some 22) (v := ?_) (a' := ?_) #[true, false, false, false, true, false, false] rfl rfl (by kernel_rfl) (fun _ _ _ h => h) (Or.inl ⟨by rfl, ?_⟩) ?_ ?_
  rotate_left
  · intro w'
    go_simp
    with_reducible rfl
  rotate_left
  · simp only [Act.put, List.setIfInBounds_toArray, List.set_cons_zero, List.set_cons_succ, i64_w, i32_w]
    rfl
  refine pure_ (i := 1) (N := some 19) (v := ?_) (a' := ?_) #[true, true, false, false, true, false, false] rfl rfl (by kernel_rfl) (fun _ _ _ h => h) (Or.inl ⟨by rfl, ?_⟩) ?_ ?_
  rotate_left
  · intro w'
    go_simp
    with_reducible rfl
  rotate_left
  · simp only [Act.put, List.setIfInBounds_toArray, List.set_cons_zero, List.set_cons_succ, i64_w, i32_w]
    rfl
  refine take_ (i := 5) (N := some 23) (v := ?_) (a' := ?_) #[true, true, false, false, true, true, false] rfl rfl (by kernel_rfl) (fun _ _ _ h => h) (Or.inl ⟨by rfl, ?_⟩) hHeld ?_ ?_
  rotate_left
  · rintro w' hS
    have hcv := Kd.C_string (P := Tryd.prog) (A := A) (c := c) Tryd.underlying27 Tryd.underlying5 Tryd.underlying9 (Kd.C_below hIn.out hS)
    go_simp
    with_reducible rfl
  rotate_left
  · simp only [Act.put, List.setIfInBounds_toArray, List.set_cons_zero, List.set_cons_succ, i64_w, i32_w]
    rfl
  refine one_ (i := 2) (N := some 20) #[true, true, true, false, true, true, false] rfl rfl (by kernel_rfl) (by decide) (fun K hK => ?_)
  refine goes_ Tryd.func15 (by kernel_rfl) rfl #[.slice (if c = 4 then A else Option.map (fun x => (⟨x.block, x.off + 4, none⟩ : Addr)) A) (n - 4) (c - 4)] (by rfl) rfl rfl (by (try simp only [List.map_toArray, List.map_cons, List.map_nil]); first | done | rfl) ?_
  refine (hSm.out _ hHeld).mono ?_
  rintro e w2 ⟨SA, sc, rfl, hSr, HB2⟩
  refine ⟨_, rfl, ?_⟩
  have hB2 := Aside0.mk (below_step hHeld HB2)
  have hX2 := Aside0.mk (blk_below hX1.out HB2)
  have hSr' := Aside0.mk hSr
  clear hHeld HB2 hSr
  refine hK.out _ _ hB2.out (fun hHeld => ?_)
  clear hK K
  refine norm_ (a' := ?_) ?_ ?_
  rotate_left
  · show Act.put _ (some 20) _ = _
    simp only [Act.put, List.setIfInBounds_toArray, List.set_cons_zero, List.set_cons_succ, i64_w, i32_w]
    rfl
  refine one_ (i := 3) (N := some 21) #[true, true, true, true, true, true, false] rfl rfl (by kernel_rfl) (by decide) (fun K hK => ?_)
  have hcv2 := Kd.C_string (P := Tryd.prog) (A := SA) (c := sc) Tryd.underlying27 Tryd.underlying5 Tryd.underlying9 hSr'.out
  refine value_ (v := .string (strOfNums TT)) (w1 := w2) (by rfl) rfl (by go_simp; (try rfl)) ?_
  refine hK.out _ _ hB2.out (fun hHeld => ?_)
  clear hK K hcv2
  refine norm_ (a' := ?_) ?_ ?_
  rotate_left
  · show Act.put _ (some 21) _ = _
    simp only [Act.put, List.setIfInBounds_toArray, List.set_cons_zero, List.set_cons_succ, i64_w, i32_w]
    rfl
  refine pure_ (i := 6) (N := some 24) (v := ?_) (a' := ?_) #[true, true, true, true, true, true, true] rfl rfl (by kernel_rfl) (fun _ _ _ h => h) (Or.inl ⟨by rfl, ?_⟩) ?_ ?_
  rotate_left
  · intro w'
    go_simp
    with_reducible rfl
  rotate_left
  · simp only [Act.put, List.setIfInBounds_toArray, List.set_cons_zero, List.set_cons_succ, i64_w, i32_w]
    rfl
  refine done_ (by kernel_rfl) ?_

  have c1 : (!(strOfNums TT).toList == (strOfNums l).toList) = false := by
    rw [show ((strOfNums TT).toList == (strOfNums l).toList) = true from hSd'.out]; rfl
  rw [c1]
  clear c1
  repeat (first
    | ((with_reducible refine gate_callee (f := 40) rfl ?_); (with_reducible refine gate_dst (N := 31) rfl ?_); refine goesL_ (some 31) rfl rfl Tryd.func40 (by kernel_rfl) rfl #[.pointer (some ⟨w2.heap.size, 0, none⟩)] rfl (by (try simp only [List.map_toArray, List.map_cons, List.map_nil]); first | done | rfl) ?_; refine (hNum.out _ _ (hRs.out _ hB2.out)).mono ?_; rintro e w3 ⟨rfl, HR3, G3⟩; refine ⟨_, rfl, ?_⟩; have hX3 := Aside0.mk (blk_grown (blk_alloc hX2.out _) G3 (fun e => Nat.lt_irrefl _ (Nat.lt_of_lt_of_le (blk_lt hX2.out) (Nat.le_of_eq (Option.some.inj e).symm)))); have hB3 := Aside0.mk ((below_alloc hB2.out _).trans (grown_bel G3 hB2.out.size (Nat.le_trans hB2.out.size (by simp)))); have hR3 := Aside0.mk HR3;  clear HR3 G3; (try dsimp only))
    | ((with_reducible refine gate_callee (f := 28) rfl ?_); (with_reducible refine gate_dst (N := 40) rfl ?_); refine goesL_ (some 40) rfl rfl Tryd.func28 (by kernel_rfl) rfl #[.int .i64 (k : Int)] rfl (by (try simp only [List.map_toArray, List.map_cons, List.map_nil]); first | done | rfl) ?_; refine (fields_calls k _ rfl _).mono ?_; rintro e w4 ⟨rfl, rfl⟩; refine ⟨_, rfl, ?_⟩;  (try dsimp only))
    | go_step)
  have hrg : w.heap.size < w2.heap.size := blk_lt hX2.out
  have hW0 := Aside0.mk (start_Wk hX3.out hR3.out hrg k)
  clear hrg
  go_loopg [8] ((fldI k).length + 1) (fun kq v8 w' => ∃ (i : Nat) (m1 : Mg) (s2 : DS) (vV vB vS : Value), v8 = .int .i64 i ∧ Aside0 (kq + i = (fldI k).length + 1 ∧ i ≤ (fldI k).length) ∧ Aside0 (takesD ((fldI k).take i) (m0 k, s1) = (m1, s2)) ∧ Aside0 (Wk w w' w.heap.size w2.heap.size w3.heap.size (w3.heap.size + 1) m1 vV vB vS s2))
  case atStart => exact ⟨0, m0 k, s1, _, _, _, rfl, ⟨rfl, Nat.zero_le _⟩, ⟨rfl⟩, hW0⟩
  case round =>
    clear hW0 hX3 hR3
    obtain ⟨i, m1, s2, vV, vB, vS, rfl, hq, hp, HW⟩ := hrel
    have hls := less_takesD ((fldI k).take i) (m0 k, s1)
    rw [hp.out] at hls
    have hb2 := Aside0.mk (hls.bys hb1.out)
    have hl2 := Aside0.mk (show s2.l.length ≤ 5000 by have h1 : s2.l.length ≤ s1.l.length := hls.len; have := hf1.out; omega)
    have hf2 := Aside0.mk (show Fits s2.l.length by unfold Fits; have := hl2.out; omega)
    clear hls
    by_cases hi : i < (fldI k).length
    · have hi2 : i < (fldS k).size := by rw [← hSz.out]; exact hi
      have hi' := Aside0.mk hi
      have c1 : decide (i < (fldS k).size) = true := decide_eq_true hi2
      have hw : (i : Int) < 100 := by have := hS4.out; omega
      have hk1 := Aside0.mk (takesD_take (fldI k) (m0 k, s1) i hi)
      rcases fldI_get hk9'.out i hi with hcc0 | hcc0 | hcc0 | hcc0 | hcc0 | hcc0 | hcc0
      · have hcc := Aside0.mk hcc0
        have hcv : ((fldS k)[i].toNat : Int) = 98 := by rw [fld_at hi2]; exact hcc0
        clear hcc0
        repeat (first
          | ((with_reducible refine gate_callee (f := 41) rfl ?_); (with_reducible refine gate_dst (N := 53) rfl ?_); refine goesL_ (some 53) rfl rfl Tryd.func41 (by kernel_rfl) rfl #[.pointer (some ⟨w2.heap.size, 0, none⟩)] rfl (by (try simp only [List.map_toArray, List.map_cons, List.map_nil]); first | done | rfl) ?_; refine (balD_calls w wr w2.heap.size s2 HW.out.R hb2.out hf2.out).mono ?_; rintro e w5 ⟨rfl, HR1, G1⟩; refine ⟨_, rfl, ?_⟩; have HW1 := Aside0.mk (HW.out.read HR1 G1);  have hbx := HW1.out.X.at_; have hy1 := (blk_cell hbx 1).trans rfl; have hz1 := blk_frozen hbx 1; have hy2 := (blk_cell hbx 2).trans rfl; have hz2 := blk_frozen hbx 2; clear hbx HR1 G1; (try dsimp only))
          | go_step)
        go_roundg ((fldI k).length - i)
        case measure => have := hq.out; omega
        case rel => exact ⟨i + 1, (fieldD 98 (m1, s2)).1, (fieldD 98 (m1, s2)).2, _, _, _, by go_num, ⟨by have := hq.out; omega, by have := hi'.out; omega⟩, ⟨by rw [← hk1.out, hcc.out, hp.out]⟩, ⟨HW1.out.n _ _⟩⟩
      · have hcc := Aside0.mk hcc0
        have hcv : ((fldS k)[i].toNat : Int) = 99 := by rw [fld_at hi2]; exact hcc0
        clear hcc0
        repeat (first
          | ((with_reducible refine gate_callee (f := 40) rfl ?_); (with_reducible refine gate_dst (N := 58) rfl ?_); refine goesL_ (some 58) rfl rfl Tryd.func40 (by kernel_rfl) rfl #[.pointer (some ⟨w2.heap.size, 0, none⟩)] rfl (by (try simp only [List.map_toArray, List.map_cons, List.map_nil]); first | done | rfl) ?_; refine (numD_calls w wr w2.heap.size s2 HW.out.R hb2.out hf2.out).mono ?_; rintro e w5 ⟨rfl, HR1, G1⟩; refine ⟨_, rfl, ?_⟩; have HW1 := Aside0.mk (HW.out.read HR1 G1);  have hbx := HW1.out.X.at_; have hy5 := (blk_cell hbx 5).trans rfl; have hz5 := blk_frozen hbx 5; clear hbx HR1 G1; (try dsimp only))
          | go_step)
        go_roundg ((fldI k).length - i)
        case measure => have := hq.out; omega
        case rel => exact ⟨i + 1, (fieldD 99 (m1, s2)).1, (fieldD 99 (m1, s2)).2, _, _, _, by go_num, ⟨by have := hq.out; omega, by have := hi'.out; omega⟩, ⟨by rw [← hk1.out, hcc.out, hp.out]⟩, ⟨HW1.out.commit _⟩⟩
      · have hcc := Aside0.mk hcc0
        have hcv : ((fldS k)[i].toNat : Int) = 102 := by rw [fld_at hi2]; exact hcc0
        clear hcc0
        repeat (first
          | ((with_reducible refine gate_callee (f := 40) rfl ?_); (with_reducible refine gate_dst (N := 63) rfl ?_); refine goesL_ (some 63) rfl rfl Tryd.func40 (by kernel_rfl) rfl #[.pointer (some ⟨w2.heap.size, 0, none⟩)] rfl (by (try simp only [List.map_toArray, List.map_cons, List.map_nil]); first | done | rfl) ?_; refine (numD_calls w wr w2.heap.size s2 HW.out.R hb2.out hf2.out).mono ?_; rintro e w5 ⟨rfl, HR1, G1⟩; refine ⟨_, rfl, ?_⟩; have HW1 := Aside0.mk (HW.out.read HR1 G1);  have hbx := HW1.out.X.at_; have hy3 := (blk_cell hbx 3).trans rfl; have hz3 := blk_frozen hbx 3; clear hbx HR1 G1; (try dsimp only))
          | go_step)
        go_roundg ((fldI k).length - i)
        case measure => have := hq.out; omega
        case rel => exact ⟨i + 1, (fieldD 102 (m1, s2)).1, (fieldD 102 (m1, s2)).2, _, _, _, by go_num, ⟨by have := hq.out; omega, by have := hi'.out; omega⟩, ⟨by rw [← hk1.out, hcc.out, hp.out]⟩, ⟨HW1.out.first _⟩⟩
      · have hcc := Aside0.mk hcc0
        have hcv : ((fldS k)[i].toNat : Int) = 108 := by rw [fld_at hi2]; exact hcc0
        clear hcc0
        repeat (first
          | ((with_reducible refine gate_callee (f := 40) rfl ?_); (with_reducible refine gate_dst (N := 68) rfl ?_); refine goesL_ (some 68) rfl rfl Tryd.func40 (by kernel_rfl) rfl #[.pointer (some ⟨w2.heap.size, 0, none⟩)] rfl (by (try simp only [List.map_toArray, List.map_cons, List.map_nil]); first | done | rfl) ?_; refine (numD_calls w wr w2.heap.size s2 HW.out.R hb2.out hf2.out).mono ?_; rintro e w5 ⟨rfl, HR1, G1⟩; refine ⟨_, rfl, ?_⟩; have HW1 := Aside0.mk (HW.out.read HR1 G1);  have hbx := HW1.out.X.at_; have hy4 := (blk_cell hbx 4).trans rfl; have hz4 := blk_frozen hbx 4; clear hbx HR1 G1; (try dsimp only))
          | go_step)
        go_roundg ((fldI k).length - i)
        case measure => have := hq.out; omega
        case rel => exact ⟨i + 1, (fieldD 108 (m1, s2)).1, (fieldD 108 (m1, s2)).2, _, _, _, by go_num, ⟨by have := hq.out; omega, by have := hi'.out; omega⟩, ⟨by rw [← hk1.out, hcc.out, hp.out]⟩, ⟨HW1.out.last _⟩⟩
      · have hcc := Aside0.mk hcc0
        have hcv : ((fldS k)[i].toNat : Int) = 112 := by rw [fld_at hi2]; exact hcc0
        clear hcc0
        repeat (first
          | ((with_reducible refine gate_callee (f := 42) rfl ?_); (with_reducible refine gate_dst (N := 73) rfl ?_); refine goesL_ (some 73) rfl rfl Tryd.func42 (by kernel_rfl) rfl #[.pointer (some ⟨w2.heap.size, 0, none⟩)] rfl (by (try simp only [List.map_toArray, List.map_cons, List.map_nil]); first | done | rfl) ?_; refine (textD_calls w wr w2.heap.size s2 HW.out.R hb2.out hf2.out (w3.heap.size + 1)).mono ?_; rintro e w5 ⟨v, rfl, HV, HR1, G1⟩; refine ⟨_, rfl, ?_⟩; have HW1 := Aside0.mk (HW.out.read HR1 G1); obtain ⟨Av, cv, rfl⟩ := Kd.V_slice HV; have HV' := Aside0.mk HV; clear HV; have hbx := HW1.out.X.at_; have hy8 := (blk_cell hbx 8).trans rfl; have hz8 := blk_frozen hbx 8; clear hbx HR1 G1; (try dsimp only))
          | go_step)
        go_roundg ((fldI k).length - i)
        case measure => have := hq.out; omega
        case rel => exact ⟨i + 1, (fieldD 112 (m1, s2)).1, (fieldD 112 (m1, s2)).2, _, _, _, by go_num, ⟨by have := hq.out; omega, by have := hi'.out; omega⟩, ⟨by rw [← hk1.out, hcc.out, hp.out]⟩, ⟨HW1.out.S HV'.out (blk_lt HW.out.X.at_) (HW.out.lows (Nat.le_refl _))⟩⟩
      · have hcc := Aside0.mk hcc0
        have hcv : ((fldS k)[i].toNat : Int) = 115 := by rw [fld_at hi2]; exact hcc0
        have hBn : m1.B = [] := by
          have h1 := takesD_B ((fldI k).take i) (m0 k, s1) (by have := not_yet (fldI_nodup k hk9'.out) hi'.out; rwa [hcc0] at this)
          rw [hp.out] at h1
          exact h1
        obtain ⟨n1, s3, h3⟩ : ∃ n1 s3, numD s2 = (n1, s3) := ⟨_, _, rfl⟩
        have hN3 : Aside0 (∀ V, Rr w V w2.heap.size s2 → Calls Tryd.prog 40 #[.pointer (some ⟨w2.heap.size, 0, none⟩)] V fun e w' => e = .returned (.int .u64 n1) ∧ Rr w w' w2.heap.size s3 ∧ V.grownBy w' (some w2.heap.size)) := ⟨fun V hV => by have := numD_calls w V w2.heap.size s2 hV hb2.out hf2.out; rwa [h3] at this⟩
        have hU3 := numD_U hb2.out
        have hls3 := less_numD s2
        rw [h3] at hU3 hls3
        have hn0 : 0 ≤ n1 := hU3.1
        have hn1U := Aside0.mk hU3
        have hfd0 : fieldD 115 (m1, s2) = ({ m1 with B := (manyD textD n1.toNat s3).1 }, (manyD textD n1.toNat s3).2) := by
          show ({ m1 with B := m1.B ++ (manyD textD (numD s2).1.toNat (numD s2).2).1 }, (manyD textD (numD s2).1.toNat (numD s2).2).2) = _
          rw [h3, hBn]
          rfl
        have hfd1 := Aside0.mk hfd0
        have hz3 := Aside0.mk (show Bys s3.l ∧ s3.l.length ≤ 5000 ∧ (s3.ok = true → ([] : List (List Int)).length + s3.l.length ≤ 5000) from ⟨hls3.bys hb2.out, by have h1 : s3.l.length ≤ s2.l.length := hls3.len; have := hl2.out; omega, fun _ => by have h1 : s3.l.length ≤ s2.l.length := hls3.len; have := hl2.out; simp; omega⟩)
        have hm1 : ({ m1 with B := [] } : Mg) = m1 := by rw [← hBn]
        have hm1' := Aside0.mk hm1
        clear hcc0 hBn h3 hU3 hls3 hfd0 hm1
        repeat (first
          | ((with_reducible refine gate_callee (f := 40) rfl ?_); (with_reducible refine gate_dst (N := 78) rfl ?_); refine goesL_ (some 78) rfl rfl Tryd.func40 (by kernel_rfl) rfl #[.pointer (some ⟨w2.heap.size, 0, none⟩)] rfl (by (try simp only [List.map_toArray, List.map_cons, List.map_nil]); first | done | rfl) ?_; refine (hN3.out _ HW.out.R).mono ?_; rintro e w5 ⟨rfl, HR1, G1⟩; refine ⟨_, rfl, ?_⟩; have HW1 := Aside0.mk (HW.out.read HR1 G1); clear HR1 G1; (try dsimp only))
          | go_step)
        go_loopg [10] (n1.toNat + 1) (fun kq v10 w' => ∃ (j : Int) (xs : List (List Int)) (s4 : DS) (vB1 : Value), v10 = .int .u64 j ∧ Aside0 (kq + j.toNat = n1.toNat + 1 ∧ 0 ≤ j ∧ j ≤ n1 ∧ xs.length = j.toNat) ∧ Aside0 (manyD textD n1.toNat s3 = (xs ++ (manyD textD (n1.toNat - j.toNat) s4).1, (manyD textD (n1.toNat - j.toNat) s4).2)) ∧ Aside0 (Wk w w' w.heap.size w2.heap.size w3.heap.size (w3.heap.size + 1) { m1 with B := xs } vV vB1 vS s4) ∧ Aside0 (Bys s4.l ∧ s4.l.length ≤ 5000 ∧ (s4.ok = true → xs.length + s4.l.length ≤ 5000)))
        case atStart => exact ⟨0, [], s3, vB, rfl, ⟨by omega, by omega, by omega, rfl⟩, ⟨rfl⟩, ⟨by rw [hm1'.out]; exact HW1.out⟩, hz3⟩
        case round =>
          clear HW1
          obtain ⟨j, xs, s4, vB1, rfl, hj, hm, HX, hz⟩ := hrel
          obtain ⟨RA, rc, hrx, _, _⟩ := HX.out.R.at_
          have hR1 := (blk_cell hrx 1).trans rfl
          clear hrx
          by_cases d : j < n1
          · have c2 : decide (j < n1) = true := decide_eq_true d
            have d' := Aside0.mk d
            cases ho : s4.ok with
            | false =>
              rw [ho] at hR1
              have hfd : Aside0 (fieldD 115 (m1, s2) = ({ m1 with B := xs }, s4)) := by
                have h1 := hm.out
                have h2 : manyD textD (n1.toNat - j.toNat) s4 = ([], s4) := by
                  cases h : n1.toNat - j.toNat with
                  | zero => rfl
                  | succ q => unfold manyD; rw [ho]; rfl
                rw [h2, List.append_nil] at h1
                exact ⟨by rw [hfd1.out, h1]⟩
              clear ho d
              repeat go_step
              go_roundg ((fldI k).length - i)
              case measure => have := hq.out; omega
              case rel => exact ⟨i + 1, (fieldD 115 (m1, s2)).1, (fieldD 115 (m1, s2)).2, vV, vB1, vS, by go_num, ⟨by have := hq.out; omega, by have := hi'.out; omega⟩, ⟨by rw [← hk1.out, hcc.out, hp.out]⟩, ⟨by rw [hfd.out]; exact HX.out⟩⟩
            | true =>
              rw [ho] at hR1
              have ho' := Aside0.mk ho
              clear ho d
              repeat go_step
              have HX1 := Aside0.mk (HX.out.below (below_drew1 (Below.refl _ _)))
              refine start_ (n := 8) (S := fun W => W.cell? ⟨w3.heap.size, 7, none⟩ = some vB1) (ds := [7]) #[false, false, false, false, false, false, false, false] (by kernel_rfl) rfl rfl ((blk_cell HX1.out.X.at_ 7).trans rfl) (fun hHeld => ?_)
              refine pure_ (i := 0) (N := some 90) (v := ?_) (a' := ?_) #[true, false, false, false, false, false, false, false] rfl rfl (by kernel_rfl) (fun _ _ _ h => h) (Or.inl ⟨by rfl, ?_⟩) ?_ ?_
              rotate_left
              · intro w'
                go_simp
                with_reducible rfl
              rotate_left
              · simp only [Act.put, List.setIfInBounds_toArray, List.set_cons_zero, List.set_cons_succ, i64_w, i32_w]
                rfl
              refine pure_ (i := 2) (N := some 92) (v := ?_) (a' := ?_) #[true, false, true, false, false, false, false, false] rfl rfl (by kernel_rfl) (fun _ _ _ h => h) (Or.inl ⟨by rfl, ?_⟩) ?_ ?_
              rotate_left
              · intro w'
                go_simp
                with_reducible rfl
              rotate_left
              · simp only [Act.put, List.setIfInBounds_toArray, List.set_cons_zero, List.set_cons_succ, i64_w, i32_w]
                rfl
              refine take_ (i := 1) (N := some 91) (v := ?_) (a' := ?_) #[true, true, true, false, false, false, false, false] rfl rfl (by kernel_rfl) (fun _ _ _ h => h) (Or.inl ⟨by rfl, ?_⟩) hHeld ?_ ?_
              rotate_left
              · rintro w' hS
                have hfz := blk_frozen HX1.out.X.at_ 7
                go_simp
                with_reducible rfl
              rotate_left
              · simp only [Act.put, List.setIfInBounds_toArray, List.set_cons_zero, List.set_cons_succ, i64_w, i32_w]
                rfl
              refine one_ (i := 3) (N := some 93) #[true, true, true, true, false, false, false, false] rfl rfl (by kernel_rfl) (by decide) (fun K hK => ?_)
              refine goes_ Tryd.func42 (by kernel_rfl) rfl #[.pointer (some ⟨w2.heap.size, 0, none⟩)] (by rfl) rfl rfl (by (try simp only [List.map_toArray, List.map_cons, List.map_nil]); first | done | rfl) ?_
              refine (textD_calls w _ w2.heap.size s4 HX1.out.R hz.out.1 (by have := hz.out.2.1; unfold Fits; omega) (w3.heap.size + 1)).mono ?_
              rintro e w6 ⟨v, rfl, HV_, HR_, G_⟩
              refine ⟨_, rfl, ?_⟩
              obtain ⟨Av, cv, rfl⟩ := Kd.V_slice HV_
              have HV := Aside0.mk HV_
              have HX6 := Aside0.mk (HX1.out.read HR_ G_)
              have G6 := Aside0.mk G_
              clear HV_ HR_ G_ hHeld
              refine hK.out _ _ ((blk_cell HX6.out.X.at_ 7).trans rfl) (fun hHeld => ?_)
              clear hK K
              refine norm_ (a' := ?_) ?_ ?_
              rotate_left
              · show Act.put _ (some 93) _ = _
                simp only [Act.put, List.setIfInBounds_toArray, List.set_cons_zero, List.set_cons_succ, i64_w, i32_w]
                rfl
              refine one_ (i := 4) (N := some 94) #[true, true, true, true, true, false, false, false] rfl rfl (by kernel_rfl) (by decide) (fun K hK => ?_)
              refine value_ (v := .slice (some ⟨w6.heap.size, 0, none⟩) 1 1) (w1 := w6.alloc (.cells #[.slice Av (textD s4).1.length cv] 27)) (by rfl) rfl (by go_simp; (try rfl)) ?_
              refine hK.out _ _ ((blk_cell (blk_alloc HX6.out.X.at_ _) 7).trans rfl) (fun hHeld => ?_)
              clear hK K
              refine norm_ (a' := ?_) ?_ ?_
              rotate_left
              · show Act.put _ (some 94) _ = _
                simp only [Act.put, List.setIfInBounds_toArray, List.set_cons_zero, List.set_cons_succ, i64_w, i32_w]
                rfl
              refine one_ (i := 5) (N := some 95) #[true, true, true, true, true, true, false, false] rfl rfl (by kernel_rfl) (by decide) (fun K hK => ?_)
              refine Kd.N_append_step ks (w0 := w6) (W := w6) (w3.heap.size + 1) (by rfl) (.tmp 91) (.tmp 94) 26 27 (.slice none 0 0) 24 rfl Tryd.underlying26 info27 rfl (by decide) (by omega) vB1 xs (textD s4).1 [.slice Av (textD s4).1.length cv] (fun k => w3.heap.size + 1 ≤ k ∧ some k ≠ vV.ownBlock) (fun k => wr.drew.heap.size ≤ k) rfl rfl (FK_row HV.out) ?_ ?_ HX6.out.X.B (Below.refl _ _) (blk_lt HX6.out.X.at_) ?_ ?_
              · exact fun k hk => ⟨⟨Nat.le_trans (blk_lt HX1.out.X.at_) hk, (HX1.out.lows (Nat.le_refl _) k hk).1⟩, (HX1.out.lows (Nat.le_refl _) k hk).2⟩
              · exact fun k hk => ⟨Nat.le_trans (blk_lt HX6.out.X.at_) hk, (HX6.out.lows (Nat.le_refl _) k hk).1⟩
              · have := hz.out.2.2 ho'.out; omega
              intro v4 w7 HN4_ _ HG4_ hat_
              obtain ⟨A4, c4, rfl⟩ := Kd.N_slice HN4_
              have HN4 := Aside0.mk HN4_
              have HG4 := Aside0.mk HG4_
              have hat := Aside0.mk hat_
              have hbx7 := Aside0.mk (blk_grown HX6.out.X.at_ HG4_ (fun e => by have := Kd.N_base HX6.out.X.B _ e.symm; omega))
              clear HN4_ HG4_ hat_
              refine hK.out _ _ ((blk_cell hbx7.out 7).trans rfl) (fun hHeld => ?_)
              clear hK K
              refine norm_ (a' := ?_) ?_ ?_
              rotate_left
              · show Act.put _ (some 95) _ = _
                simp only [Act.put, List.setIfInBounds_toArray, List.set_cons_zero, List.set_cons_succ, i64_w, i32_w]
                rfl
              refine pure_ (i := 6) (N := some 96) (v := ?_) (a' := ?_) #[true, true, true, true, true, true, true, false] rfl rfl (by kernel_rfl) (fun _ _ _ h => h) (Or.inl ⟨by rfl, ?_⟩) ?_ ?_
              rotate_left
              · intro w'
                go_simp
                with_reducible rfl
              rotate_left
              · simp only [Act.put, List.setIfInBounds_toArray, List.set_cons_zero, List.set_cons_succ, i64_w, i32_w]
                rfl
              refine last_ (i := 7) (N := none) #[true, true, true, true, true, true, true, true] rfl rfl (by kernel_rfl) (by decide) (fun K hK => ?_)
              have hs7 := (blk_cell hbx7.out 7).trans rfl
              have hfs := blk_frozen hbx7.out 7
              refine skip_ (w1 := ?_) (by rfl) rfl ?_ ?_
              rotate_left
              · go_simp
                rfl
              refine hK.out _ _ ?_
              clear hK K hs7 hfs
              refine done_ (by kernel_rfl) ?_
              repeat go_step
              go_roundg (n1.toNat - j.toNat)
              case measure => have := hj.out; have := d'.out; omega
              case rel =>
                have hm4 : manyD textD (n1.toNat - j.toNat) s4 = ((textD s4).1 :: (manyD textD (n1.toNat - (j + 1).toNat) (textD s4).2).1, (manyD textD (n1.toNat - (j + 1).toNat) (textD s4).2).2) := by
                  rw [show n1.toNat - j.toNat = (n1.toNat - (j + 1).toNat) + 1 by have := hj.out; have := d'.out; omega, manyD, if_pos ho'.out]
                have hls4 := less_textD s4
                refine ⟨j + 1, xs ++ [(textD s4).1], (textD s4).2, _, ?_, ⟨?_⟩, ⟨by rw [hm.out, hm4]; simp⟩, ⟨HX6.out.B (by have h1 := HN4.out; rw [List.length_append] at h1; exact h1) HG4.out (by have h1 := hat.out; rw [List.length_append] at h1; exact h1)⟩, ⟨hls4.bys hz.out.1, Nat.le_trans hls4.len hz.out.2.1, fun h => ?_⟩⟩
                · rw [show IntKind.u64.wrap (j + 1) = j + 1 by rw [IntKind.wrap_u64]; have := hj.out; have := d'.out; have h9 := hn1U.out.2; omega]
                · have := hj.out
                  have := d'.out
                  refine ⟨by omega, by omega, by omega, ?_⟩
                  rw [List.length_append, hj.out.2.2.2]
                  show j.toNat + 1 = _
                  omega
                · have h1 := text_on h
                  have h2 := hz.out.2.2 ho'.out
                  rw [List.length_append]
                  show xs.length + 1 + _ ≤ _
                  omega
          · have c2 : decide (j < n1) = false := decide_eq_false d
            have hfd : Aside0 (fieldD 115 (m1, s2) = ({ m1 with B := xs }, s4)) := by
              have h1 := hm.out
              rw [show n1.toNat - j.toNat = 0 by have := hj.out; omega] at h1
              rw [show manyD textD 0 s4 = ([], s4) from rfl, List.append_nil] at h1
              exact ⟨by rw [hfd1.out, h1]⟩
            clear d
            repeat go_step
            go_roundg ((fldI k).length - i)
            case measure => have := hq.out; omega
            case rel => exact ⟨i + 1, (fieldD 115 (m1, s2)).1, (fieldD 115 (m1, s2)).2, vV, vB1, vS, by go_num, ⟨by have := hq.out; omega, by have := hi'.out; omega⟩, ⟨by rw [← hk1.out, hcc.out, hp.out]⟩, ⟨by rw [hfd.out]; exact HX.out⟩⟩
      · have hcc := Aside0.mk hcc0
        have hcv : ((fldS k)[i].toNat : Int) = 118 := by rw [fld_at hi2]; exact hcc0
        have hBn : m1.V = [] := by
          have h1 := takesD_V ((fldI k).take i) (m0 k, s1) (by have := not_yet (fldI_nodup k hk9'.out) hi'.out; rwa [hcc0] at this)
          rw [hp.out] at h1
          exact h1
        obtain ⟨n1, s3, h3⟩ : ∃ n1 s3, numD s2 = (n1, s3) := ⟨_, _, rfl⟩
        have hN3 : Aside0 (∀ V, Rr w V w2.heap.size s2 → Calls Tryd.prog 40 #[.pointer (some ⟨w2.heap.size, 0, none⟩)] V fun e w' => e = .returned (.int .u64 n1) ∧ Rr w w' w2.heap.size s3 ∧ V.grownBy w' (some w2.heap.size)) := ⟨fun V hV => by have := numD_calls w V w2.heap.size s2 hV hb2.out hf2.out; rwa [h3] at this⟩
        have hU3 := numD_U hb2.out
        have hls3 := less_numD s2
        rw [h3] at hU3 hls3
        have hn0 : 0 ≤ n1 := hU3.1
        have hn1U := Aside0.mk hU3
        have hfd0 : fieldD 118 (m1, s2) = ({ m1 with V := (manyD voteD n1.toNat s3).1 }, (manyD voteD n1.toNat s3).2) := by
          show ({ m1 with V := m1.V ++ (manyD voteD (numD s2).1.toNat (numD s2).2).1 }, (manyD voteD (numD s2).1.toNat (numD s2).2).2) = _
          rw [h3, hBn]
          rfl
        have hfd1 := Aside0.mk hfd0
        have hz3 := Aside0.mk (show Bys s3.l ∧ s3.l.length ≤ 5000 ∧ (s3.ok = true → ([] : List S52).length + s3.l.length ≤ 5000) from ⟨hls3.bys hb2.out, by have h1 : s3.l.length ≤ s2.l.length := hls3.len; have := hl2.out; omega, fun _ => by have h1 : s3.l.length ≤ s2.l.length := hls3.len; have := hl2.out; simp; omega⟩)
        have hm1 : ({ m1 with V := [] } : Mg) = m1 := by rw [← hBn]
        have hm1' := Aside0.mk hm1
        clear hcc0 hBn h3 hU3 hls3 hfd0 hm1
        repeat (first
          | ((with_reducible refine gate_callee (f := 40) rfl ?_); (with_reducible refine gate_dst (N := 100) rfl ?_); refine goesL_ (some 100) rfl rfl Tryd.func40 (by kernel_rfl) rfl #[.pointer (some ⟨w2.heap.size, 0, none⟩)] rfl (by (try simp only [List.map_toArray, List.map_cons, List.map_nil]); first | done | rfl) ?_; refine (hN3.out _ HW.out.R).mono ?_; rintro e w5 ⟨rfl, HR1, G1⟩; refine ⟨_, rfl, ?_⟩; have HW1 := Aside0.mk (HW.out.read HR1 G1); clear HR1 G1; (try dsimp only))
          | go_step)
        go_loopg [12] (n1.toNat + 1) (fun kq v12 w' => ∃ (j : Int) (xs : List S52) (s4 : DS) (vV1 : Value), v12 = .int .u64 j ∧ Aside0 (kq + j.toNat = n1.toNat + 1 ∧ 0 ≤ j ∧ j ≤ n1 ∧ xs.length = j.toNat) ∧ Aside0 (manyD voteD n1.toNat s3 = (xs ++ (manyD voteD (n1.toNat - j.toNat) s4).1, (manyD voteD (n1.toNat - j.toNat) s4).2)) ∧ Aside0 (Wk w w' w.heap.size w2.heap.size w3.heap.size (w3.heap.size + 1) { m1 with V := xs } vV1 vB vS s4) ∧ Aside0 (Bys s4.l ∧ s4.l.length ≤ 5000 ∧ (s4.ok = true → xs.length + s4.l.length ≤ 5000)))
        case atStart => exact ⟨0, [], s3, vV, rfl, ⟨by omega, by omega, by omega, rfl⟩, ⟨rfl⟩, ⟨by rw [hm1'.out]; exact HW1.out⟩, hz3⟩
        case round =>
          clear HW1
          obtain ⟨j, xs, s4, vV1, rfl, hj, hm, HX, hz⟩ := hrel
          obtain ⟨RA, rc, hrx, _, _⟩ := HX.out.R.at_
          have hR1 := (blk_cell hrx 1).trans rfl
          clear hrx
          by_cases d : j < n1
          · have c2 : decide (j < n1) = true := decide_eq_true d
            have d' := Aside0.mk d
            cases ho : s4.ok with
            | false =>
              rw [ho] at hR1
              have hfd : Aside0 (fieldD 118 (m1, s2) = ({ m1 with V := xs }, s4)) := by
                have h1 := hm.out
                have h2 : manyD voteD (n1.toNat - j.toNat) s4 = ([], s4) := by
                  cases h : n1.toNat - j.toNat with
                  | zero => rfl
                  | succ q => unfold manyD; rw [ho]; rfl
                rw [h2, List.append_nil] at h1
                exact ⟨by rw [hfd1.out, h1]⟩
              clear ho d
              repeat go_step
              go_roundg ((fldI k).length - i)
              case measure => have := hq.out; omega
              case rel => exact ⟨i + 1, (fieldD 118 (m1, s2)).1, (fieldD 118 (m1, s2)).2, vV1, vB, vS, by go_num, ⟨by have := hq.out; omega, by have := hi'.out; omega⟩, ⟨by rw [← hk1.out, hcc.out, hp.out]⟩, ⟨by rw [hfd.out]; exact HX.out⟩⟩
            | true =>
              rw [ho] at hR1
              have ho' := Aside0.mk ho
              clear ho d
              obtain ⟨n5, s5, h5⟩ : ∃ n5 s5, numD s4 = (n5, s5) := ⟨_, _, rfl⟩
              obtain ⟨n6, r6, s6, h6⟩ : ∃ n6 r6 s6, balD s5 = ((n6, r6), s6) := ⟨_, _, _, rfl⟩
              obtain ⟨l7, s7, h7⟩ : ∃ l7 s7, textD s6 = (l7, s7) := ⟨_, _, rfl⟩
              have hvt : Aside0 (voteD s4 = (⟨n5, ⟨n6, r6⟩, l7⟩, s7)) := ⟨by unfold voteD; simp only [h5, h6, h7]⟩
              have hls5 := less_numD s4
              rw [h5] at hls5
              have hls6 := less_balD s5
              rw [h6] at hls6
              have hls5l : s5.l.length ≤ s4.l.length := hls5.len
              have hls6l : s6.l.length ≤ s5.l.length := hls6.len
              have hc5 : Aside0 (∀ V, Rr w V w2.heap.size s4 → Calls Tryd.prog 40 #[.pointer (some ⟨w2.heap.size, 0, none⟩)] V fun e w' => e = .returned (.int .u64 n5) ∧ Rr w w' w2.heap.size s5 ∧ V.grownBy w' (some w2.heap.size)) := ⟨fun V hV => by have := numD_calls w V w2.heap.size s4 hV hz.out.1 (by have := hz.out.2.1; unfold Fits; omega); rwa [h5] at this⟩
              have hc6 : Aside0 (∀ V, Rr w V w2.heap.size s5 → Calls Tryd.prog 41 #[.pointer (some ⟨w2.heap.size, 0, none⟩)] V fun e w' => e = .returned (.agg #[.int .u64 n6, .int .i64 r6]) ∧ Rr w w' w2.heap.size s6 ∧ V.grownBy w' (some w2.heap.size)) := ⟨fun V hV => by have := balD_calls w V w2.heap.size s5 hV (hls5.bys hz.out.1) (by have := hz.out.2.1; unfold Fits; omega); rwa [h6] at this⟩
              have hc7 : Aside0 (∀ V, Rr w V w2.heap.size s6 → Calls Tryd.prog 42 #[.pointer (some ⟨w2.heap.size, 0, none⟩)] V fun e w' => ∃ v, e = .returned v ∧ Kd.V (Kd.int .u8) 5 w' (w3.heap.size + 1) (fun k => V.heap.size ≤ k) v l7 ∧ Rr w w' w2.heap.size s7 ∧ V.grownBy w' (some w2.heap.size)) := ⟨fun V hV => by have := textD_calls w V w2.heap.size s6 hV (hls6.bys (hls5.bys hz.out.1)) (by have := hz.out.2.1; unfold Fits; omega) (w3.heap.size + 1); rwa [h7] at this⟩
              clear h5 h6 h7 hls5 hls6 hls5l hls6l
              repeat (first
                | ((with_reducible refine gate_callee (f := 40) rfl ?_); (with_reducible refine gate_dst (N := 113) rfl ?_); refine goesL_ (some 113) rfl rfl Tryd.func40 (by kernel_rfl) rfl #[.pointer (some ⟨w2.heap.size, 0, none⟩)] rfl (by (try simp only [List.map_toArray, List.map_cons, List.map_nil]); first | done | rfl) ?_; refine (hc5.out _ HX.out.R).mono ?_; rintro e wa ⟨rfl, HRa, Ga⟩; refine ⟨_, rfl, ?_⟩; have hga := Aside0.mk HRa.lt; have hsa := Aside0.mk Ga.size; have hne3 : w3.heap.size ≠ wa.heap.size := (Nat.ne_of_lt (Nat.lt_of_lt_of_le (blk_lt HX.out.X.at_) Ga.size)); have HRa' := Aside0.mk (HRa.below (bel1 wa (.cells #[.int .u64 n5, .int .u64 0, .int .i64 0, .slice none 0 0] 52))); have Ga' := Aside0.mk (grown_trans Ga (grown_of_below (bel1 wa (.cells #[.int .u64 n5, .int .u64 0, .int .i64 0, .slice none 0 0] 52)) (some w2.heap.size))); have hXa := Aside0.mk (heap_alloc_new wa (.cells #[.int .u64 n5, .int .u64 0, .int .i64 0, .slice none 0 0] 52)); clear HRa Ga; (try dsimp only))
                | ((with_reducible refine gate_callee (f := 41) rfl ?_); (with_reducible refine gate_dst (N := 116) rfl ?_); refine goesL_ (some 116) rfl rfl Tryd.func41 (by kernel_rfl) rfl #[.pointer (some ⟨w2.heap.size, 0, none⟩)] rfl (by (try simp only [List.map_toArray, List.map_cons, List.map_nil]); first | done | rfl) ?_; refine (hc6.out _ HRa'.out).mono ?_; rintro e wb ⟨rfl, HRb, Gb⟩; refine ⟨_, rfl, ?_⟩; have hXb := Aside0.mk (blk_grown hXa.out Gb (fun e => by have := Option.some.inj e; have := hga.out; omega)); have hsb := Aside0.mk (show wa.heap.size + 1 ≤ wb.heap.size by have h9 := Gb.size; simpa using h9); have hy1 := (blk_cell hXb.out 1).trans rfl; have hf1 := blk_frozen hXb.out 1; have hy2 := (blk_cell hXb.out 2).trans rfl; have hf2 := blk_frozen hXb.out 2; have Gb' := Aside0.mk (grown_set (grown_set (grown_trans Ga'.out Gb) (p := ⟨wa.heap.size, 1, none⟩) hsa.out (.int .u64 n6)) (p := ⟨wa.heap.size, 2, none⟩) hsa.out (.int .i64 r6)); have HRb' := Aside0.mk ((HRb.set (r := wa.heap.size) (Nat.le_trans HX.out.R.bel.size hsa.out) (Nat.ne_of_lt hga.out) 1 (.int .u64 n6)).set (r := wa.heap.size) (Nat.le_trans HX.out.R.bel.size hsa.out) (Nat.ne_of_lt hga.out) 2 (.int .i64 r6)); clear HRb Gb; (try dsimp only))
                | ((with_reducible refine gate_callee (f := 42) rfl ?_); (with_reducible refine gate_dst (N := 119) rfl ?_); refine goesL_ (some 119) rfl rfl Tryd.func42 (by kernel_rfl) rfl #[.pointer (some ⟨w2.heap.size, 0, none⟩)] rfl (by (try simp only [List.map_toArray, List.map_cons, List.map_nil]); first | done | rfl) ?_; refine (hc7.out _ HRb'.out).mono ?_; rintro e wc ⟨v, rfl, HV, HRc, Gc⟩; refine ⟨_, rfl, ?_⟩; obtain ⟨Av, cv, rfl⟩ := Kd.V_slice HV; have hXc := Aside0.mk (blk_grown (set12 hXb.out (.int .u64 n6) (.int .i64 r6)) Gc (fun e => by have := Option.some.inj e; have := hga.out; omega)); have HXc0 := HX.out.read HRc (grown_trans Gb'.out Gc); have HXc := Aside0.mk (HX.out.read (HRc.set (r := wa.heap.size) (Nat.le_trans HX.out.R.bel.size hsa.out) (Nat.ne_of_lt hga.out) 3 (.slice Av l7.length cv)) (grown_set (grown_trans Gb'.out Gc) (p := ⟨wa.heap.size, 3, none⟩) hsa.out (.slice Av l7.length cv))); have HV' := Aside0.mk (Kd.V_far (p := ⟨wa.heap.size, 3, none⟩) (Kd.V_mono HV (ok' := fun k => wa.heap.size + 1 ≤ k) (vok_mono hsb.out)) (fun k hk => Nat.ne_of_gt hk) (.slice Av l7.length cv)); clear hy1 hf1 hy2 hf2; have hy0 := (blk_cell hXc.out 0).trans rfl; have hy1 := (blk_cell hXc.out 1).trans rfl; have hy2 := (blk_cell hXc.out 2).trans rfl; have hy3 := (blk_cell hXc.out 3).trans rfl; have hf3 := blk_frozen hXc.out 3; have hm6 := (blk_cell HXc0.X.at_ 6).trans rfl; clear HV HRc Gc HXc0; (try dsimp only))
                | ((with_reducible refine gate_builtin (b := .append) (xs := #[.tmp 122, .tmp 124]) rfl ?_); at_builtin; refine Kd.N_append k52 (w0 := (wc.setCell ⟨wa.heap.size, 3, none⟩ (.slice Av l7.length cv))) (W := (wc.setCell ⟨wa.heap.size, 3, none⟩ (.slice Av l7.length cv))) (w3.heap.size + 1) rfl (.tmp 122) (.tmp 124) 25 52 (.agg #[(.int .u64 0), (.int .u64 0), (.int .i64 0), (.slice none 0 0)]) 48 rfl Tryd.underlying25 info52 rfl (by decide) (by omega) vV1 xs ⟨n5, ⟨n6, r6⟩, l7⟩ [.int .u64 n5, .int .u64 n6, .int .i64 r6, (.slice Av l7.length cv)] (fun k => w3.heap.size + 1 ≤ k ∧ some k ≠ vB.ownBlock) (fun k => wa.heap.size + 1 ≤ k) rfl (by simp; rfl) (FK_vote (x := ⟨n5, ⟨n6, r6⟩, l7⟩) HV'.out) (vok_up (Nat.le_trans (blk_lt HX.out.X.at_) hsa.out) (HX.out.lows (Nat.le_succ_of_le hsa.out))) (vok_new (blk_lt HXc.out.X.at_) (HXc.out.lows (Nat.le_refl _))) HXc.out.X.V (Below.refl _ _) (blk_lt HXc.out.X.at_) (by have := hz.out.2.2 ho'.out; omega) ?_; intro v4 wd HN4_ _ HG4_ hat_; obtain ⟨A4, c4, rfl⟩ := Kd.N_slice HN4_; have HN4 := Aside0.mk HN4_; have HG4 := Aside0.mk HG4_; have hat := Aside0.mk hat_; have hbx := Aside0.mk (blk_grown HXc.out.X.at_ HG4_ (nown_ne HXc.out.X.V)); have hq6 := (blk_cell hbx.out 6).trans rfl; have hfq6 := blk_frozen hbx.out 6; clear HN4_ HG4_ hat_ hm6 hy0 hy1 hy2 hy3 hf3; (try dsimp only))
                | go_step)
              go_roundg (n1.toNat - j.toNat)
              case measure => have := hj.out; have := d'.out; omega
              case rel =>
                have hm4 : manyD voteD (n1.toNat - j.toNat) s4 = (⟨n5, ⟨n6, r6⟩, l7⟩ :: (manyD voteD (n1.toNat - (j + 1).toNat) s7).1, (manyD voteD (n1.toNat - (j + 1).toNat) s7).2) := by
                  rw [show n1.toNat - j.toNat = (n1.toNat - (j + 1).toNat) + 1 by have := hj.out; have := d'.out; omega, manyD, if_pos ho'.out, hvt.out]
                have hls4 := off_vote s4
                have hvo := @vote_on s4
                rw [hvt.out] at hls4 hvo
                refine ⟨j + 1, xs ++ [⟨n5, ⟨n6, r6⟩, l7⟩], s7, _, ?_, ⟨?_⟩, ⟨by rw [hm.out, hm4]; simp⟩, ⟨HXc.out.V (by have h1 := HN4.out; rw [List.length_append] at h1; exact h1) HG4.out (by have h1 := hat.out; rw [List.length_append] at h1; exact h1)⟩, ⟨hls4.bys hz.out.1, Nat.le_trans hls4.len hz.out.2.1, fun h => ?_⟩⟩
                · rw [show IntKind.u64.wrap (j + 1) = j + 1 by rw [IntKind.wrap_u64]; have := hj.out; have := d'.out; have h9 := hn1U.out.2; omega]
                · have := hj.out
                  have := d'.out
                  refine ⟨by omega, by omega, by omega, ?_⟩
                  rw [List.length_append, hj.out.2.2.2]
                  show j.toNat + 1 = _
                  omega
                · have h1 : s7.l.length < s4.l.length := hvo h
                  have h2 := hz.out.2.2 ho'.out
                  rw [List.length_append]
                  show xs.length + 1 + _ ≤ _
                  omega
          · have c2 : decide (j < n1) = false := decide_eq_false d
            have hfd : Aside0 (fieldD 118 (m1, s2) = ({ m1 with V := xs }, s4)) := by
              have h1 := hm.out
              rw [show n1.toNat - j.toNat = 0 by have := hj.out; omega] at h1
              rw [show manyD voteD 0 s4 = ([], s4) from rfl, List.append_nil] at h1
              exact ⟨by rw [hfd1.out, h1]⟩
            clear d
            repeat go_step
            go_roundg ((fldI k).length - i)
            case measure => have := hq.out; omega
            case rel => exact ⟨i + 1, (fieldD 118 (m1, s2)).1, (fieldD 118 (m1, s2)).2, vV1, vB, vS, by go_num, ⟨by have := hq.out; omega, by have := hi'.out; omega⟩, ⟨by rw [← hk1.out, hcc.out, hp.out]⟩, ⟨by rw [hfd.out]; exact HX.out⟩⟩
    · have hik : i = (fldI k).length := by have := hq.out; omega
      have c1 : decide (i < (fldS k).size) = false := decide_eq_false (by rw [← hSz.out]; exact hi)
      have c1' : decide ((i : Int) < ((fldS k).size : Int)) = false := decide_eq_false (by rw [← hSz.out]; omega)
      have hpe := hp.out
      rw [hik, List.take_length] at hpe
      have hg : gotD l = (m1, s2) := hgot.out.trans hpe
      have hlen := takesD_len (fldI k) (m0 k, s1)
      rw [hpe] at hlen
      have hkm : m1.k = (k : Int) := by have := k_takesD (fldI k) (m0 k, s1); rw [hpe] at this; exact this
      have hfi := hfin.out
      have ha := hans.out
      rw [hg] at hfi ha
      have hfi : fineD l = (s2.ok && s2.l.isEmpty && mayM m1 k) := hfi
      rw [hfi] at ha
      obtain ⟨RA, rc, hrx, _, _⟩ := HW.out.R.at_
      have hR0 := (blk_cell hrx 0).trans rfl
      have hR1 := (blk_cell hrx 1).trans rfl
      have hB := Aside0.mk HW.out.R.bel
      clear hrx hpe hg hik hi hfi
      cases ho : s2.ok with
      | false =>
        rw [ho] at ha hR1
        have ha' : (m0 0, (11 : Int)) = ans := ha
        subst ha'
        clear ha ho hlen hkm
        have hz0 := (blk_cell HW.out.Z 0).trans rfl
        have hy0 := blk_frozen HW.out.Z 0
        have hz1 := (blk_cell HW.out.Z 1).trans rfl
        have hy1 := blk_frozen HW.out.Z 1
        have hz2 := (blk_cell HW.out.Z 2).trans rfl
        have hy2 := blk_frozen HW.out.Z 2
        have hz3 := (blk_cell HW.out.Z 3).trans rfl
        have hy3 := blk_frozen HW.out.Z 3
        have hz4 := (blk_cell HW.out.Z 4).trans rfl
        have hy4 := blk_frozen HW.out.Z 4
        have hz5 := (blk_cell HW.out.Z 5).trans rfl
        have hy5 := blk_frozen HW.out.Z 5
        have hz6 := (blk_cell HW.out.Z 6).trans rfl
        have hy6 := blk_frozen HW.out.Z 6
        have hz7 := (blk_cell HW.out.Z 7).trans rfl
        have hy7 := blk_frozen HW.out.Z 7
        have hz8 := (blk_cell HW.out.Z 8).trans rfl
        have hy8 := blk_frozen HW.out.Z 8
        repeat go_step
        have hS9 := set9 HW.out.Z (.int .i64 0) (.int .u64 0) (.int .i64 0) (.int .u64 0) (.int .u64 0) (.int .u64 0) (.slice none 0 0) (.slice none 0 0) (.slice none 0 0)
        refine bodyPost_ret (results_ct rfl _ _ w.heap.size 39 _ (0, 0) _ rfl hS9.1 Tryd.underlying39 rfl (by kernel_rfl)) rfl ?_
        exact refP_zero (Below.trans hB.out (grown_bel hS9.2 (Nat.le_refl _) hB.out.size))
      | true =>
        rw [ho] at ha hR1
        by_cases he : s2.l.length = 0
        · have hem : s2.l = [] := List.length_eq_zero_iff.mp he
          rw [hem] at ha hR0
          have ha : (if mayM m1 k = false then (m0 0, 11) else (m1, (0 : Int))) = ans := ha
          have hl5 : m1.B.length + m1.V.length + s2.l.length ≤ 0 + 0 + s1.l.length := hlen ho
          have hl6 := hf1.out
          obtain ⟨A6, c6, rfl, _, F6⟩ := Kd.N_V (base' := 0) HW.out.X.V
          obtain ⟨A7, c7, rfl, _, F7⟩ := Kd.N_V (base' := 0) HW.out.X.B
          have hV8 := HW.out.X.S
          obtain ⟨A8, c8_, rfl, _, F8⟩ := HW.out.X.S
          have hMay := Aside0.mk (may_calls m1 k hkm (by omega) (by omega) A6 A7 A8 c6 c7 c8_ wr (Kd.F_now F6))
          have hbx := HW.out.X.at_
          have hmk := Aside0.mk hkm
          have hv0 := (blk_cell hbx 0).trans rfl
          have hv1 := (blk_cell hbx 1).trans rfl
          have hv2 := (blk_cell hbx 2).trans rfl
          have hv3 := (blk_cell hbx 3).trans rfl
          have hv4 := (blk_cell hbx 4).trans rfl
          have hv5 := (blk_cell hbx 5).trans rfl
          have hv6 := (blk_cell hbx 6).trans rfl
          have hv7 := (blk_cell hbx 7).trans rfl
          have hv8 := (blk_cell hbx 8).trans rfl
          clear hlen ho he hem hl5 hl6 F6 F7 F8 hV8 hbx hkm
          cases hm : mayM m1 k with
          | false =>
            rw [hm] at ha
            have ha' : (m0 0, (11 : Int)) = ans := ha
            subst ha'
            have hm' := Aside0.mk hm
            clear ha hm
            repeat (first
              | ((with_reducible refine gate_callee (f := 14) rfl ?_); (with_reducible refine gate_dst (N := 142) rfl ?_); refine goesL_ (some 142) rfl rfl Tryd.func14 (by kernel_rfl) rfl #[.agg #[.int .i64 m1.k, .int .u64 m1.n, .int .i64 m1.r, .int .u64 m1.first, .int .u64 m1.last, .int .u64 m1.commit, .slice A6 m1.V.length c6, .slice A7 m1.B.length c7, .slice A8 m1.S.length c8_]] rfl (by (try simp only [List.map_toArray, List.map_cons, List.map_nil]); first | done | rfl) ?_; refine (hMay.out).mono ?_; rintro e w5 ⟨rfl, HB5⟩; refine ⟨_, rfl, ?_⟩; rw [hm'.out]; have hB5 := Aside0.mk (below_step hB.out HB5); have hZ5 := Aside0.mk (blk_below HW.out.Z HB5); have HB5' := Aside0.mk HB5; have hz0 := (blk_cell hZ5.out 0).trans rfl; have hy0 := blk_frozen hZ5.out 0; have hz1 := (blk_cell hZ5.out 1).trans rfl; have hy1 := blk_frozen hZ5.out 1; have hz2 := (blk_cell hZ5.out 2).trans rfl; have hy2 := blk_frozen hZ5.out 2; have hz3 := (blk_cell hZ5.out 3).trans rfl; have hy3 := blk_frozen hZ5.out 3; have hz4 := (blk_cell hZ5.out 4).trans rfl; have hy4 := blk_frozen hZ5.out 4; have hz5 := (blk_cell hZ5.out 5).trans rfl; have hy5 := blk_frozen hZ5.out 5; have hz6 := (blk_cell hZ5.out 6).trans rfl; have hy6 := blk_frozen hZ5.out 6; have hz7 := (blk_cell hZ5.out 7).trans rfl; have hy7 := blk_frozen hZ5.out 7; have hz8 := (blk_cell hZ5.out 8).trans rfl; have hy8 := blk_frozen hZ5.out 8;  clear HB5; (try dsimp only))
              | ((with_reducible refine Calls.mono (hMay.out) ?_); rintro e w5 ⟨rfl, HB5⟩; rw [hm'.out]; have hB5 := Aside0.mk (below_step hB.out HB5); have hZ5 := Aside0.mk (blk_below HW.out.Z HB5); have HB5' := Aside0.mk HB5; have hz0 := (blk_cell hZ5.out 0).trans rfl; have hy0 := blk_frozen hZ5.out 0; have hz1 := (blk_cell hZ5.out 1).trans rfl; have hy1 := blk_frozen hZ5.out 1; have hz2 := (blk_cell hZ5.out 2).trans rfl; have hy2 := blk_frozen hZ5.out 2; have hz3 := (blk_cell hZ5.out 3).trans rfl; have hy3 := blk_frozen hZ5.out 3; have hz4 := (blk_cell hZ5.out 4).trans rfl; have hy4 := blk_frozen hZ5.out 4; have hz5 := (blk_cell hZ5.out 5).trans rfl; have hy5 := blk_frozen hZ5.out 5; have hz6 := (blk_cell hZ5.out 6).trans rfl; have hy6 := blk_frozen hZ5.out 6; have hz7 := (blk_cell hZ5.out 7).trans rfl; have hy7 := blk_frozen hZ5.out 7; have hz8 := (blk_cell hZ5.out 8).trans rfl; have hy8 := blk_frozen hZ5.out 8;  clear HB5; (try dsimp only))
              | go_step)
            have hS9 := set9 hZ5.out (.int .i64 0) (.int .u64 0) (.int .i64 0) (.int .u64 0) (.int .u64 0) (.int .u64 0) (.slice none 0 0) (.slice none 0 0) (.slice none 0 0)
            refine bodyPost_ret (results_ct rfl _ _ w.heap.size 39 _ (0, 0) _ rfl hS9.1 Tryd.underlying39 rfl (by kernel_rfl)) rfl ?_
            exact refP_zero (Below.trans hB5.out (grown_bel hS9.2 (Nat.le_refl _) hB5.out.size))
          | true =>
            rw [hm] at ha
            have ha' : (m1, (0 : Int)) = ans := ha
            subst ha'
            have hm' := Aside0.mk hm
            clear ha hm
            repeat (first
              | ((with_reducible refine gate_callee (f := 14) rfl ?_); (with_reducible refine gate_dst (N := 142) rfl ?_); refine goesL_ (some 142) rfl rfl Tryd.func14 (by kernel_rfl) rfl #[.agg #[.int .i64 m1.k, .int .u64 m1.n, .int .i64 m1.r, .int .u64 m1.first, .int .u64 m1.last, .int .u64 m1.commit, .slice A6 m1.V.length c6, .slice A7 m1.B.length c7, .slice A8 m1.S.length c8_]] rfl (by (try simp only [List.map_toArray, List.map_cons, List.map_nil]); first | done | rfl) ?_; refine (hMay.out).mono ?_; rintro e w5 ⟨rfl, HB5⟩; refine ⟨_, rfl, ?_⟩; rw [hm'.out]; have hB5 := Aside0.mk (below_step hB.out HB5); have hZ5 := Aside0.mk (blk_below HW.out.Z HB5); have HB5' := Aside0.mk HB5; have hz0 := (blk_cell hZ5.out 0).trans rfl; have hy0 := blk_frozen hZ5.out 0; have hz1 := (blk_cell hZ5.out 1).trans rfl; have hy1 := blk_frozen hZ5.out 1; have hz2 := (blk_cell hZ5.out 2).trans rfl; have hy2 := blk_frozen hZ5.out 2; have hz3 := (blk_cell hZ5.out 3).trans rfl; have hy3 := blk_frozen hZ5.out 3; have hz4 := (blk_cell hZ5.out 4).trans rfl; have hy4 := blk_frozen hZ5.out 4; have hz5 := (blk_cell hZ5.out 5).trans rfl; have hy5 := blk_frozen hZ5.out 5; have hz6 := (blk_cell hZ5.out 6).trans rfl; have hy6 := blk_frozen hZ5.out 6; have hz7 := (blk_cell hZ5.out 7).trans rfl; have hy7 := blk_frozen hZ5.out 7; have hz8 := (blk_cell hZ5.out 8).trans rfl; have hy8 := blk_frozen hZ5.out 8; have hbx5 := blk_below HW.out.X.at_ HB5; have hu0 := (blk_cell hbx5 0).trans rfl; have hu1 := (blk_cell hbx5 1).trans rfl; have hu2 := (blk_cell hbx5 2).trans rfl; have hu3 := (blk_cell hbx5 3).trans rfl; have hu4 := (blk_cell hbx5 4).trans rfl; have hu5 := (blk_cell hbx5 5).trans rfl; have hu6 := (blk_cell hbx5 6).trans rfl; have hu7 := (blk_cell hbx5 7).trans rfl; have hu8 := (blk_cell hbx5 8).trans rfl; clear hbx5; clear HB5; (try dsimp only))
              | ((with_reducible refine Calls.mono (hMay.out) ?_); rintro e w5 ⟨rfl, HB5⟩; rw [hm'.out]; have hB5 := Aside0.mk (below_step hB.out HB5); have hZ5 := Aside0.mk (blk_below HW.out.Z HB5); have HB5' := Aside0.mk HB5; have hz0 := (blk_cell hZ5.out 0).trans rfl; have hy0 := blk_frozen hZ5.out 0; have hz1 := (blk_cell hZ5.out 1).trans rfl; have hy1 := blk_frozen hZ5.out 1; have hz2 := (blk_cell hZ5.out 2).trans rfl; have hy2 := blk_frozen hZ5.out 2; have hz3 := (blk_cell hZ5.out 3).trans rfl; have hy3 := blk_frozen hZ5.out 3; have hz4 := (blk_cell hZ5.out 4).trans rfl; have hy4 := blk_frozen hZ5.out 4; have hz5 := (blk_cell hZ5.out 5).trans rfl; have hy5 := blk_frozen hZ5.out 5; have hz6 := (blk_cell hZ5.out 6).trans rfl; have hy6 := blk_frozen hZ5.out 6; have hz7 := (blk_cell hZ5.out 7).trans rfl; have hy7 := blk_frozen hZ5.out 7; have hz8 := (blk_cell hZ5.out 8).trans rfl; have hy8 := blk_frozen hZ5.out 8; have hbx5 := blk_below HW.out.X.at_ HB5; have hu0 := (blk_cell hbx5 0).trans rfl; have hu1 := (blk_cell hbx5 1).trans rfl; have hu2 := (blk_cell hbx5 2).trans rfl; have hu3 := (blk_cell hbx5 3).trans rfl; have hu4 := (blk_cell hbx5 4).trans rfl; have hu5 := (blk_cell hbx5 5).trans rfl; have hu6 := (blk_cell hbx5 6).trans rfl; have hu7 := (blk_cell hbx5 7).trans rfl; have hu8 := (blk_cell hbx5 8).trans rfl; clear hbx5; clear HB5; (try dsimp only))
              | go_step)
            have hS9 := set9 hZ5.out (.int .i64 m1.k) (.int .u64 m1.n) (.int .i64 m1.r) (.int .u64 m1.first) (.int .u64 m1.last) (.int .u64 m1.commit) (.slice A6 m1.V.length c6) (.slice A7 m1.B.length c7) (.slice A8 m1.S.length c8_)
            refine bodyPost_ret (results_ct rfl _ _ w.heap.size 39 _ (0, 0) _ rfl hS9.1 Tryd.underlying39 rfl (by kernel_rfl)) rfl ?_
            have hW5 := HW.out.below HB5'.out
            have hr : ∀ k, w3.heap.size + 1 ≤ k → some k ≠ some w.heap.size := fun k hk e => by have := Option.some.inj e; have := HW.out.ord; omega
            have q6 := V_C (Kd.V_grown (Kd.N_V (base' := 0) hW5.X.V) hS9.2 (fun k hh => hr k hh.1))
            have q7 := V_C (Kd.V_grown (Kd.N_V (base' := 0) hW5.X.B) hS9.2 (fun k hh => hr k hh.1))
            have q8 := V_C (Kd.V_grown hW5.X.S hS9.2 (fun k hh => hr k hh.1.1))
            exact ⟨A6, A7, A8, c6, c7, c8_, rfl, ⟨q6.1, q7.1, q8.1⟩, q6.2, q7.2, q8.2, Below.trans hB5.out (grown_bel hS9.2 (Nat.le_refl _) hB5.out.size)⟩
        · have hem : s2.l.isEmpty = false := by cases h : s2.l with
            | nil => rw [h] at he; exact absurd rfl he
            | cons x t => rfl
          rw [hem] at ha
          have ha' : (m0 0, (11 : Int)) = ans := ha
          subst ha'
          have c9 : decide (0 < (s2.l.length : Int)) = true := decide_eq_true (by omega)
          have c9' : decide (0 < s2.l.length) = true := decide_eq_true (by omega)
          clear ha ho hlen hkm he hem
          have hz0 := (blk_cell HW.out.Z 0).trans rfl
          have hy0 := blk_frozen HW.out.Z 0
          have hz1 := (blk_cell HW.out.Z 1).trans rfl
          have hy1 := blk_frozen HW.out.Z 1
          have hz2 := (blk_cell HW.out.Z 2).trans rfl
          have hy2 := blk_frozen HW.out.Z 2
          have hz3 := (blk_cell HW.out.Z 3).trans rfl
          have hy3 := blk_frozen HW.out.Z 3
          have hz4 := (blk_cell HW.out.Z 4).trans rfl
          have hy4 := blk_frozen HW.out.Z 4
          have hz5 := (blk_cell HW.out.Z 5).trans rfl
          have hy5 := blk_frozen HW.out.Z 5
          have hz6 := (blk_cell HW.out.Z 6).trans rfl
          have hy6 := blk_frozen HW.out.Z 6
          have hz7 := (blk_cell HW.out.Z 7).trans rfl
          have hy7 := blk_frozen HW.out.Z 7
          have hz8 := (blk_cell HW.out.Z 8).trans rfl
          have hy8 := blk_frozen HW.out.Z 8
          repeat go_step
          have hS9 := set9 HW.out.Z (.int .i64 0) (.int .u64 0) (.int .i64 0) (.int .u64 0) (.int .u64 0) (.int .u64 0) (.slice none 0 0) (.slice none 0 0) (.slice none 0 0)
          refine bodyPost_ret (results_ct rfl _ _ w.heap.size 39 _ (0, 0) _ rfl hS9.1 Tryd.underlying39 rfl (by kernel_rfl)) rfl ?_
          exact refP_zero (Below.trans hB.out (grown_bel hS9.2 (Nat.le_refl _) hB.out.size))
end Go.Proofs.YtfkfboigkpofkaaDoor.M
end
section
namespace Go.Proofs.YtfkfboigkpofkaaDoor.M
open Go.RowKit Go.Proofs.YtfkfboigkpofkaaDoorW.PrintWords Go.Proofs.YtfkfboigkpofkaaDoorW.PrintLast Go.Proofs.YtfkfboigkpofkaaDoorW.PrintMore Go.Proofs.YtfkfboigkpofkaaDoor.PMsgPuts
set_option linter.unusedVariables false
set_option linter.unusedSimpArgs false
theorem ref_calls (A : Option Addr) (c : Nat) (l : List Int) (hc : l.length ≤ c) (w : World) (hr : Kd.C (Kd.int .u8) w A l.length l) (hb : Bys l) (hL : l.length ≤ 5000) : Calls Tryd.prog 18 #[.slice A l.length c] w (RefP w (refTake l)) := by
  have hf : Fits l.length := by unfold Fits; omega
  by_cases h5 : l.length < 5
  · have e : refTake l = (m0 0, 10) := by unfold refTake; rw [if_pos h5]
    rw [e]
    exact ref_short A _ c w h5
  have hn : 5 ≤ l.length := by omega
  by_cases hs : sumD l = false
  · have e : refTake l = (m0 0, 12) := by unfold refTake; rw [if_neg h5, if_pos hs]
    rw [e]
    exact ref_sum A _ c l w rfl hr hc hb hf hn hs
  have hs1 : sumD l = true := by simpa using hs
  by_cases hk : 8 < (kindD l).1
  · have e : refTake l = (m0 0, 11) := by unfold refTake; rw [if_neg h5, if_neg hs, if_pos hk]
    rw [e]
    exact ref_kind A _ c l w rfl hr hc hb hf hn hs1 hk
  · have e : refTake l = if fineD l = false then (m0 0, 11) else ((gotD l).1, 0) := by unfold refTake; rw [if_neg h5, if_neg hs, if_neg hk]
    rw [e]
    exact ref_go A _ c l w rfl hr hc hb hf hn hs1 (by omega) hL
end Go.Proofs.YtfkfboigkpofkaaDoor.M
end
section
namespace Go.Proofs.YtfkfboigkpofkaaDoor.M
open Go.RowKit Go.Proofs.YtfkfboigkpofkaaDoorW.PrintWords Go.Proofs.YtfkfboigkpofkaaDoorW.PrintLast Go.Proofs.YtfkfboigkpofkaaDoorW.PrintMore Go.Proofs.YtfkfboigkpofkaaDoor.PMsgPuts
set_option linter.unusedVariables false
set_option linter.unusedSimpArgs false
structure Lies (m : Mg) (W : World) (A6 A7 A8 : Option Addr) (c6 c7 c8 : Nat) : Prop where
  at_ : m.At W A6 A7 A8
  h6 : m.V.length ≤ c6
  h7 : m.B.length ≤ c7
  h8 : m.S.length ≤ c8
theorem Lies.below {m : Mg} {W W' : World} {A6 A7 A8 : Option Addr} {c6 c7 c8 : Nat} (h : Lies m W A6 A7 A8 c6 c7 c8) (hb : Below W.heap.size W W') : Lies m W' A6 A7 A8 c6 c7 c8 := ⟨h.at_.below hb, h.h6, h.h7, h.h8⟩
theorem wakes_at (w W : World) (T : Tabs w) (hb : Below w.heap.size w W) : Calls Tryd.prog 8 #[] W fun e w' => e = .returned (.bool true) ∧ Below W.heap.size W w' := wakes_calls W (T.below hb)
end Go.Proofs.YtfkfboigkpofkaaDoor.M
end
section
namespace Go.Proofs.YtfkfboigkpofkaaDoor.M
open Go.RowKit Go.Proofs.YtfkfboigkpofkaaDoorW.PrintWords Go.Proofs.YtfkfboigkpofkaaDoorW.PrintLast Go.Proofs.YtfkfboigkpofkaaDoorW.PrintMore Go.Proofs.YtfkfboigkpofkaaDoor.PMsgPuts
set_option linter.unusedVariables false
set_option linter.unusedSimpArgs false
theorem refTake_small (l : List Int) (hb : Bys l) : 0 ≤ (refTake l).1.k ∧ (refTake l).1.k < 256 ∧ (refTake l).1.B.length ≤ 16 ∧ (refTake l).1.V.length ≤ 256 := by
  have hz : ∀ x : Int, 0 ≤ ((m0 0, x) : Mg × Int).1.k ∧ ((m0 0, x) : Mg × Int).1.k < 256 ∧ ((m0 0, x) : Mg × Int).1.B.length ≤ 16 ∧ ((m0 0, x) : Mg × Int).1.V.length ≤ 256 := fun x => ⟨Int.le_refl 0, show (0 : Int) < 256 by decide, Nat.zero_le _, Nat.zero_le _⟩
  unfold refTake
  split
  · exact hz _
  split
  · exact hz _
  split
  · exact hz _
  rename_i h8
  split
  · exact hz _
  rename_i hf
  have hf1 : fineD l = true := by simpa using hf
  unfold fineD at hf1
  simp only [Bool.and_eq_true] at hf1
  obtain ⟨m1, m2, _⟩ := may_lists hf1.2
  have hk : (gotD l).1.k = (((kindD l).1.toNat : Nat) : Int) := k_takesD _ _
  refine ⟨?_, ?_, m1, m2⟩
  · show 0 ≤ (gotD l).1.k
    rw [hk]
    exact Int.natCast_nonneg _
  · show (gotD l).1.k < 256
    rw [hk]
    omega
set_option maxHeartbeats 1000000 in
set_option maxRecDepth 100000 in
theorem takes_long (A : Option Addr) (n c : Nat) (w : World) (T : Tabs w) (hn : 5000 < n) : Calls Tryd.prog 4 #[.slice A n c] w fun e w' => e = .returned (.bool true) ∧ Below w.heap.size w w' := by
  have c0 : decide (5000 < (n : Int)) = true := decide_eq_true (by omega)
  have hT := Aside0.mk T
  clear T hn
  go_enter Tryd.func4, Tryd.ntmps4
  repeat (first
    | ((with_reducible refine gate_callee (f := 8) rfl ?_); (with_reducible refine gate_dst (N := 11) rfl ?_); refine goesL_ (some 11) rfl rfl Tryd.func8 (by kernel_rfl) rfl #[] rfl (by (try simp only [List.map_toArray, List.map_cons, List.map_nil]); first | done | rfl) ?_; refine (wakes_at w _ hT.out (Below.refl _ _)).mono ?_; rintro e w2 ⟨rfl, HB2⟩; refine ⟨_, rfl, ?_⟩; have hB2 := Aside0.mk HB2; clear HB2; (try dsimp only))
    | go_step)
  go_ret
  exact ⟨rfl, hB2.out⟩
theorem lies_V {m : Mg} {w : World} {e1 e2 e3 b1 b2 b3 : Nat} {o1 o2 o3 : Nat → Prop} {A6 A7 A8 : Option Addr} {c6 c7 c8 : Nat} (h6 : Kd.V k52 e1 w b1 o1 (.slice A6 m.V.length c6) m.V) (h7 : Kd.V (Kd.slice 5 (Kd.int .u8)) e2 w b2 o2 (.slice A7 m.B.length c7) m.B) (h8 : Kd.V (Kd.int .u8) e3 w b3 o3 (.slice A8 m.S.length c8) m.S) : Lies m w A6 A7 A8 c6 c7 c8 :=
  ⟨⟨(Kd.V_reads' h6).2.2, (Kd.V_reads' h7).2.2, (Kd.V_reads' h8).2.2⟩, (Kd.V_reads' h6).2.1, (Kd.V_reads' h7).2.1, (Kd.V_reads' h8).2.1⟩
set_option maxHeartbeats 1000000 in
set_option maxRecDepth 100000 in
theorem takes_short (A : Option Addr) (c : Nat) (l : List Int) (w : World) (T : Tabs w) (hr : Kd.C (Kd.int .u8) w A l.length l) (hc : l.length ≤ c) (hb : Bys l) (hn : l.length ≤ 5000) : Calls Tryd.prog 4 #[.slice A l.length c] w fun e w' => e = .returned (.bool true) ∧ Below w.heap.size w w' := by
  have c0 : decide (5000 < (l.length : Int)) = false := decide_eq_false (by omega)
  have hl7 : l.length * 1 ≤ 140737488355328 := by omega
  have hf : Fits l.length := by unfold Fits; omega
  obtain ⟨h0, h1, h2, h3⟩ := refTake_small l hb
  obtain ⟨m, x, hq⟩ : ∃ m x, takeM l = (m, x) := ⟨_, _, rfl⟩
  have hRq : refTake l = (m, x) := (ref_eq l hb hf).trans hq
  rw [hRq] at h0 h1 h2 h3
  have hk0 : Aside0 (0 ≤ m.k) := ⟨h0⟩
  have hk1 : Aside0 (m.k < 256) := ⟨h1⟩
  have hnB : Aside0 (m.B.length < 9223372036854775807) := ⟨by have h4 : m.B.length ≤ 16 := h2; omega⟩
  have hnV : Aside0 (m.V.length < 9223372036854775807) := ⟨by have h4 : m.V.length ≤ 256 := h3; omega⟩
  have hTk : Aside0 (∀ (A2 : Option Addr) (c2 : Nat) (W : World), Below w.heap.size w W → l.length ≤ c2 → Kd.C (Kd.int .u8) W A2 l.length l → Calls Tryd.prog 17 #[.slice A2 l.length c2] W (TakeP W (m, x))) := by
    refine ⟨fun A2 c2 W hW h2 hC => ?_⟩
    have := Take_calls A2 c2 l h2 W (T.below hW) hC hb hf
    rwa [hq] at this
  have hRf : Aside0 (∀ (W : World), Below w.heap.size w W → Calls Tryd.prog 18 #[.slice A l.length c] W (RefP W (m, x))) := by
    refine ⟨fun W hW => ?_⟩
    have := ref_calls A c l hc W (Kd.C_below hr hW) hb hn
    rwa [hRq] at this
  have hT := Aside0.mk T
  have hIn := Aside0.mk hr
  have HBa := Aside0.mk (bel1 w (.cells #[] 5))
  have HSx := Aside0.mk (Kd.R_of_own (enc := Value.int .u8) (h1 := fun _ => rfl) (ok := fun _ => True) (own_zero (heap_alloc_new w (.cells #[] 5)) (Nat.le_refl w.heap.size)) (fun _ _ => trivial))
  have HCx := Aside0.mk (Kd.C_below hr (bel1 w (.cells #[] 5)))
  clear T hr hc hb hn h0 h1 h2 h3 hq hRq hf
  go_enter Tryd.func4, Tryd.ntmps4
  repeat (first
    | ((with_reducible refine gate_builtin (b := .append) (xs := #[.tmp 12, .tmp 13]) rfl ?_); at_builtin; refine Kd.R_append_rows (Kd.int .u8) (w0 := w) w.heap.size rfl (.tmp 12) (.tmp 13) 27 5 (.int .u8 0) 1 rfl Tryd.underlying27 info5 rfl (by decide) (by omega) _ [] l _ _ _ (fun _ => True) (fun _ => False) rfl rfl HSx.out HCx.out (fun _ _ h => h) (fun _ h => h.elim) (fun _ _ => trivial) HBa.out HBa.out.size (by simp only [List.length_nil]; omega) ?_; intro v2 w2 HR2 HB2 HG2 _; rw [List.nil_append] at HR2; obtain ⟨A2, c2, rfl, hl2, hr2⟩ := Kd.R_reads HR2; have h2 := Aside0.mk hl2; have hC2 := Aside0.mk hr2; have hB2 := Aside0.mk HB2; clear HR2 HB2 HG2 hl2 hr2 HSx HCx HBa; (try dsimp only))
    | ((with_reducible refine gate_callee (f := 17) rfl ?_); (with_reducible refine gate_dst (N := 17) rfl ?_); refine goesL_ (some 17) rfl rfl Tryd.func17 (by kernel_rfl) rfl #[.slice A2 l.length c2] rfl (by (try simp only [List.map_toArray, List.map_cons, List.map_nil]); first | done | rfl) ?_; refine (hTk.out A2 c2 _ hB2.out h2.out hC2.out).mono ?_; rintro e w3 ⟨vV, vB, vS, rfl, HV, HBt, HS, HB3⟩; refine ⟨_, rfl, ?_⟩; obtain ⟨A6, c6, rfl⟩ := Kd.V_slice HV; obtain ⟨A7, c7, rfl⟩ := Kd.V_slice HBt; obtain ⟨A8, c8, rfl⟩ := Kd.V_slice HS; have hL3 := Aside0.mk (Lies.below (lies_V HV HBt HS) (bel1 w3 (.cells #[.int .u8 m.k, .int .u64 m.n, .int .i64 m.r, .int .u64 m.first, .int .u64 m.last, .int .u64 m.commit, .slice A6 m.V.length c6, .slice A7 m.B.length c7, .slice A8 m.S.length c8] 29))); have hB3 := Aside0.mk (below_alloc (below_step hB2.out HB3) (.cells #[.int .u8 m.k, .int .u64 m.n, .int .i64 m.r, .int .u64 m.first, .int .u64 m.last, .int .u64 m.commit, .slice A6 m.V.length c6, .slice A7 m.B.length c7, .slice A8 m.S.length c8] 29)); have hX3 := Aside0.mk (heap_alloc_new w3 (.cells #[.int .u8 m.k, .int .u64 m.n, .int .i64 m.r, .int .u64 m.first, .int .u64 m.last, .int .u64 m.commit, .slice A6 m.V.length c6, .slice A7 m.B.length c7, .slice A8 m.S.length c8] 29)); have hC3 := Aside0.mk (Kd.C_below hC2.out (below_alloc HB3 (.cells #[.int .u8 m.k, .int .u64 m.n, .int .i64 m.r, .int .u64 m.first, .int .u64 m.last, .int .u64 m.commit, .slice A6 m.V.length c6, .slice A7 m.B.length c7, .slice A8 m.S.length c8] 29))); clear HV HBt HS HB3; (try dsimp only))
    | ((with_reducible refine gate_callee (f := 18) rfl ?_); (with_reducible refine gate_dst (N := 22) rfl ?_); refine goesL_ (some 22) rfl rfl Tryd.func18 (by kernel_rfl) rfl #[.slice A l.length c] rfl (by (try simp only [List.map_toArray, List.map_cons, List.map_nil]); first | done | rfl) ?_; refine (hRf.out _ hB3.out).mono ?_; rintro e w4 ⟨E6, E7, E8, d6, d7, d8, rfl, HAt, h6, h7, h8, HB4⟩; refine ⟨_, rfl, ?_⟩; have hL4 := Aside0.mk (Lies.below (Lies.mk HAt h6 h7 h8) (bel1 w4 (.cells #[.int .i64 m.k, .int .u64 m.n, .int .i64 m.r, .int .u64 m.first, .int .u64 m.last, .int .u64 m.commit, .slice E6 m.V.length d6, .slice E7 m.B.length d7, .slice E8 m.S.length d8] 39))); have hK4 := Aside0.mk (hL3.out.below (below_alloc HB4 (.cells #[.int .i64 m.k, .int .u64 m.n, .int .i64 m.r, .int .u64 m.first, .int .u64 m.last, .int .u64 m.commit, .slice E6 m.V.length d6, .slice E7 m.B.length d7, .slice E8 m.S.length d8] 39))); have hB4 := Aside0.mk (below_alloc (below_step hB3.out HB4) (.cells #[.int .i64 m.k, .int .u64 m.n, .int .i64 m.r, .int .u64 m.first, .int .u64 m.last, .int .u64 m.commit, .slice E6 m.V.length d6, .slice E7 m.B.length d7, .slice E8 m.S.length d8] 39)); have hX4 := Aside0.mk (blk_alloc (blk_below hX3.out HB4) (.cells #[.int .i64 m.k, .int .u64 m.n, .int .i64 m.r, .int .u64 m.first, .int .u64 m.last, .int .u64 m.commit, .slice E6 m.V.length d6, .slice E7 m.B.length d7, .slice E8 m.S.length d8] 39)); have hY4 := Aside0.mk (heap_alloc_new w4 (.cells #[.int .i64 m.k, .int .u64 m.n, .int .i64 m.r, .int .u64 m.first, .int .u64 m.last, .int .u64 m.commit, .slice E6 m.V.length d6, .slice E7 m.B.length d7, .slice E8 m.S.length d8] 39)); have hC4 := Aside0.mk (Kd.C_below hC3.out (below_alloc HB4 (.cells #[.int .i64 m.k, .int .u64 m.n, .int .i64 m.r, .int .u64 m.first, .int .u64 m.last, .int .u64 m.commit, .slice E6 m.V.length d6, .slice E7 m.B.length d7, .slice E8 m.S.length d8] 39))); have hI4 := Aside0.mk (Kd.C_below hIn.out hB4.out); clear HAt h6 h7 h8 HB4; (try dsimp only))
    | go_step)
  refine start_ (n := 20) (S := fun W => Below (w4.alloc (.cells #[.int .i64 m.k, .int .u64 m.n, .int .i64 m.r, .int .u64 m.first, .int .u64 m.last, .int .u64 m.commit, .slice E6 m.V.length d6, .slice E7 m.B.length d7, .slice E8 m.S.length d8] 39)).heap.size (w4.alloc (.cells #[.int .i64 m.k, .int .u64 m.n, .int .i64 m.r, .int .u64 m.first, .int .u64 m.last, .int .u64 m.commit, .slice E6 m.V.length d6, .slice E7 m.B.length d7, .slice E8 m.S.length d8] 39)) W) (ds := []) #[false, false, false, false, false, false, false, false, false, false, false, false, false, false, false, false, false, false, false, false] (by kernel_rfl) rfl rfl (below_drew1 (Below.refl _ _)) (fun hHeld => ?_)
  refine pure_ (i := 0) (N := some 25) (v := ?_) (a' := ?_) #[true, false, false, false, false, false, false, false, false, false, false, false, false, false, false, false, false, false, false, false] rfl rfl (by kernel_rfl) (fun _ _ _ h => h) (Or.inl ⟨by rfl, ?_⟩) ?_ ?_
  rotate_left
  · intro w'
    go_simp
    with_reducible rfl
  rotate_left
  · simp only [Act.put, List.setIfInBounds_toArray, List.set_cons_zero, List.set_cons_succ, i64_w, i32_w]
    rfl
  refine pure_ (i := 1) (N := some 26) (v := ?_) (a' := ?_) #[true, true, false, false, false, false, false, false, false, false, false, false, false, false, false, false, false, false, false, false] rfl rfl (by kernel_rfl) (fun _ _ _ h => h) (Or.inl ⟨by rfl, ?_⟩) ?_ ?_
  rotate_left
  · intro w'
    go_simp
    with_reducible rfl
  rotate_left
  · simp only [Act.put, List.setIfInBounds_toArray, List.set_cons_zero, List.set_cons_succ, i64_w, i32_w]
    rfl
  refine pure_ (i := 2) (N := some 27) (v := ?_) (a' := ?_) #[true, true, true, false, false, false, false, false, false, false, false, false, false, false, false, false, false, false, false, false] rfl rfl (by kernel_rfl) (fun _ _ _ h => h) (Or.inl ⟨by rfl, ?_⟩) ?_ ?_
  rotate_left
  · intro w'
    go_simp
    with_reducible rfl
  rotate_left
  · simp only [Act.put, List.setIfInBounds_toArray, List.set_cons_zero, List.set_cons_succ, i64_w, i32_w]
    rfl
  refine pure_ (i := 3) (N := some 28) (v := ?_) (a' := ?_) #[true, true, true, true, false, false, false, false, false, false, false, false, false, false, false, false, false, false, false, false] rfl rfl (by kernel_rfl) (fun _ _ _ h => h) (Or.inl ⟨by rfl, ?_⟩) ?_ ?_
  rotate_left
  · intro w'
    go_simp
    with_reducible rfl
  rotate_left
  · simp only [Act.put, List.setIfInBounds_toArray, List.set_cons_zero, List.set_cons_succ, i64_w, i32_w]
    rfl
  refine take_ (i := 4) (N := some 29) (v := ?_) (a' := ?_) #[true, true, true, true, true, false, false, false, false, false, false, false, false, false, false, false, false, false, false, false] rfl rfl (by kernel_rfl) (fun _ _ _ h => h) (Or.inl ⟨by rfl, ?_⟩) hHeld ?_ ?_
  rotate_left
  · rintro w' hS
    have hx0 := (blk_cell (blk_below hX4.out hS) 0).trans rfl
    have hx1 := (blk_cell (blk_below hX4.out hS) 1).trans rfl
    have hx2 := (blk_cell (blk_below hX4.out hS) 2).trans rfl
    have hx3 := (blk_cell (blk_below hX4.out hS) 3).trans rfl
    have hx4 := (blk_cell (blk_below hX4.out hS) 4).trans rfl
    have hx5 := (blk_cell (blk_below hX4.out hS) 5).trans rfl
    have hx6 := (blk_cell (blk_below hX4.out hS) 6).trans rfl
    have hx7 := (blk_cell (blk_below hX4.out hS) 7).trans rfl
    have hx8 := (blk_cell (blk_below hX4.out hS) 8).trans rfl
    go_simp
    with_reducible rfl
  rotate_left
  · simp only [Act.put, List.setIfInBounds_toArray, List.set_cons_zero, List.set_cons_succ, i64_w, i32_w]
    rfl
  refine take_ (i := 6) (N := some 31) (v := ?_) (a' := ?_) #[true, true, true, true, true, false, true, false, false, false, false, false, false, false, false, false, false, false, false, false] rfl rfl (by kernel_rfl) (fun _ _ _ h => h) (Or.inl ⟨by rfl, ?_⟩) hHeld ?_ ?_
  rotate_left
  · rintro w' hS
    have hx0 := (blk_cell (blk_below hY4.out hS) 0).trans rfl
    have hx1 := (blk_cell (blk_below hY4.out hS) 1).trans rfl
    have hx2 := (blk_cell (blk_below hY4.out hS) 2).trans rfl
    have hx3 := (blk_cell (blk_below hY4.out hS) 3).trans rfl
    have hx4 := (blk_cell (blk_below hY4.out hS) 4).trans rfl
    have hx5 := (blk_cell (blk_below hY4.out hS) 5).trans rfl
    have hx6 := (blk_cell (blk_below hY4.out hS) 6).trans rfl
    have hx7 := (blk_cell (blk_below hY4.out hS) 7).trans rfl
    have hx8 := (blk_cell (blk_below hY4.out hS) 8).trans rfl
    go_simp
    with_reducible rfl
  rotate_left
  · simp only [Act.put, List.setIfInBounds_toArray, List.set_cons_zero, List.set_cons_succ, i64_w, i32_w]
    rfl
  refine one_ (i := 5) (N := some 30) #[true, true, true, true, true, true, true, false, false, false, false, false, false, false, false, false, false, false, false, false] rfl rfl (by kernel_rfl) (by decide) (fun K hK => ?_)
  refine goes_ Tryd.func13 (by kernel_rfl) rfl #[.agg #[.int .u8 m.k, .int .u64 m.n, .int .i64 m.r, .int .u64 m.first, .int .u64 m.last, .int .u64 m.commit, .slice A6 m.V.length c6, .slice A7 m.B.length c7, .slice A8 m.S.length c8]] (by rfl) rfl rfl (by (try simp only [List.map_toArray, List.map_cons, List.map_nil]); first | done | rfl) ?_
  refine (of_calls m hk0.out hk1.out A6 A7 A8 c6 c7 c8 _).mono ?_
  rintro e w5 ⟨rfl, HB5⟩
  refine ⟨_, rfl, ?_⟩
  have hB5 := Aside0.mk (below_step hHeld HB5)
  clear hHeld HB5
  refine hK.out _ _ hB5.out (fun hHeld => ?_)
  clear hK K
  refine norm_ (a' := ?_) ?_ ?_
  rotate_left
  · show Act.put _ (some 30) _ = _
    simp only [Act.put, List.setIfInBounds_toArray, List.set_cons_zero, List.set_cons_succ, i64_w, i32_w]
    rfl
  refine one_ (i := 7) (N := some 32) #[true, true, true, true, true, true, true, true, false, false, false, false, false, false, false, false, false, false, false, false] rfl rfl (by kernel_rfl) (by decide) (fun K hK => ?_)
  refine goes_ Tryd.func12 (by kernel_rfl) rfl #[.agg #[.int .i64 m.k, .int .u64 m.n, .int .i64 m.r, .int .u64 m.first, .int .u64 m.last, .int .u64 m.commit, .slice A6 m.V.length c6, .slice A7 m.B.length c7, .slice A8 m.S.length c8], .agg #[.int .i64 m.k, .int .u64 m.n, .int .i64 m.r, .int .u64 m.first, .int .u64 m.last, .int .u64 m.commit, .slice E6 m.V.length d6, .slice E7 m.B.length d7, .slice E8 m.S.length d8]] (by rfl) rfl rfl (by (try simp only [List.map_toArray, List.map_cons, List.map_nil]); first | done | rfl) ?_
  refine (same_calls m hnB.out hnV.out A6 A7 A8 c6 c7 c8 E6 E7 E8 d6 d7 d8 _ (hK4.out.at_.below hB5.out) (hL4.out.at_.below hB5.out)).mono ?_
  rintro e w6 ⟨rfl, HB6⟩
  refine ⟨_, rfl, ?_⟩
  have hB6 := Aside0.mk (below_step hB5.out HB6)
  clear hHeld HB6
  refine hK.out _ _ hB6.out (fun hHeld => ?_)
  clear hK K
  refine norm_ (a' := ?_) ?_ ?_
  rotate_left
  · show Act.put _ (some 32) _ = _
    simp only [Act.put, List.setIfInBounds_toArray, List.set_cons_zero, List.set_cons_succ, i64_w, i32_w]
    rfl
  refine pure_ (i := 8) (N := some 33) (v := ?_) (a' := ?_) #[true, true, true, true, true, true, true, true, true, false, false, false, false, false, false, false, false, false, false, false] rfl rfl (by kernel_rfl) (fun _ _ _ h => h) (Or.inl ⟨by rfl, ?_⟩) ?_ ?_
  rotate_left
  · intro w'
    go_simp
    with_reducible rfl
  rotate_left
  · simp only [Act.put, List.setIfInBounds_toArray, List.set_cons_zero, List.set_cons_succ, i64_w, i32_w]
    rfl
  refine pure_ (i := 9) (N := some 34) (v := ?_) (a' := ?_) #[true, true, true, true, true, true, true, true, true, true, false, false, false, false, false, false, false, false, false, false] rfl rfl (by kernel_rfl) (fun _ _ _ h => h) (Or.inl ⟨by rfl, ?_⟩) ?_ ?_
  rotate_left
  · intro w'
    go_simp
    with_reducible rfl
  rotate_left
  · simp only [Act.put, List.setIfInBounds_toArray, List.set_cons_zero, List.set_cons_succ, i64_w, i32_w]
    rfl
  refine pure_ (i := 10) (N := some 35) (v := ?_) (a' := ?_) #[true, true, true, true, true, true, true, true, true, true, true, false, false, false, false, false, false, false, false, false] rfl rfl (by kernel_rfl) (fun _ _ _ h => h) (Or.inl ⟨by rfl, ?_⟩) ?_ ?_
  rotate_left
  · intro w'
    go_simp
    with_reducible rfl
  rotate_left
  · simp only [Act.put, List.setIfInBounds_toArray, List.set_cons_zero, List.set_cons_succ, i64_w, i32_w]
    rfl
  refine pure_ (i := 12) (N := some 37) (v := ?_) (a' := ?_) #[true, true, true, true, true, true, true, true, true, true, true, false, true, false, false, false, false, false, false, false] rfl rfl (by kernel_rfl) (fun _ _ _ h => h) (Or.inl ⟨by rfl, ?_⟩) ?_ ?_
  rotate_left
  · intro w'
    go_simp
    with_reducible rfl
  rotate_left
  · simp only [Act.put, List.setIfInBounds_toArray, List.set_cons_zero, List.set_cons_succ, i64_w, i32_w]
    rfl
  refine take_ (i := 11) (N := some 36) (v := ?_) (a' := ?_) #[true, true, true, true, true, true, true, true, true, true, true, true, true, false, false, false, false, false, false, false] rfl rfl (by kernel_rfl) (fun _ _ _ h => h) (Or.inl ⟨by rfl, ?_⟩) hHeld ?_ ?_
  rotate_left
  · rintro w' hS
    have hcv := Kd.C_string (P := Tryd.prog) (A := A2) (c := c2) Tryd.underlying27 Tryd.underlying5 Tryd.underlying9 (Kd.C_below hC4.out hS)
    go_simp
    with_reducible rfl
  rotate_left
  · simp only [Act.put, List.setIfInBounds_toArray, List.set_cons_zero, List.set_cons_succ, i64_w, i32_w]
    rfl
  refine take_ (i := 13) (N := some 38) (v := ?_) (a' := ?_) #[true, true, true, true, true, true, true, true, true, true, true, true, true, true, false, false, false, false, false, false] rfl rfl (by kernel_rfl) (fun _ _ _ h => h) (Or.inl ⟨by rfl, ?_⟩) hHeld ?_ ?_
  rotate_left
  · rintro w' hS
    have hcv := Kd.C_string (P := Tryd.prog) (A := A) (c := c) Tryd.underlying27 Tryd.underlying5 Tryd.underlying9 (Kd.C_below hI4.out hS)
    go_simp
    with_reducible rfl
  rotate_left
  · simp only [Act.put, List.setIfInBounds_toArray, List.set_cons_zero, List.set_cons_succ, i64_w, i32_w]
    rfl
  refine pure_ (i := 14) (N := some 39) (v := ?_) (a' := ?_) #[true, true, true, true, true, true, true, true, true, true, true, true, true, true, true, false, false, false, false, false] rfl rfl (by kernel_rfl) (fun _ _ _ h => h) (Or.inl ⟨by rfl, ?_⟩) ?_ ?_
  rotate_left
  · intro w'
    go_simp
    with_reducible rfl
  rotate_left
  · simp only [Act.put, List.setIfInBounds_toArray, List.set_cons_zero, List.set_cons_succ, i64_w, i32_w]
    rfl
  refine pure_ (i := 15) (N := some 40) (v := ?_) (a' := ?_) #[true, true, true, true, true, true, true, true, true, true, true, true, true, true, true, true, false, false, false, false] rfl rfl (by kernel_rfl) (fun _ _ _ h => h) (Or.inl ⟨by rfl, ?_⟩) ?_ ?_
  rotate_left
  · intro w'
    go_simp
    with_reducible rfl
  rotate_left
  · simp only [Act.put, List.setIfInBounds_toArray, List.set_cons_zero, List.set_cons_succ, i64_w, i32_w]
    rfl
  refine pure_ (i := 16) (N := some 41) (v := ?_) (a' := ?_) #[true, true, true, true, true, true, true, true, true, true, true, true, true, true, true, true, true, false, false, false] rfl rfl (by kernel_rfl) (fun _ _ _ h => h) (Or.inl ⟨by rfl, ?_⟩) ?_ ?_
  rotate_left
  · intro w'
    go_simp
    with_reducible rfl
  rotate_left
  · simp only [Act.put, List.setIfInBounds_toArray, List.set_cons_zero, List.set_cons_succ, i64_w, i32_w]
    rfl
  refine one_ (i := 17) (N := some 42) #[true, true, true, true, true, true, true, true, true, true, true, true, true, true, true, true, true, true, false, false] rfl rfl (by kernel_rfl) (by decide) (fun K hK => ?_)
  refine goes_ Tryd.func8 (by kernel_rfl) rfl #[] (by rfl) rfl rfl (by (try simp only [List.map_toArray, List.map_cons, List.map_nil]); first | done | rfl) ?_
  refine (wakes_at w _ hT.out (below_step hB4.out hB6.out)).mono ?_
  rintro e w8 ⟨rfl, HB8⟩
  refine ⟨_, rfl, ?_⟩
  have hB8 := Aside0.mk (below_step hB6.out HB8)
  clear hHeld HB8
  refine hK.out _ _ hB8.out (fun hHeld => ?_)
  clear hK K
  refine norm_ (a' := ?_) ?_ ?_
  rotate_left
  · show Act.put _ (some 42) _ = _
    simp only [Act.put, List.setIfInBounds_toArray, List.set_cons_zero, List.set_cons_succ, i64_w, i32_w]
    rfl
  refine pure_ (i := 18) (N := some 43) (v := ?_) (a' := ?_) #[true, true, true, true, true, true, true, true, true, true, true, true, true, true, true, true, true, true, true, false] rfl rfl (by kernel_rfl) (fun _ _ _ h => h) (Or.inl ⟨by rfl, ?_⟩) ?_ ?_
  rotate_left
  · intro w'
    go_simp
    with_reducible rfl
  rotate_left
  · simp only [Act.put, List.setIfInBounds_toArray, List.set_cons_zero, List.set_cons_succ, i64_w, i32_w]
    rfl
  refine pure_ (i := 19) (N := some 2) (v := ?_) (a' := ?_) #[true, true, true, true, true, true, true, true, true, true, true, true, true, true, true, true, true, true, true, true] rfl rfl (by kernel_rfl) (fun _ _ _ h => h) (Or.inl ⟨by rfl, ?_⟩) ?_ ?_
  rotate_left
  · intro w'
    go_simp
    with_reducible rfl
  rotate_left
  · simp only [Act.put, List.setIfInBounds_toArray, List.set_cons_zero, List.set_cons_succ, i64_w, i32_w]
    rfl
  refine done_ (by kernel_rfl) ?_
  go_wp2
  go_ret
  exact ⟨rfl, below_step hB4.out hB8.out⟩
theorem takes_calls (A : Option Addr) (c : Nat) (l : List Int) (w : World) (T : Tabs w) (hr : Kd.C (Kd.int .u8) w A l.length l) (hc : l.length ≤ c) (hb : Bys l) : Calls Tryd.prog 4 #[.slice A l.length c] w fun e w' => e = .returned (.bool true) ∧ Below w.heap.size w w' := by
  by_cases hn : l.length ≤ 5000
  · exact takes_short A c l w T hr hc hb hn
  · exact takes_long A l.length c w T (by omega)
end Go.Proofs.YtfkfboigkpofkaaDoor.M
end
section
namespace Go.Proofs.YtfkfboigkpofkaaDoor.M
open Go.RowKit Go.Proofs.YtfkfboigkpofkaaDoorW.PrintWords Go.Proofs.YtfkfboigkpofkaaDoorW.PrintLast Go.Proofs.YtfkfboigkpofkaaDoorW.PrintMore Go.Proofs.YtfkfboigkpofkaaDoor.PMsgPuts
set_option linter.unusedVariables false
set_option linter.unusedSimpArgs false
open Go.ChangeShapes Go.WideShapes Go.ChangeAt Go.Deep
abbrev laidL : List (String × DataW Unit) := [("quorate/crc.steps", Rows.laid_quorate_crc_steps), ("quorate/msg.fields", Rows.laid_quorate_msg_fields)]
theorem gSteps : Tryd.prog.globalNamed "quorate/crc.steps" = some 2 := by kernel_rfl
theorem gFields : Tryd.prog.globalNamed "quorate/msg.fields" = some 0 := by kernel_rfl
theorem tSteps : (Tryd.prog.globals[2]?).map (·.type) = some 115 := by kernel_rfl
theorem tFields : (Tryd.prog.globals[0]?).map (·.type) = some 57 := by kernel_rfl
theorem cells_strs {H : Type} {enc : TypeId × Value → H} {P : Program} {w : World} {base : Nat} {sp : Nat → Bool} {held : Bool} {fuel : Nat} {t e : TypeId} {n : Nat} {cs : List Value} {ls : List (List UInt8)} {p : List MemPlace}
    (ht : P.underlying t = some (.array n e)) (he : P.underlying e = some .string) (hce : P.cellsOf e = 1)
    (h : DataW.trod enc P w base sp held fuel t cs = some (.agg (ls.map fun l => DataW.lit (Lit.string l)), p)) : ∀ (i : Nat) (l : List UInt8), ls[i]? = some l → cs[i]? = some (Value.string ⟨l.toArray⟩) := by
  obtain ⟨xs, m, _, hx, _, hn, hel⟩ := DataW.trod_array ht h
  simp only [Prod.mk.injEq, DataW.agg.injEq] at hx
  intro i l hl
  have h1 : (xs.map (·.1))[i]? = some (DataW.lit (.string l) : DataW H) := by
    rw [← hx.1, List.getElem?_map, hl]
    rfl
  rw [List.getElem?_map, Option.map_eq_some_iff] at h1
  obtain ⟨y, hy, hy2⟩ := h1
  have hin : i < n := by rw [← hn]; exact (List.getElem?_eq_some_iff.1 hy).1
  have h2 := hel i hin
  rw [hy, hce] at h2
  obtain ⟨s, hs1, hs2, _⟩ := DataW.trod_string he h2
  have h3 : cs[i]? = some (.string s) := by
    have := congrArg (·[0]?) hs1
    simpa [List.getElem?_take, List.getElem?_drop] using this
  rw [hs2] at hy2
  simp only [DataW.lit.injEq, Lit.string.injEq] at hy2
  rw [h3, ← hy2]
theorem tabs_of_laid {W : World} (h : laidMetH Tryd.prog laidL W) : Tabs W := by
  rw [MakeChecks.laidMetH_plain _ _ _ (by kernel_rfl)] at h
  obtain ⟨ps, ⟨g0, t0, cs0, f0, p0, q0, hg0, ht0, hv0, hd0, ⟨g1, t1, cs1, f1, p1, q1, hg1, ht1, hv1, hd1, _, _⟩, _⟩, _, _⟩ := h
  obtain rfl := Option.some.inj (gSteps.symm.trans hg0)
  obtain rfl := Option.some.inj (gFields.symm.trans hg1)
  obtain rfl := Option.some.inj (tSteps.symm.trans ht0)
  obtain rfl := Option.some.inj (tFields.symm.trans ht1)
  have e0 := Lib.cells_of_tab (zs := (List.range 16).map fun i => stp i) (k := .u32) Tryd.underlying115 Tryd.underlying64 (by kernel_rfl) (by kernel_rfl) hd0
  have e1 := cells_strs (ls := (List.range 9).map fun i => fld i) Tryd.underlying57 Tryd.underlying9 (by kernel_rfl) hd1
  refine ⟨fun i hi => ?_, fun i hi => ?_⟩
  · rw [World.var?_cell hg1 hv1 i]
    have h1 := e1 i (fld i) (by rw [List.getElem?_map, List.getElem?_range hi]; rfl)
    rw [Array.getElem?_toList] at h1
    exact h1
  · rw [World.var?_cell hg0 hv0 i, ← Array.getElem?_toList, e0]
    simp [List.getElem?_range hi]
section
variable {H : Type} {enc : TypeId × Value → H} {w : World}
theorem slice_C {t e : TypeId} {α : Type} (d : Kd α) (Good : α → Prop) (ht : Tryd.prog.underlying t = some (.slice e)) (hC : Tryd.prog.cellsOf e = d.sz)
    (hel : ∀ (n : Nat) (cs : List Value) (x : DataW H × List MemPlace), cs.length = d.sz → DataW.trod enc Tryd.prog w 0 (fun _ => true) true n e cs = some x → ∃ p : α, d.K w p cs ∧ Good p)
    {fuel : Nat} {cs : List Value} {x : DataW H × List MemPlace} (h : DataW.trod enc Tryd.prog w 0 (fun _ => true) true fuel t cs = some x) :
    ∃ A c l, cs = [.slice A (l : List α).length c] ∧ l.length ≤ c ∧ d.C w A l.length l ∧ ∀ p ∈ l, Good p := by
  rcases open_slice ht h with ⟨rfl, _⟩ | ⟨a, len, cap, m, n, D, Pl, rfl, _, hl, hm, hmm, _, hi⟩
  · exact ⟨none, 0, [], rfl, Nat.le_refl _, Kd.C_nil d w, fun p hp => by cases hp⟩
  · have hmc : m = cap := by simpa using hmm
    have hex : ∀ i : Fin len, ∃ p : α, (∃ cs', w.cells? 0 (a.add (i * d.sz)) d.sz = some cs' ∧ d.K w p cs') ∧ Good p := by
      intro i
      obtain ⟨cs', h1, h2⟩ := hi i.1 (by omega)
      rw [hC] at h1
      obtain ⟨_, hlen, _⟩ := World.cells?_some h1
      obtain ⟨p, hp, hg⟩ := hel n cs' _ hlen h2
      exact ⟨p, ⟨cs', h1, hp⟩, hg⟩
    let f : Fin len → α := fun i => Classical.choose (hex i)
    have hf : ∀ i : Fin len, (∃ cs', w.cells? 0 (a.add (i * d.sz)) d.sz = some cs' ∧ d.K w (f i) cs') ∧ Good (f i) := fun i => Classical.choose_spec (hex i)
    have hlen : (List.ofFn f).length = len := List.length_ofFn
    refine ⟨some a, cap, List.ofFn f, by rw [hlen], by rw [hlen]; exact hl, ⟨rfl, by rw [hlen]; unfold maxLen at hm; omega, fun _ => ⟨a, rfl, fun j p hj => ?_⟩⟩, fun p hp => ?_⟩
    · obtain ⟨hjl, hjp⟩ := List.getElem?_eq_some_iff.1 hj
      rw [hlen] at hjl
      obtain ⟨⟨cs', h1, h2⟩, _⟩ := hf ⟨j, hjl⟩
      have e : p = f ⟨j, hjl⟩ := by rw [← hjp, List.getElem_ofFn]
      rw [e]
      obtain ⟨_, hcl, hat⟩ := World.cells?_some h1
      refine ⟨cs', hcl, h2, fun i u hu => ?_⟩
      have hil : i < d.sz := by rw [← hcl]; exact (List.getElem?_eq_some_iff.1 hu).1
      have h3 := hat i hil
      rw [Deep.add_add] at h3
      exact h3.trans hu
    · obtain ⟨i, rfl⟩ := List.mem_ofFn.1 hp
      exact (hf i).2
theorem wf_u8 {n : Int} (h : (Lit.int .u8 n).wf = true) : 0 ≤ n ∧ n < 256 := by
  simp [Lit.wf, IntKind.min, IntKind.max, IntKind.signed, IntKind.bits] at h
  omega
theorem open_bytes {fuel : Nat} {cs : List Value} {x : DataW H × List MemPlace} (h : DataW.trod enc Tryd.prog w 0 (fun _ => true) true fuel 27 cs = some x) :
    ∃ A c l, cs = [.slice A (l : List Int).length c] ∧ l.length ≤ c ∧ (Kd.int .u8).C w A l.length l ∧ Bys l :=
  slice_C (Kd.int .u8) (fun n => 0 ≤ n ∧ n < 256) Tryd.underlying27 (by kernel_rfl) (fun n cs x _ h => by
    obtain ⟨n, rfl, _, hw⟩ := DataW.trod_int Tryd.underlying5 h
    exact ⟨n, rfl, wf_u8 hw⟩) h
end
end Go.Proofs.YtfkfboigkpofkaaDoor.M
end
