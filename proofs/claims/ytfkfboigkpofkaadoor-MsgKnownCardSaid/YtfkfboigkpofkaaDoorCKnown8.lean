/- Parts of a proof, pruned and joined by flat.py out of: MR, MS, MT, MXa, MY. -/
import Derived.Test.YtfkfboigkpofkaaDoorCKnown7
section
namespace Go.Proofs.YtfkfboigkpofkaaDoor.M
open Go.RowKit Go.Proofs.YtfkfboigkpofkaaDoorW.PrintWords Go.Proofs.YtfkfboigkpofkaaDoorW.PrintLast Go.Proofs.YtfkfboigkpofkaaDoorW.PrintMore Go.Proofs.YtfkfboigkpofkaaDoor.PMsgPuts
set_option linter.unusedVariables false
set_option linter.unusedSimpArgs false
theorem many_len {α : Type} (one : TS → α × TS) : ∀ (n : Nat) (s : TS), (manyT one n s).1.length = n
  | 0, _ => rfl
  | n + 1, s => congrArg (· + 1) (many_len one n (one s).2)
theorem rows_len (s : TS) : (rowsT voteT 256 s).1.length ≤ 256 := by
  unfold rowsT
  split
  · simp
  · rw [many_len]
    omega
theorem takeF_V (c : Int) (p : Mg × TS) (h : p.1.V.length ≤ 256) : (takeF c p).1.V.length ≤ 256 := by
  unfold takeF
  repeat' split
  all_goals first | exact h | exact rows_len _
theorem takes_V : ∀ (l : List Int) (p : Mg × TS), p.1.V.length ≤ 256 → (takesF l p).1.V.length ≤ 256
  | [], _, h => h
  | c :: l, p, h => takes_V l (takeF c p) (takeF_V c p h)
theorem start_Tk {w w3 : World} {X : Option Addr} {n c : Nat} {l : List Int} (hB : Below w.heap.size w w3) (hl : (l.drop 4).length = n - 4) (hn : l.length = n) (hc : n ≤ c) (hr : Kd.C (Kd.int .u8) w X (l.drop 4).length (l.drop 4)) :
    Tk w ((w3.alloc (.cells #[.int .i64 0, .slice X (n - 4) (c - 4), .int .i64 n] 99)).alloc (.cells #[.pointer (some ⟨w3.heap.size, 0, none⟩), .bool false] 73)) (w3.heap.size + 1) w3.heap.size ⟨rs0 l, false⟩ := by
  refine ⟨⟨hB.size, below_alloc (below_alloc hB _) _, X, c - 4, ?_, ?_, hr⟩, ?_, Nat.le_succ_of_le hB.size, Nat.ne_of_lt (Nat.lt_succ_self _)⟩
  · have h1 := blk_alloc (heap_alloc_new w3 (.cells #[.int .i64 0, .slice X (n - 4) (c - 4), .int .i64 n] 99)) (.cells #[.pointer (some ⟨w3.heap.size, 0, none⟩), .bool false] 73)
    have e : (.cells #[.int .i64 (rs0 l).e, .slice X (rs0 l).l.length (c - 4), .int .i64 (rs0 l).lim] 99 (0, 0) : Obj) = .cells #[.int .i64 0, .slice X (n - 4) (c - 4), .int .i64 n] 99 (0, 0) := by
      show (.cells #[.int .i64 0, .slice X (l.drop 4).length (c - 4), .int .i64 l.length] 99 (0, 0) : Obj) = _
      rw [hl, hn]
    rw [e]
    exact h1
  · show (l.drop 4).length ≤ c - 4
    omega
  · have := heap_alloc_new (w3.alloc (.cells #[.int .i64 0, .slice X (n - 4) (c - 4), .int .i64 n] 99)) (.cells #[.pointer (some ⟨w3.heap.size, 0, none⟩), .bool false] 73)
    simpa using this
set_option maxHeartbeats 1000000 in
set_option maxRecDepth 100000 in
theorem Take_form (A : Option Addr) (n c : Nat) (l : List Int) (hl : l.length = n) (hn : 5 ≤ n) (hc : n ≤ c) (w : World) (T : Tabs w) (hr : Kd.C (Kd.int .u8) w A n l) (hb : Bys l) (hf : Fits n) (hOk : sumOk l = true) (hkk : knownB (nR (rs0 l)).1 = false) :
    Calls Tryd.prog 17 #[.slice A n c] w (TakeP w (m0 0, 11)) := by
  have hn1 : (5 : Int) ≤ n := by omega
  have c0 : decide ((n : Int) < 5) = false := decide_eq_false (by omega)
  have hn2 : 4 ≤ n := by omega
  have hn3 : (n : Int) < 140737488355328 := by have := hf; unfold Fits at this; omega
  have hcn : n ≤ c := hc
  have hm1 : (4 ≤ (n : Int)) = True := eq_true (by omega)
  have hm2 : (4 ≤ (c : Int)) = True := eq_true (by omega)
  have hcn4 : 4 ≤ c := by omega
  have e4 : (l.drop 4).length = n - 4 := by rw [List.length_drop, hl]
  have hDr : Kd.C (Kd.int .u8) w (if c = 4 then A else Option.map (fun x => (⟨x.block, x.off + 4, none⟩ : Addr)) A) (l.drop 4).length (l.drop 4) := by
    have := Kd.C_drop (m := 4) (c := c) (by rw [hl]; exact hr) (by omega) (by omega)
    exact this
  have hTk : Kd.C (Kd.int .u8) w A 4 (l.take 4) := by
    have := Kd.C_take (m := 4) (by rw [hl]; exact hr) (by omega)
    rwa [show (l.take 4).length = 4 from by simp; omega] at this
  have hbd : Bys (l.drop 4) := fun x hx => hb x (List.mem_of_mem_drop hx)
  have hfd : Fits (l.drop 4).length := by unfold Fits at *; omega
  have hSum : Aside0 (∀ W, Below w.heap.size w W → Calls Tryd.prog 27 #[.slice (if c = 4 then A else Option.map (fun x => (⟨x.block, x.off + 4, none⟩ : Addr)) A) (n - 4) (c - 4)] W fun e w' => ∃ g, W.heap.size ≤ g ∧ e = .returned (.slice (some ⟨g, 0, none⟩) 4 4) ∧ w'.heap[g]? = some (.cells (nums .u8 (sumB (l.drop 4))).toArray 5 (0, 0)) ∧ Below W.heap.size W w') := by
    refine ⟨fun W hW => ?_⟩
    have := sum_calls (if c = 4 then A else Option.map (fun x => (⟨x.block, x.off + 4, none⟩ : Addr)) A) (c - 4) (l.drop 4) W (T.below hW) (Kd.C_below hDr hW) hbd hfd
    rwa [e4] at this
  have hEq : Aside0 (∀ (g : Nat) (W : World), Below w.heap.size w W → W.heap[g]? = some (.cells (nums .u8 (sumB (l.drop 4))).toArray 5 (0, 0)) → Calls Tryd.prog 35 #[.slice (some ⟨g, 0, none⟩) 4 4, .slice A 4 c] W fun e w' => e = .returned (.bool true) ∧ Below W.heap.size W w') := by
    refine ⟨fun g W hW hg => ?_⟩
    have h1 := (Kd.R_reads' (Kd.R_of_own (enc := Value.int .u8) (h1 := fun _ => rfl) (ok := fun _ => True) (own_four hg (Nat.zero_le g)) (fun _ _ => trivial))).2.2
    have h2 := Kd.C_below hTk hW
    have h3 : (l.take 4).length = 4 := by simp; omega
    have := bytes_Equal.calls (some ⟨g, 0, none⟩) 4 (sumB (l.drop 4)) A c (l.take 4) true W h1 (Nat.le_refl _) (by rw [h3]; exact h2) (by omega) (by unfold bytes_Equal.f; rw [← hOk]; rfl)
    rw [h3] at this
    refine this.mono ?_
    rintro e w' ⟨rfl, hD⟩
    exact ⟨rfl, below_drawn hD⟩
  obtain ⟨kd, s1, hks⟩ : ∃ kd s1, nR (rs0 l) = (kd, s1) := ⟨_, _, rfl⟩
  have hU : U kd := by have := nR_U (s := rs0 l) hbd; rwa [hks] at this
  rw [hks] at hkk
  have hkn : Aside0 (knownB kd = false) := ⟨hkk⟩
  have hk0 := Aside0.mk hU.1
  have hDr2 : Kd.C (Kd.int .u8) w (Option.map (fun x => (⟨x.block, x.off + 4, none⟩ : Addr)) A) (l.drop 4).length (l.drop 4) := by
    have := hDr
    rwa [if_neg (by omega)] at this
  have hNum : Aside0 (∀ (g : Nat) (V : World), Rd w V g (rs0 l) → Calls Tryd.prog 37 #[.pointer (some ⟨g, 0, none⟩)] V fun e w' => e = .returned (.int .u64 kd) ∧ Rd w w' g s1 ∧ V.grownBy w' (some g)) := ⟨fun g V hV => num_at w g hfd hbd hks V hV⟩
  have hStart : Aside0 (∀ (w3 : World), Below w.heap.size w w3 → Tk w ((w3.alloc (.cells #[.int .i64 0, .slice (Option.map (fun x => (⟨x.block, x.off + 4, none⟩ : Addr)) A) (n - 4) (c - 4), .int .i64 n] 99)).alloc (.cells #[.pointer (some ⟨w3.heap.size, 0, none⟩), .bool false] 73)) (w3.heap.size + 1) w3.heap.size ⟨rs0 l, false⟩) := ⟨fun w3 hB => start_Tk hB e4 hl hc hDr2⟩
  have hTab := Aside0.mk T
  have hX := Aside0.mk (heap_alloc_new w (.cells #[.int .u8 0, .int .u64 0, .int .i64 0, .int .u64 0, .int .u64 0, .int .u64 0, .slice none 0 0, .slice none 0 0, .slice none 0 0] 29))
  clear hr hf hb hOk T hl hn hc hDr hDr2 hTk hbd hfd e4 hks hU hkk
  go_enter Tryd.func17, Tryd.ntmps17
  go_wp2
  have hX1 := Aside0.mk (blk_drew hX.out)
  have hW1 := Aside0.mk (below_drew1 (bel1 w (.cells #[.int .u8 0, .int .u64 0, .int .i64 0, .int .u64 0, .int .u64 0, .int .u64 0, .slice none 0 0, .slice none 0 0, .slice none 0 0] 29)))
  refine start_ (n := 8) (S := fun _ => True) (ds := []) #[false, false, false, false, false, false, false, false] (by kernel_rfl) rfl rfl trivial (fun hHeld => ?_)
  refine pure_ (i := 0) (N := some 13) (v := ?_) (a' := ?_) #[true, false, false, false, false, false, false, false] rfl rfl (by kernel_rfl) (fun _ _ _ h => h) (Or.inl ⟨by rfl, ?_⟩) ?_ ?_
  rotate_left
  · intro w'
    go_simp
    with_reducible rfl
  rotate_left
  · simp only [Act.put, List.setIfInBounds_toArray, List.set_cons_zero, List.set_cons_succ, i64_w, i32_w]
    rfl
  refine pure_ (i := 3) (N := some 16) (v := ?_) (a' := ?_) #[true, false, false, true, false, false, false, false] rfl rfl (by kernel_rfl) (fun _ _ _ h => h) (Or.inl ⟨by rfl, ?_⟩) ?_ ?_
  rotate_left
  · intro w'
    go_simp
    with_reducible rfl
  rotate_left
  · simp only [Act.put, List.setIfInBounds_toArray, List.set_cons_zero, List.set_cons_succ, i64_w, i32_w]
    rfl
  refine pure_ (i := 1) (N := some 14) (v := ?_) (a' := ?_) #[true, true, false, true, false, false, false, false] rfl rfl (by kernel_rfl) (fun _ _ _ h => h) (Or.inl ⟨by rfl, ?_⟩) ?_ ?_
  rotate_left
  · intro w'
    go_simp
    with_reducible rfl
  rotate_left
  · simp only [Act.put, List.setIfInBounds_toArray, List.set_cons_zero, List.set_cons_succ, i64_w, i32_w]
    rfl
  refine pure_ (i := 4) (N := some 17) (v := ?_) (a' := ?_) #[true, true, false, true, true, false, false, false] rfl rfl (by kernel_rfl) (fun _ _ _ h => h) (Or.inl ⟨by rfl, ?_⟩) ?_ ?_
  rotate_left
  · intro w'
    go_simp
    with_reducible rfl
  rotate_left
  · simp only [Act.put, List.setIfInBounds_toArray, List.set_cons_zero, List.set_cons_succ, i64_w, i32_w]
    rfl
  refine one_ (i := 2) (N := some 15) #[true, true, true, true, true, false, false, false] rfl rfl (by kernel_rfl) (by decide) (fun K hK => ?_)
  refine goes_ Tryd.func27 (by kernel_rfl) rfl #[.slice (if c = 4 then A else Option.map (fun x => (⟨x.block, x.off + 4, none⟩ : Addr)) A) (n - 4) (c - 4)] (by rfl) rfl rfl (by (try simp only [List.map_toArray, List.map_cons, List.map_nil]); first | done | rfl) ?_
  refine (hSum.out _ hW1.out).mono ?_
  rintro e w2 ⟨g2, hg2, rfl, hh2, hB2⟩
  refine ⟨_, rfl, ?_⟩
  have hB2' := Aside0.mk (hW1.out.trans (hB2.mono hW1.out.size))
  have hX2 := Aside0.mk (blk_below hX1.out hB2)
  have hg2' := Aside0.mk hh2
  clear hB2 hh2
  refine hK.out _ _ trivial (fun hHeld => ?_)
  clear hK K
  refine norm_ (a' := ?_) ?_ ?_
  rotate_left
  · show Act.put _ (some 15) _ = _
    simp only [Act.put, List.setIfInBounds_toArray, List.set_cons_zero, List.set_cons_succ, i64_w, i32_w]
    rfl
  refine one_ (i := 5) (N := some 18) #[true, true, true, true, true, true, false, false] rfl rfl (by kernel_rfl) (by decide) (fun K hK => ?_)
  refine goes_ Tryd.func35 (by kernel_rfl) rfl #[.slice (some ⟨g2, 0, none⟩) 4 4, .slice A 4 c] (by rfl) rfl rfl (by (try simp only [List.map_toArray, List.map_cons, List.map_nil]); first | done | rfl) ?_
  refine (hEq.out g2 w2 hB2'.out hg2'.out).mono ?_
  rintro e w3 ⟨rfl, hD3⟩
  refine ⟨_, rfl, ?_⟩
  have hB3 := Aside0.mk (hB2'.out.trans (hD3.mono hB2'.out.size))
  have hX3 := Aside0.mk (blk_below hX2.out hD3)
  clear hD3 hX2 hB2' hg2'
  refine hK.out _ _ trivial (fun hHeld => ?_)
  clear hK K
  refine norm_ (a' := ?_) ?_ ?_
  rotate_left
  · show Act.put _ (some 18) _ = _
    simp only [Act.put, List.setIfInBounds_toArray, List.set_cons_zero, List.set_cons_succ, i64_w, i32_w]
    rfl
  refine pure_ (i := 6) (N := some 19) (v := ?_) (a' := ?_) #[true, true, true, true, true, true, true, false] rfl rfl (by kernel_rfl) (fun _ _ _ h => h) (Or.inl ⟨by rfl, ?_⟩) ?_ ?_
  rotate_left
  · intro w'
    go_simp
    with_reducible rfl
  rotate_left
  · simp only [Act.put, List.setIfInBounds_toArray, List.set_cons_zero, List.set_cons_succ, i64_w, i32_w]
    rfl
  refine pure_ (i := 7) (N := some 12) (v := ?_) (a' := ?_) #[true, true, true, true, true, true, true, true] rfl rfl (by kernel_rfl) (fun _ _ _ h => h) (Or.inl ⟨by rfl, ?_⟩) ?_ ?_
  rotate_left
  · intro w'
    go_simp
    with_reducible rfl
  rotate_left
  · simp only [Act.put, List.setIfInBounds_toArray, List.set_cons_zero, List.set_cons_succ, i64_w, i32_w]
    rfl
  refine done_ (by kernel_rfl) ?_

  repeat (first
    | ((with_reducible refine gate_callee (f := 36) rfl ?_); (with_reducible refine gate_dst (N := 25) rfl ?_); refine goesL_ (some 25) rfl rfl Tryd.func36 (by kernel_rfl) rfl #[.slice (Option.map (fun x => (⟨x.block, x.off + 4, none⟩ : Addr)) A) (n - 4) (c - 4), .int .i64 n] rfl (by (try simp only [List.map_toArray, List.map_cons, List.map_nil]); first | done | rfl) ?_; refine (newr_calls _ _ _ _ _).mono ?_; rintro e w4 ⟨rfl, rfl⟩; refine ⟨_, rfl, ?_⟩; have hTk5 := hStart.out _ hB3.out; have ht0 := (blk_cell hTk5.box 0).trans rfl; (try dsimp only))
    | ((with_reducible refine gate_callee (f := 37) rfl ?_); (with_reducible refine gate_dst (N := 32) rfl ?_); refine goesL_ (some 32) rfl rfl Tryd.func37 (by kernel_rfl) rfl #[.pointer (some ⟨w3.heap.size, 0, none⟩)] rfl (by (try simp only [List.map_toArray, List.map_cons, List.map_nil]); first | done | rfl) ?_; refine (hNum.out _ _ hTk5.rd).mono ?_; rintro e w5 ⟨rfl, HR5, G5⟩; refine ⟨_, rfl, ?_⟩; have hT5 := Aside0.mk (hTk5.read HR5 G5); have hX5 := Aside0.mk (blk_grown (blk_alloc (blk_alloc hX3.out _) _) G5 (fun e => Nat.lt_irrefl _ (Nat.lt_of_lt_of_le (blk_lt hX3.out) (Nat.le_of_eq (Option.some.inj e).symm)))); have hB5 := Aside0.mk ((below_alloc (below_alloc hB3.out _) _).trans (grown_bel G5 hB3.out.size (Nat.le_trans hB3.out.size (by simp; omega)))); have G5' := Aside0.mk G5; clear HR5 G5 ht0 hTk5; have hz0 := (blk_cell hX5.out 0).trans rfl; have hy0 := blk_frozen hX5.out 0; have hz1 := (blk_cell hX5.out 1).trans rfl; have hy1 := blk_frozen hX5.out 1; have hz2 := (blk_cell hX5.out 2).trans rfl; have hy2 := blk_frozen hX5.out 2; have hz3 := (blk_cell hX5.out 3).trans rfl; have hy3 := blk_frozen hX5.out 3; have hz4 := (blk_cell hX5.out 4).trans rfl; have hy4 := blk_frozen hX5.out 4; have hz5 := (blk_cell hX5.out 5).trans rfl; have hy5 := blk_frozen hX5.out 5; have hz6 := (blk_cell hX5.out 6).trans rfl; have hy6 := blk_frozen hX5.out 6; have hz7 := (blk_cell hX5.out 7).trans rfl; have hy7 := blk_frozen hX5.out 7; have hz8 := (blk_cell hX5.out 8).trans rfl; have hy8 := blk_frozen hX5.out 8; (try dsimp only))
    | ((with_reducible refine gate_callee (f := 20) rfl ?_); (with_reducible refine gate_dst (N := 34) rfl ?_); refine goesL_ (some 34) rfl rfl Tryd.func20 (by kernel_rfl) rfl #[.int .u64 kd] rfl (by (try simp only [List.map_toArray, List.map_cons, List.map_nil]); first | done | rfl) ?_; refine (known_calls _ hk0.out _ (hTab.out.below hB5.out)).mono ?_; rintro e w6 ⟨rfl, rfl⟩; refine ⟨_, rfl, ?_⟩; rw [hkn.out]; (try dsimp only))
    | go_step)
  have hS9 := set9 hX5.out (.int .u8 0) (.int .u64 0) (.int .i64 0) (.int .u64 0) (.int .u64 0) (.int .u64 0) (.slice none 0 0) (.slice none 0 0) (.slice none 0 0)
  refine bodyPost_ret (results_ct rfl _ _ w.heap.size 29 _ (0, 0) _ rfl hS9.1 Tryd.underlying29 rfl (by kernel_rfl)) rfl ?_
  exact takeP_zero (hB5.out.trans (grown_bel hS9.2 (Nat.le_refl _) hB5.out.size)) 11
set_option maxHeartbeats 1000000 in
set_option maxRecDepth 100000 in
theorem Take_bad (A : Option Addr) (n c : Nat) (l : List Int) (hl : l.length = n) (hn : 5 ≤ n) (hc : n ≤ c) (w : World) (T : Tabs w) (hr : Kd.C (Kd.int .u8) w A n l) (hb : Bys l) (hf : Fits n) (hOk : sumOk l = true) (hkk : knownB (nR (rs0 l)).1 = true) (hbd_ : (takenM l).2.bad = true) :
    Calls Tryd.prog 17 #[.slice A n c] w (TakeP w (m0 0, 11)) := by
  have hn1 : (5 : Int) ≤ n := by omega
  have c0 : decide ((n : Int) < 5) = false := decide_eq_false (by omega)
  have hn2 : 4 ≤ n := by omega
  have hn3 : (n : Int) < 140737488355328 := by have := hf; unfold Fits at this; omega
  have hcn : n ≤ c := hc
  have hm1 : (4 ≤ (n : Int)) = True := eq_true (by omega)
  have hm2 : (4 ≤ (c : Int)) = True := eq_true (by omega)
  have hcn4 : 4 ≤ c := by omega
  have e4 : (l.drop 4).length = n - 4 := by rw [List.length_drop, hl]
  have hDr : Kd.C (Kd.int .u8) w (if c = 4 then A else Option.map (fun x => (⟨x.block, x.off + 4, none⟩ : Addr)) A) (l.drop 4).length (l.drop 4) := by
    have := Kd.C_drop (m := 4) (c := c) (by rw [hl]; exact hr) (by omega) (by omega)
    exact this
  have hTk : Kd.C (Kd.int .u8) w A 4 (l.take 4) := by
    have := Kd.C_take (m := 4) (by rw [hl]; exact hr) (by omega)
    rwa [show (l.take 4).length = 4 from by simp; omega] at this
  have hbd : Bys (l.drop 4) := fun x hx => hb x (List.mem_of_mem_drop hx)
  have hfd : Fits (l.drop 4).length := by unfold Fits at *; omega
  have hSum : Aside0 (∀ W, Below w.heap.size w W → Calls Tryd.prog 27 #[.slice (if c = 4 then A else Option.map (fun x => (⟨x.block, x.off + 4, none⟩ : Addr)) A) (n - 4) (c - 4)] W fun e w' => ∃ g, W.heap.size ≤ g ∧ e = .returned (.slice (some ⟨g, 0, none⟩) 4 4) ∧ w'.heap[g]? = some (.cells (nums .u8 (sumB (l.drop 4))).toArray 5 (0, 0)) ∧ Below W.heap.size W w') := by
    refine ⟨fun W hW => ?_⟩
    have := sum_calls (if c = 4 then A else Option.map (fun x => (⟨x.block, x.off + 4, none⟩ : Addr)) A) (c - 4) (l.drop 4) W (T.below hW) (Kd.C_below hDr hW) hbd hfd
    rwa [e4] at this
  have hEq : Aside0 (∀ (g : Nat) (W : World), Below w.heap.size w W → W.heap[g]? = some (.cells (nums .u8 (sumB (l.drop 4))).toArray 5 (0, 0)) → Calls Tryd.prog 35 #[.slice (some ⟨g, 0, none⟩) 4 4, .slice A 4 c] W fun e w' => e = .returned (.bool true) ∧ Below W.heap.size W w') := by
    refine ⟨fun g W hW hg => ?_⟩
    have h1 := (Kd.R_reads' (Kd.R_of_own (enc := Value.int .u8) (h1 := fun _ => rfl) (ok := fun _ => True) (own_four hg (Nat.zero_le g)) (fun _ _ => trivial))).2.2
    have h2 := Kd.C_below hTk hW
    have h3 : (l.take 4).length = 4 := by simp; omega
    have := bytes_Equal.calls (some ⟨g, 0, none⟩) 4 (sumB (l.drop 4)) A c (l.take 4) true W h1 (Nat.le_refl _) (by rw [h3]; exact h2) (by omega) (by unfold bytes_Equal.f; rw [← hOk]; rfl)
    rw [h3] at this
    refine this.mono ?_
    rintro e w' ⟨rfl, hD⟩
    exact ⟨rfl, below_drawn hD⟩
  obtain ⟨kd, s1, hks⟩ : ∃ kd s1, nR (rs0 l) = (kd, s1) := ⟨_, _, rfl⟩
  have hU : U kd := by have := nR_U (s := rs0 l) hbd; rwa [hks] at this
  have hlim : (0 : Int) ≤ (rs0 l).lim ∧ (rs0 l).lim < 9223372036854775808 := by show (0 : Int) ≤ (l.length : Int) ∧ (l.length : Int) < _; unfold Fits at hf; omega
  have hFn1 : Fine s1 := by have := (Fine.mk hfd hbd hlim : Fine (rs0 l)).less (less_nR (rs0 l)); rwa [hks] at this
  rw [hks] at hkk
  obtain ⟨k, rfl⟩ := Int.eq_ofNat_of_zero_le hU.1
  have hkb := of_decide_eq_true hkk
  have hkn : Aside0 (knownB (k : Int) = true) := ⟨hkk⟩
  have hk0 := Aside0.mk hU.1
  have hk9 : k < 9 := by omega
  have hk8 : (k : Int) < 9 := by omega
  obtain ⟨m, ts, hts⟩ : ∃ m ts, takesF (fldI k) (m0 k, ⟨s1, false⟩) = (m, ts) := ⟨_, _, rfl⟩
  have htk : takenM l = (m, ts) := by unfold takenM; rw [hks]; exact hts
  rw [htk] at hbd_
  have hmk : Aside0 (m.k = k) := by
    have : ∀ (l : List Int) (p : Mg × TS), (takesF l p).1.k = p.1.k := by
      intro l
      induction l with
      | nil => intro p; rfl
      | cons c l ih => intro p; exact (ih _).trans (k_takeF c p)
    have h3 := this (fldI k) (m0 k, ⟨s1, false⟩)
    rw [hts] at h3
    exact ⟨h3⟩
  have hFts : Aside0 (Fine ts.r) := by
    have : ∀ (l : List Int) (p : Mg × TS), Less p.2.r (takesF l p).2.r := by
      intro l
      induction l with
      | nil => intro p; exact Less.refl _
      | cons c l ih => intro p; exact (less_takeF c p).trans (ih _)
    have h3 := this (fldI k) (m0 k, ⟨s1, false⟩)
    rw [hts] at h3
    exact ⟨hFn1.less h3⟩
  have hTake : Aside0 (∀ (W : World) (t g : Nat), Tk w W t g ⟨s1, false⟩ → Below w.heap.size w W → Calls Tryd.prog 38 #[.pointer (some ⟨t, 0, none⟩), .agg #[.int .u8 k, .int .u64 0, .int .i64 0, .int .u64 0, .int .u64 0, .int .u64 0, .slice none 0 0, .slice none 0 0, .slice none 0 0]] W fun e w' => ∃ vV vB vS, e = .returned (.agg #[.int .u8 k, .int .u64 m.n, .int .i64 m.r, .int .u64 m.first, .int .u64 m.last, .int .u64 m.commit, vV, vB, vS]) ∧ Kd.V k52 52 w' W.heap.size (fun k => W.heap.size ≤ k) vV m.V ∧ Kd.V (Kd.slice 5 (Kd.int .u8)) 27 w' W.heap.size (fun k => W.heap.size ≤ k) vB m.B ∧ Kd.V (Kd.int .u8) 5 w' W.heap.size (fun k => W.heap.size ≤ k) vS m.S ∧ Tk w w' t g ts ∧ Two W w' t g) := by
    refine ⟨fun W t g hT hB => ?_⟩
    have := take_calls w W t g ⟨s1, false⟩ hT hFn1 (T.below hB) k k rfl hk9
    rwa [hts] at this
  have hbad : Aside0 (ts.bad = true) := ⟨hbd_⟩
  have hDr2 : Kd.C (Kd.int .u8) w (Option.map (fun x => (⟨x.block, x.off + 4, none⟩ : Addr)) A) (l.drop 4).length (l.drop 4) := by
    have := hDr
    rwa [if_neg (by omega)] at this
  have hNum : Aside0 (∀ (g : Nat) (V : World), Rd w V g (rs0 l) → Calls Tryd.prog 37 #[.pointer (some ⟨g, 0, none⟩)] V fun e w' => e = .returned (.int .u64 k) ∧ Rd w w' g s1 ∧ V.grownBy w' (some g)) := ⟨fun g V hV => num_at w g hfd hbd hks V hV⟩
  have hStart : Aside0 (∀ (w3 : World), Below w.heap.size w w3 → Tk w ((w3.alloc (.cells #[.int .i64 0, .slice (Option.map (fun x => (⟨x.block, x.off + 4, none⟩ : Addr)) A) (n - 4) (c - 4), .int .i64 n] 99)).alloc (.cells #[.pointer (some ⟨w3.heap.size, 0, none⟩), .bool false] 73)) (w3.heap.size + 1) w3.heap.size ⟨rs0 l, false⟩) := ⟨fun w3 hB => start_Tk hB e4 hl hc hDr2⟩
  have hTab := Aside0.mk T
  have hX := Aside0.mk (heap_alloc_new w (.cells #[.int .u8 0, .int .u64 0, .int .i64 0, .int .u64 0, .int .u64 0, .int .u64 0, .slice none 0 0, .slice none 0 0, .slice none 0 0] 29))
  clear hr hf hb hOk T hl hn hc hDr hDr2 hTk hbd hfd e4 hks hU hkk hlim hFn1 hkb hk9 hts htk hbd_
  go_enter Tryd.func17, Tryd.ntmps17
  go_wp2
  have hX1 := Aside0.mk (blk_drew hX.out)
  have hW1 := Aside0.mk (below_drew1 (bel1 w (.cells #[.int .u8 0, .int .u64 0, .int .i64 0, .int .u64 0, .int .u64 0, .int .u64 0, .slice none 0 0, .slice none 0 0, .slice none 0 0] 29)))
  refine start_ (n := 8) (S := fun _ => True) (ds := []) #[false, false, false, false, false, false, false, false] (by kernel_rfl) rfl rfl trivial (fun hHeld => ?_)
  refine pure_ (i := 0) (N := some 13) (v := ?_) (a' := ?_) #[true, false, false, false, false, false, false, false] rfl rfl (by kernel_rfl) (fun _ _ _ h => h) (Or.inl ⟨by rfl, ?_⟩) ?_ ?_
  rotate_left
  · intro w'
    go_simp
    with_reducible rfl
  rotate_left
  · simp only [Act.put, List.setIfInBounds_toArray, List.set_cons_zero, List.set_cons_succ, i64_w, i32_w]
    rfl
  refine pure_ (i := 3) (N := some 16) (v := ?_) (a' := ?_) #[true, false, false, true, false, false, false, false] rfl rfl (by kernel_rfl) (fun _ _ _ h => h) (Or.inl ⟨by rfl, ?_⟩) ?_ ?_
  rotate_left
  · intro w'
    go_simp
    with_reducible rfl
  rotate_left
  · simp only [Act.put, List.setIfInBounds_toArray, List.set_cons_zero, List.set_cons_succ, i64_w, i32_w]
    rfl
  refine pure_ (i := 1) (N := some 14) (v := ?_) (a' := ?_) #[true, true, false, true, false, false, false, false] rfl rfl (by kernel_rfl) (fun _ _ _ h => h) (Or.inl ⟨by rfl, ?_⟩) ?_ ?_
  rotate_left
  · intro w'
    go_simp
    with_reducible rfl
  rotate_left
  · simp only [Act.put, List.setIfInBounds_toArray, List.set_cons_zero, List.set_cons_succ, i64_w, i32_w]
    rfl
  refine pure_ (i := 4) (N := some 17) (v := ?_) (a' := ?_) #[true, true, false, true, true, false, false, false] rfl rfl (by kernel_rfl) (fun _ _ _ h => h) (Or.inl ⟨by rfl, ?_⟩) ?_ ?_
  rotate_left
  · intro w'
    go_simp
    with_reducible rfl
  rotate_left
  · simp only [Act.put, List.setIfInBounds_toArray, List.set_cons_zero, List.set_cons_succ, i64_w, i32_w]
    rfl
  refine one_ (i := 2) (N := some 15) #[true, true, true, true, true, false, false, false] rfl rfl (by kernel_rfl) (by decide) (fun K hK => ?_)
  refine goes_ Tryd.func27 (by kernel_rfl) rfl #[.slice (if c = 4 then A else Option.map (fun x => (⟨x.block, x.off + 4, none⟩ : Addr)) A) (n - 4) (c - 4)] (by rfl) rfl rfl (by (try simp only [List.map_toArray, List.map_cons, List.map_nil]); first | done | rfl) ?_
  refine (hSum.out _ hW1.out).mono ?_
  rintro e w2 ⟨g2, hg2, rfl, hh2, hB2⟩
  refine ⟨_, rfl, ?_⟩
  have hB2' := Aside0.mk (hW1.out.trans (hB2.mono hW1.out.size))
  have hX2 := Aside0.mk (blk_below hX1.out hB2)
  have hg2' := Aside0.mk hh2
  clear hB2 hh2
  refine hK.out _ _ trivial (fun hHeld => ?_)
  clear hK K
  refine norm_ (a' := ?_) ?_ ?_
  rotate_left
  · show Act.put _ (some 15) _ = _
    simp only [Act.put, List.setIfInBounds_toArray, List.set_cons_zero, List.set_cons_succ, i64_w, i32_w]
    rfl
  refine one_ (i := 5) (N := some 18) #[true, true, true, true, true, true, false, false] rfl rfl (by kernel_rfl) (by decide) (fun K hK => ?_)
  refine goes_ Tryd.func35 (by kernel_rfl) rfl #[.slice (some ⟨g2, 0, none⟩) 4 4, .slice A 4 c] (by rfl) rfl rfl (by (try simp only [List.map_toArray, List.map_cons, List.map_nil]); first | done | rfl) ?_
  refine (hEq.out g2 w2 hB2'.out hg2'.out).mono ?_
  rintro e w3 ⟨rfl, hD3⟩
  refine ⟨_, rfl, ?_⟩
  have hB3 := Aside0.mk (hB2'.out.trans (hD3.mono hB2'.out.size))
  have hX3 := Aside0.mk (blk_below hX2.out hD3)
  clear hD3 hX2 hB2' hg2'
  refine hK.out _ _ trivial (fun hHeld => ?_)
  clear hK K
  refine norm_ (a' := ?_) ?_ ?_
  rotate_left
  · show Act.put _ (some 18) _ = _
    simp only [Act.put, List.setIfInBounds_toArray, List.set_cons_zero, List.set_cons_succ, i64_w, i32_w]
    rfl
  refine pure_ (i := 6) (N := some 19) (v := ?_) (a' := ?_) #[true, true, true, true, true, true, true, false] rfl rfl (by kernel_rfl) (fun _ _ _ h => h) (Or.inl ⟨by rfl, ?_⟩) ?_ ?_
  rotate_left
  · intro w'
    go_simp
    with_reducible rfl
  rotate_left
  · simp only [Act.put, List.setIfInBounds_toArray, List.set_cons_zero, List.set_cons_succ, i64_w, i32_w]
    rfl
  refine pure_ (i := 7) (N := some 12) (v := ?_) (a' := ?_) #[true, true, true, true, true, true, true, true] rfl rfl (by kernel_rfl) (fun _ _ _ h => h) (Or.inl ⟨by rfl, ?_⟩) ?_ ?_
  rotate_left
  · intro w'
    go_simp
    with_reducible rfl
  rotate_left
  · simp only [Act.put, List.setIfInBounds_toArray, List.set_cons_zero, List.set_cons_succ, i64_w, i32_w]
    rfl
  refine done_ (by kernel_rfl) ?_
  repeat (first
    | ((with_reducible refine gate_callee (f := 36) rfl ?_); (with_reducible refine gate_dst (N := 25) rfl ?_); refine goesL_ (some 25) rfl rfl Tryd.func36 (by kernel_rfl) rfl #[.slice (Option.map (fun x => (⟨x.block, x.off + 4, none⟩ : Addr)) A) (n - 4) (c - 4), .int .i64 n] rfl (by (try simp only [List.map_toArray, List.map_cons, List.map_nil]); first | done | rfl) ?_; refine (newr_calls _ _ _ _ _).mono ?_; rintro e w4 ⟨rfl, rfl⟩; refine ⟨_, rfl, ?_⟩; have hTk5 := hStart.out _ hB3.out; have ht0 := (blk_cell hTk5.box 0).trans rfl; (try dsimp only))
    | ((with_reducible refine gate_callee (f := 37) rfl ?_); (with_reducible refine gate_dst (N := 32) rfl ?_); refine goesL_ (some 32) rfl rfl Tryd.func37 (by kernel_rfl) rfl #[.pointer (some ⟨w3.heap.size, 0, none⟩)] rfl (by (try simp only [List.map_toArray, List.map_cons, List.map_nil]); first | done | rfl) ?_; refine (hNum.out _ _ hTk5.rd).mono ?_; rintro e w5 ⟨rfl, HR5, G5⟩; refine ⟨_, rfl, ?_⟩; have hT5 := Aside0.mk (hTk5.read HR5 G5); have hX5 := Aside0.mk (blk_grown (blk_alloc (blk_alloc hX3.out _) _) G5 (fun e => Nat.lt_irrefl _ (Nat.lt_of_lt_of_le (blk_lt hX3.out) (Nat.le_of_eq (Option.some.inj e).symm)))); have hB5 := Aside0.mk ((below_alloc (below_alloc hB3.out _) _).trans (grown_bel G5 hB3.out.size (Nat.le_trans hB3.out.size (by simp; omega)))); have G5' := Aside0.mk G5; clear HR5 G5 ht0 hTk5; (try dsimp only))
    | ((with_reducible refine gate_callee (f := 20) rfl ?_); (with_reducible refine gate_dst (N := 34) rfl ?_); refine goesL_ (some 34) rfl rfl Tryd.func20 (by kernel_rfl) rfl #[.int .u64 k] rfl (by (try simp only [List.map_toArray, List.map_cons, List.map_nil]); first | done | rfl) ?_; refine (known_calls _ hk0.out _ (hTab.out.below hB5.out)).mono ?_; rintro e w6 ⟨rfl, rfl⟩; refine ⟨_, rfl, ?_⟩; rw [hkn.out]; (try dsimp only))
    | ((with_reducible refine gate_callee (f := 38) rfl ?_); (with_reducible refine gate_dst (N := 41) rfl ?_); refine goesL_ (some 41) rfl rfl Tryd.func38 (by kernel_rfl) rfl #[.pointer (some ⟨w3.heap.size + 1, 0, none⟩), .agg #[.int .u8 k, .int .u64 0, .int .i64 0, .int .u64 0, .int .u64 0, .int .u64 0, .slice none 0 0, .slice none 0 0, .slice none 0 0]] rfl (by (try simp only [List.map_toArray, List.map_cons, List.map_nil]); first | done | rfl) ?_; refine (hTake.out w5 _ _ hT5.out hB5.out).mono ?_; rintro e w7 ⟨vV, vB, vS, rfl, HV, HB_, HS_, HT7, T7⟩; refine ⟨_, rfl, ?_⟩; obtain ⟨A6, c6, rfl⟩ := Kd.V_slice HV; obtain ⟨A7, c7, rfl⟩ := Kd.V_slice HB_; obtain ⟨A8, c8, rfl⟩ := Kd.V_slice HS_; have hBx := Aside0.mk (heap_alloc_new w7 (.cells #[.int .u8 k, .int .u64 m.n, .int .i64 m.r, .int .u64 m.first, .int .u64 m.last, .int .u64 m.commit, .slice A6 m.V.length c6, .slice A7 m.B.length c7, .slice A8 m.S.length c8] 29)); have hT8 := HT7.below (bel1 w7 (.cells #[.int .u8 k, .int .u64 m.n, .int .i64 m.r, .int .u64 m.first, .int .u64 m.last, .int .u64 m.commit, .slice A6 m.V.length c6, .slice A7 m.B.length c7, .slice A8 m.S.length c8] 29)); have hX7 := T7.keep hX5.out (Nat.ne_of_lt (Nat.lt_succ_of_lt (blk_lt hX3.out))) (Nat.ne_of_lt (blk_lt hX3.out)); have hX8 := Aside0.mk (blk_alloc hX7 (.cells #[.int .u8 k, .int .u64 m.n, .int .i64 m.r, .int .u64 m.first, .int .u64 m.last, .int .u64 m.commit, .slice A6 m.V.length c6, .slice A7 m.B.length c7, .slice A8 m.S.length c8] 29)); have hB7 := T7.bel hB5.out.size (Nat.le_succ_of_le hB3.out.size) hB3.out.size; have hB8 := Aside0.mk (below_alloc (hB5.out.trans hB7) (.cells #[.int .u8 k, .int .u64 m.n, .int .i64 m.r, .int .u64 m.first, .int .u64 m.last, .int .u64 m.commit, .slice A6 m.V.length c6, .slice A7 m.B.length c7, .slice A8 m.S.length c8] 29)); have hV8 := Aside0.mk (Kd.V_alloc HV (.cells #[.int .u8 k, .int .u64 m.n, .int .i64 m.r, .int .u64 m.first, .int .u64 m.last, .int .u64 m.commit, .slice A6 m.V.length c6, .slice A7 m.B.length c7, .slice A8 m.S.length c8] 29)); have hU8 := Aside0.mk (Kd.V_alloc HB_ (.cells #[.int .u8 k, .int .u64 m.n, .int .i64 m.r, .int .u64 m.first, .int .u64 m.last, .int .u64 m.commit, .slice A6 m.V.length c6, .slice A7 m.B.length c7, .slice A8 m.S.length c8] 29)); have hS8 := Aside0.mk (Kd.V_alloc HS_ (.cells #[.int .u8 k, .int .u64 m.n, .int .i64 m.r, .int .u64 m.first, .int .u64 m.last, .int .u64 m.commit, .slice A6 m.V.length c6, .slice A7 m.B.length c7, .slice A8 m.S.length c8] 29)); have hs7 := Aside0.mk (Nat.le_trans (Nat.le_of_lt (Nat.lt_succ_self _)) (Nat.le_trans (Nat.le_of_eq (by simp)) (Nat.le_trans G5'.out.size T7.size)) : w3.heap.size + 1 ≤ w7.heap.size); have ht1 := (blk_cell hT8.box 1).trans rfl; have ht2 := (blk_cell hT8.box 0).trans rfl; have hT8' := Aside0.mk hT8; rw [hbad.out] at ht1; clear HV HB_ HS_ HT7 T7 hX7 hB7 hT8; have hz0 := (blk_cell hX8.out 0).trans rfl; have hy0 := blk_frozen hX8.out 0; have hz1 := (blk_cell hX8.out 1).trans rfl; have hy1 := blk_frozen hX8.out 1; have hz2 := (blk_cell hX8.out 2).trans rfl; have hy2 := blk_frozen hX8.out 2; have hz3 := (blk_cell hX8.out 3).trans rfl; have hy3 := blk_frozen hX8.out 3; have hz4 := (blk_cell hX8.out 4).trans rfl; have hy4 := blk_frozen hX8.out 4; have hz5 := (blk_cell hX8.out 5).trans rfl; have hy5 := blk_frozen hX8.out 5; have hz6 := (blk_cell hX8.out 6).trans rfl; have hy6 := blk_frozen hX8.out 6; have hz7 := (blk_cell hX8.out 7).trans rfl; have hy7 := blk_frozen hX8.out 7; have hz8 := (blk_cell hX8.out 8).trans rfl; have hy8 := blk_frozen hX8.out 8; (try dsimp only))
    | go_step)
  have hS9 := set9 hX8.out (.int .u8 0) (.int .u64 0) (.int .i64 0) (.int .u64 0) (.int .u64 0) (.int .u64 0) (.slice none 0 0) (.slice none 0 0) (.slice none 0 0)
  refine bodyPost_ret (results_ct rfl _ _ w.heap.size 29 _ (0, 0) _ rfl hS9.1 Tryd.underlying29 rfl (by kernel_rfl)) rfl ?_
  exact takeP_zero (hB8.out.trans (grown_bel hS9.2 (Nat.le_refl _) hB8.out.size)) 11
set_option maxHeartbeats 1000000 in
set_option maxRecDepth 100000 in
theorem Take_done (A : Option Addr) (n c : Nat) (l : List Int) (hl : l.length = n) (hn : 5 ≤ n) (hc : n ≤ c) (w : World) (T : Tabs w) (hr : Kd.C (Kd.int .u8) w A n l) (hb : Bys l) (hf : Fits n) (hOk : sumOk l = true) (hkk : knownB (nR (rs0 l)).1 = true) (hbd_ : (takenM l).2.bad = false) (hdn_ : (doneR (takenM l).2.r).1 ≠ 0) :
    Calls Tryd.prog 17 #[.slice A n c] w (TakeP w (m0 0, 11)) := by
  have hn1 : (5 : Int) ≤ n := by omega
  have c0 : decide ((n : Int) < 5) = false := decide_eq_false (by omega)
  have hn2 : 4 ≤ n := by omega
  have hn3 : (n : Int) < 140737488355328 := by have := hf; unfold Fits at this; omega
  have hcn : n ≤ c := hc
  have hm1 : (4 ≤ (n : Int)) = True := eq_true (by omega)
  have hm2 : (4 ≤ (c : Int)) = True := eq_true (by omega)
  have hcn4 : 4 ≤ c := by omega
  have e4 : (l.drop 4).length = n - 4 := by rw [List.length_drop, hl]
  have hDr : Kd.C (Kd.int .u8) w (if c = 4 then A else Option.map (fun x => (⟨x.block, x.off + 4, none⟩ : Addr)) A) (l.drop 4).length (l.drop 4) := by
    have := Kd.C_drop (m := 4) (c := c) (by rw [hl]; exact hr) (by omega) (by omega)
    exact this
  have hTk : Kd.C (Kd.int .u8) w A 4 (l.take 4) := by
    have := Kd.C_take (m := 4) (by rw [hl]; exact hr) (by omega)
    rwa [show (l.take 4).length = 4 from by simp; omega] at this
  have hbd : Bys (l.drop 4) := fun x hx => hb x (List.mem_of_mem_drop hx)
  have hfd : Fits (l.drop 4).length := by unfold Fits at *; omega
  have hSum : Aside0 (∀ W, Below w.heap.size w W → Calls Tryd.prog 27 #[.slice (if c = 4 then A else Option.map (fun x => (⟨x.block, x.off + 4, none⟩ : Addr)) A) (n - 4) (c - 4)] W fun e w' => ∃ g, W.heap.size ≤ g ∧ e = .returned (.slice (some ⟨g, 0, none⟩) 4 4) ∧ w'.heap[g]? = some (.cells (nums .u8 (sumB (l.drop 4))).toArray 5 (0, 0)) ∧ Below W.heap.size W w') := by
    refine ⟨fun W hW => ?_⟩
    have := sum_calls (if c = 4 then A else Option.map (fun x => (⟨x.block, x.off + 4, none⟩ : Addr)) A) (c - 4) (l.drop 4) W (T.below hW) (Kd.C_below hDr hW) hbd hfd
    rwa [e4] at this
  have hEq : Aside0 (∀ (g : Nat) (W : World), Below w.heap.size w W → W.heap[g]? = some (.cells (nums .u8 (sumB (l.drop 4))).toArray 5 (0, 0)) → Calls Tryd.prog 35 #[.slice (some ⟨g, 0, none⟩) 4 4, .slice A 4 c] W fun e w' => e = .returned (.bool true) ∧ Below W.heap.size W w') := by
    refine ⟨fun g W hW hg => ?_⟩
    have h1 := (Kd.R_reads' (Kd.R_of_own (enc := Value.int .u8) (h1 := fun _ => rfl) (ok := fun _ => True) (own_four hg (Nat.zero_le g)) (fun _ _ => trivial))).2.2
    have h2 := Kd.C_below hTk hW
    have h3 : (l.take 4).length = 4 := by simp; omega
    have := bytes_Equal.calls (some ⟨g, 0, none⟩) 4 (sumB (l.drop 4)) A c (l.take 4) true W h1 (Nat.le_refl _) (by rw [h3]; exact h2) (by omega) (by unfold bytes_Equal.f; rw [← hOk]; rfl)
    rw [h3] at this
    refine this.mono ?_
    rintro e w' ⟨rfl, hD⟩
    exact ⟨rfl, below_drawn hD⟩
  obtain ⟨kd, s1, hks⟩ : ∃ kd s1, nR (rs0 l) = (kd, s1) := ⟨_, _, rfl⟩
  have hU : U kd := by have := nR_U (s := rs0 l) hbd; rwa [hks] at this
  have hlim : (0 : Int) ≤ (rs0 l).lim ∧ (rs0 l).lim < 9223372036854775808 := by show (0 : Int) ≤ (l.length : Int) ∧ (l.length : Int) < _; unfold Fits at hf; omega
  have hFn1 : Fine s1 := by have := (Fine.mk hfd hbd hlim : Fine (rs0 l)).less (less_nR (rs0 l)); rwa [hks] at this
  rw [hks] at hkk
  obtain ⟨k, rfl⟩ := Int.eq_ofNat_of_zero_le hU.1
  have hkb := of_decide_eq_true hkk
  have hkn : Aside0 (knownB (k : Int) = true) := ⟨hkk⟩
  have hk0 := Aside0.mk hU.1
  have hk9 : k < 9 := by omega
  have hk8 : (k : Int) < 9 := by omega
  obtain ⟨m, ts, hts⟩ : ∃ m ts, takesF (fldI k) (m0 k, ⟨s1, false⟩) = (m, ts) := ⟨_, _, rfl⟩
  have htk : takenM l = (m, ts) := by unfold takenM; rw [hks]; exact hts
  rw [htk] at hbd_ hdn_
  have hmk : Aside0 (m.k = k) := by
    have : ∀ (l : List Int) (p : Mg × TS), (takesF l p).1.k = p.1.k := by
      intro l
      induction l with
      | nil => intro p; rfl
      | cons c l ih => intro p; exact (ih _).trans (k_takeF c p)
    have h3 := this (fldI k) (m0 k, ⟨s1, false⟩)
    rw [hts] at h3
    exact ⟨h3⟩
  have hFts : Aside0 (Fine ts.r) := by
    have : ∀ (l : List Int) (p : Mg × TS), Less p.2.r (takesF l p).2.r := by
      intro l
      induction l with
      | nil => intro p; exact Less.refl _
      | cons c l ih => intro p; exact (less_takeF c p).trans (ih _)
    have h3 := this (fldI k) (m0 k, ⟨s1, false⟩)
    rw [hts] at h3
    exact ⟨hFn1.less h3⟩
  have hTake : Aside0 (∀ (W : World) (t g : Nat), Tk w W t g ⟨s1, false⟩ → Below w.heap.size w W → Calls Tryd.prog 38 #[.pointer (some ⟨t, 0, none⟩), .agg #[.int .u8 k, .int .u64 0, .int .i64 0, .int .u64 0, .int .u64 0, .int .u64 0, .slice none 0 0, .slice none 0 0, .slice none 0 0]] W fun e w' => ∃ vV vB vS, e = .returned (.agg #[.int .u8 k, .int .u64 m.n, .int .i64 m.r, .int .u64 m.first, .int .u64 m.last, .int .u64 m.commit, vV, vB, vS]) ∧ Kd.V k52 52 w' W.heap.size (fun k => W.heap.size ≤ k) vV m.V ∧ Kd.V (Kd.slice 5 (Kd.int .u8)) 27 w' W.heap.size (fun k => W.heap.size ≤ k) vB m.B ∧ Kd.V (Kd.int .u8) 5 w' W.heap.size (fun k => W.heap.size ≤ k) vS m.S ∧ Tk w w' t g ts ∧ Two W w' t g) := by
    refine ⟨fun W t g hT hB => ?_⟩
    have := take_calls w W t g ⟨s1, false⟩ hT hFn1 (T.below hB) k k rfl hk9
    rwa [hts] at this
  have hbad : Aside0 (ts.bad = false) := ⟨hbd_⟩
  obtain ⟨dn, hdn0⟩ : ∃ dn, (doneR ts.r).1 = dn := ⟨_, rfl⟩
  have hdn := Aside0.mk hdn0
  have hdq : dn ≠ 0 := by rw [← hdn0]; exact hdn_
  have hdn1 : (dn != 0) = true := by simp [hdq]
  have hdn2 : (dn = 0) = False := eq_false hdq
  clear hdn0 hdq
  have hDr2 : Kd.C (Kd.int .u8) w (Option.map (fun x => (⟨x.block, x.off + 4, none⟩ : Addr)) A) (l.drop 4).length (l.drop 4) := by
    have := hDr
    rwa [if_neg (by omega)] at this
  have hNum : Aside0 (∀ (g : Nat) (V : World), Rd w V g (rs0 l) → Calls Tryd.prog 37 #[.pointer (some ⟨g, 0, none⟩)] V fun e w' => e = .returned (.int .u64 k) ∧ Rd w w' g s1 ∧ V.grownBy w' (some g)) := ⟨fun g V hV => num_at w g hfd hbd hks V hV⟩
  have hStart : Aside0 (∀ (w3 : World), Below w.heap.size w w3 → Tk w ((w3.alloc (.cells #[.int .i64 0, .slice (Option.map (fun x => (⟨x.block, x.off + 4, none⟩ : Addr)) A) (n - 4) (c - 4), .int .i64 n] 99)).alloc (.cells #[.pointer (some ⟨w3.heap.size, 0, none⟩), .bool false] 73)) (w3.heap.size + 1) w3.heap.size ⟨rs0 l, false⟩) := ⟨fun w3 hB => start_Tk hB e4 hl hc hDr2⟩
  have hTab := Aside0.mk T
  have hX := Aside0.mk (heap_alloc_new w (.cells #[.int .u8 0, .int .u64 0, .int .i64 0, .int .u64 0, .int .u64 0, .int .u64 0, .slice none 0 0, .slice none 0 0, .slice none 0 0] 29))
  clear hr hf hb hOk T hl hn hc hDr hDr2 hTk hbd hfd e4 hks hU hkk hlim hFn1 hkb hk9 hts htk hbd_ hdn_
  go_enter Tryd.func17, Tryd.ntmps17
  go_wp2
  have hX1 := Aside0.mk (blk_drew hX.out)
  have hW1 := Aside0.mk (below_drew1 (bel1 w (.cells #[.int .u8 0, .int .u64 0, .int .i64 0, .int .u64 0, .int .u64 0, .int .u64 0, .slice none 0 0, .slice none 0 0, .slice none 0 0] 29)))
  refine start_ (n := 8) (S := fun _ => True) (ds := []) #[false, false, false, false, false, false, false, false] (by kernel_rfl) rfl rfl trivial (fun hHeld => ?_)
  refine pure_ (i := 0) (N := some 13) (v := ?_) (a' := ?_) #[true, false, false, false, false, false, false, false] rfl rfl (by kernel_rfl) (fun _ _ _ h => h) (Or.inl ⟨by rfl, ?_⟩) ?_ ?_
  rotate_left
  · intro w'
    go_simp
    with_reducible rfl
  rotate_left
  · simp only [Act.put, List.setIfInBounds_toArray, List.set_cons_zero, List.set_cons_succ, i64_w, i32_w]
    rfl
  refine pure_ (i := 3) (N := some 16) (v := ?_) (a' := ?_) #[true, false, false, true, false, false, false, false] rfl rfl (by kernel_rfl) (fun _ _ _ h => h) (Or.inl ⟨by rfl, ?_⟩) ?_ ?_
  rotate_left
  · intro w'
    go_simp
    with_reducible rfl
  rotate_left
  · simp only [Act.put, List.setIfInBounds_toArray, List.set_cons_zero, List.set_cons_succ, i64_w, i32_w]
    rfl
  refine pure_ (i := 1) (N := some 14) (v := ?_) (a' := ?_) #[true, true, false, true, false, false, false, false] rfl rfl (by kernel_rfl) (fun _ _ _ h => h) (Or.inl ⟨by rfl, ?_⟩) ?_ ?_
  rotate_left
  · intro w'
    go_simp
    with_reducible rfl
  rotate_left
  · simp only [Act.put, List.setIfInBounds_toArray, List.set_cons_zero, List.set_cons_succ, i64_w, i32_w]
    rfl
  refine pure_ (i := 4) (N := some 17) (v := ?_) (a' := ?_) #[true, true, false, true, true, false, false, false] rfl rfl (by kernel_rfl) (fun _ _ _ h => h) (Or.inl ⟨by rfl, ?_⟩) ?_ ?_
  rotate_left
  · intro w'
    go_simp
    with_reducible rfl
  rotate_left
  · simp only [Act.put, List.setIfInBounds_toArray, List.set_cons_zero, List.set_cons_succ, i64_w, i32_w]
    rfl
  refine one_ (i := 2) (N := some 15) #[true, true, true, true, true, false, false, false] rfl rfl (by kernel_rfl) (by decide) (fun K hK => ?_)
  refine goes_ Tryd.func27 (by kernel_rfl) rfl #[.slice (if c = 4 then A else Option.map (fun x => (⟨x.block, x.off + 4, none⟩ : Addr)) A) (n - 4) (c - 4)] (by rfl) rfl rfl (by (try simp only [List.map_toArray, List.map_cons, List.map_nil]); first | done | rfl) ?_
  refine (hSum.out _ hW1.out).mono ?_
  rintro e w2 ⟨g2, hg2, rfl, hh2, hB2⟩
  refine ⟨_, rfl, ?_⟩
  have hB2' := Aside0.mk (hW1.out.trans (hB2.mono hW1.out.size))
  have hX2 := Aside0.mk (blk_below hX1.out hB2)
  have hg2' := Aside0.mk hh2
  clear hB2 hh2
  refine hK.out _ _ trivial (fun hHeld => ?_)
  clear hK K
  refine norm_ (a' := ?_) ?_ ?_
  rotate_left
  · show Act.put _ (some 15) _ = _
    simp only [Act.put, List.setIfInBounds_toArray, List.set_cons_zero, List.set_cons_succ, i64_w, i32_w]
    rfl
  refine one_ (i := 5) (N := some 18) #[true, true, true, true, true, true, false, false] rfl rfl (by kernel_rfl) (by decide) (fun K hK => ?_)
  refine goes_ Tryd.func35 (by kernel_rfl) rfl #[.slice (some ⟨g2, 0, none⟩) 4 4, .slice A 4 c] (by rfl) rfl rfl (by (try simp only [List.map_toArray, List.map_cons, List.map_nil]); first | done | rfl) ?_
  refine (hEq.out g2 w2 hB2'.out hg2'.out).mono ?_
  rintro e w3 ⟨rfl, hD3⟩
  refine ⟨_, rfl, ?_⟩
  have hB3 := Aside0.mk (hB2'.out.trans (hD3.mono hB2'.out.size))
  have hX3 := Aside0.mk (blk_below hX2.out hD3)
  clear hD3 hX2 hB2' hg2'
  refine hK.out _ _ trivial (fun hHeld => ?_)
  clear hK K
  refine norm_ (a' := ?_) ?_ ?_
  rotate_left
  · show Act.put _ (some 18) _ = _
    simp only [Act.put, List.setIfInBounds_toArray, List.set_cons_zero, List.set_cons_succ, i64_w, i32_w]
    rfl
  refine pure_ (i := 6) (N := some 19) (v := ?_) (a' := ?_) #[true, true, true, true, true, true, true, false] rfl rfl (by kernel_rfl) (fun _ _ _ h => h) (Or.inl ⟨by rfl, ?_⟩) ?_ ?_
  rotate_left
  · intro w'
    go_simp
    with_reducible rfl
  rotate_left
  · simp only [Act.put, List.setIfInBounds_toArray, List.set_cons_zero, List.set_cons_succ, i64_w, i32_w]
    rfl
  refine pure_ (i := 7) (N := some 12) (v := ?_) (a' := ?_) #[true, true, true, true, true, true, true, true] rfl rfl (by kernel_rfl) (fun _ _ _ h => h) (Or.inl ⟨by rfl, ?_⟩) ?_ ?_
  rotate_left
  · intro w'
    go_simp
    with_reducible rfl
  rotate_left
  · simp only [Act.put, List.setIfInBounds_toArray, List.set_cons_zero, List.set_cons_succ, i64_w, i32_w]
    rfl
  refine done_ (by kernel_rfl) ?_
  repeat (first
    | ((with_reducible refine gate_callee (f := 36) rfl ?_); (with_reducible refine gate_dst (N := 25) rfl ?_); refine goesL_ (some 25) rfl rfl Tryd.func36 (by kernel_rfl) rfl #[.slice (Option.map (fun x => (⟨x.block, x.off + 4, none⟩ : Addr)) A) (n - 4) (c - 4), .int .i64 n] rfl (by (try simp only [List.map_toArray, List.map_cons, List.map_nil]); first | done | rfl) ?_; refine (newr_calls _ _ _ _ _).mono ?_; rintro e w4 ⟨rfl, rfl⟩; refine ⟨_, rfl, ?_⟩; have hTk5 := hStart.out _ hB3.out; have ht0 := (blk_cell hTk5.box 0).trans rfl; (try dsimp only))
    | ((with_reducible refine gate_callee (f := 37) rfl ?_); (with_reducible refine gate_dst (N := 32) rfl ?_); refine goesL_ (some 32) rfl rfl Tryd.func37 (by kernel_rfl) rfl #[.pointer (some ⟨w3.heap.size, 0, none⟩)] rfl (by (try simp only [List.map_toArray, List.map_cons, List.map_nil]); first | done | rfl) ?_; refine (hNum.out _ _ hTk5.rd).mono ?_; rintro e w5 ⟨rfl, HR5, G5⟩; refine ⟨_, rfl, ?_⟩; have hT5 := Aside0.mk (hTk5.read HR5 G5); have hX5 := Aside0.mk (blk_grown (blk_alloc (blk_alloc hX3.out _) _) G5 (fun e => Nat.lt_irrefl _ (Nat.lt_of_lt_of_le (blk_lt hX3.out) (Nat.le_of_eq (Option.some.inj e).symm)))); have hB5 := Aside0.mk ((below_alloc (below_alloc hB3.out _) _).trans (grown_bel G5 hB3.out.size (Nat.le_trans hB3.out.size (by simp; omega)))); have G5' := Aside0.mk G5; clear HR5 G5 ht0 hTk5; (try dsimp only))
    | ((with_reducible refine gate_callee (f := 20) rfl ?_); (with_reducible refine gate_dst (N := 34) rfl ?_); refine goesL_ (some 34) rfl rfl Tryd.func20 (by kernel_rfl) rfl #[.int .u64 k] rfl (by (try simp only [List.map_toArray, List.map_cons, List.map_nil]); first | done | rfl) ?_; refine (known_calls _ hk0.out _ (hTab.out.below hB5.out)).mono ?_; rintro e w6 ⟨rfl, rfl⟩; refine ⟨_, rfl, ?_⟩; rw [hkn.out]; (try dsimp only))
    | ((with_reducible refine gate_callee (f := 38) rfl ?_); (with_reducible refine gate_dst (N := 41) rfl ?_); refine goesL_ (some 41) rfl rfl Tryd.func38 (by kernel_rfl) rfl #[.pointer (some ⟨w3.heap.size + 1, 0, none⟩), .agg #[.int .u8 k, .int .u64 0, .int .i64 0, .int .u64 0, .int .u64 0, .int .u64 0, .slice none 0 0, .slice none 0 0, .slice none 0 0]] rfl (by (try simp only [List.map_toArray, List.map_cons, List.map_nil]); first | done | rfl) ?_; refine (hTake.out w5 _ _ hT5.out hB5.out).mono ?_; rintro e w7 ⟨vV, vB, vS, rfl, HV, HB_, HS_, HT7, T7⟩; refine ⟨_, rfl, ?_⟩; obtain ⟨A6, c6, rfl⟩ := Kd.V_slice HV; obtain ⟨A7, c7, rfl⟩ := Kd.V_slice HB_; obtain ⟨A8, c8, rfl⟩ := Kd.V_slice HS_; have hBx := Aside0.mk (heap_alloc_new w7 (.cells #[.int .u8 k, .int .u64 m.n, .int .i64 m.r, .int .u64 m.first, .int .u64 m.last, .int .u64 m.commit, .slice A6 m.V.length c6, .slice A7 m.B.length c7, .slice A8 m.S.length c8] 29)); have hT8 := HT7.below (bel1 w7 (.cells #[.int .u8 k, .int .u64 m.n, .int .i64 m.r, .int .u64 m.first, .int .u64 m.last, .int .u64 m.commit, .slice A6 m.V.length c6, .slice A7 m.B.length c7, .slice A8 m.S.length c8] 29)); have hX7 := T7.keep hX5.out (Nat.ne_of_lt (Nat.lt_succ_of_lt (blk_lt hX3.out))) (Nat.ne_of_lt (blk_lt hX3.out)); have hX8 := Aside0.mk (blk_alloc hX7 (.cells #[.int .u8 k, .int .u64 m.n, .int .i64 m.r, .int .u64 m.first, .int .u64 m.last, .int .u64 m.commit, .slice A6 m.V.length c6, .slice A7 m.B.length c7, .slice A8 m.S.length c8] 29)); have hB7 := T7.bel hB5.out.size (Nat.le_succ_of_le hB3.out.size) hB3.out.size; have hB8 := Aside0.mk (below_alloc (hB5.out.trans hB7) (.cells #[.int .u8 k, .int .u64 m.n, .int .i64 m.r, .int .u64 m.first, .int .u64 m.last, .int .u64 m.commit, .slice A6 m.V.length c6, .slice A7 m.B.length c7, .slice A8 m.S.length c8] 29)); have hV8 := Aside0.mk (Kd.V_alloc HV (.cells #[.int .u8 k, .int .u64 m.n, .int .i64 m.r, .int .u64 m.first, .int .u64 m.last, .int .u64 m.commit, .slice A6 m.V.length c6, .slice A7 m.B.length c7, .slice A8 m.S.length c8] 29)); have hU8 := Aside0.mk (Kd.V_alloc HB_ (.cells #[.int .u8 k, .int .u64 m.n, .int .i64 m.r, .int .u64 m.first, .int .u64 m.last, .int .u64 m.commit, .slice A6 m.V.length c6, .slice A7 m.B.length c7, .slice A8 m.S.length c8] 29)); have hS8 := Aside0.mk (Kd.V_alloc HS_ (.cells #[.int .u8 k, .int .u64 m.n, .int .i64 m.r, .int .u64 m.first, .int .u64 m.last, .int .u64 m.commit, .slice A6 m.V.length c6, .slice A7 m.B.length c7, .slice A8 m.S.length c8] 29)); have hs7 := Aside0.mk (Nat.le_trans (Nat.le_of_lt (Nat.lt_succ_self _)) (Nat.le_trans (Nat.le_of_eq (by simp)) (Nat.le_trans G5'.out.size T7.size)) : w3.heap.size + 1 ≤ w7.heap.size); have ht1 := (blk_cell hT8.box 1).trans rfl; have ht2 := (blk_cell hT8.box 0).trans rfl; have hT8' := Aside0.mk hT8; rw [hbad.out] at ht1; clear HV HB_ HS_ HT7 T7 hX7 hB7 hT8; (try dsimp only))
    | ((with_reducible refine Calls.mono (done_calls w _ _ ts.r hT8'.out.rd hFts.out.fits) ?_); rintro e w9 ⟨rfl, HR9, G9⟩; rw [hdn.out]; have hBx9 := Aside0.mk (blk_grown hBx.out G9 (fun e => by have := Option.some.inj e; have := hs7.out; omega)); have hX9 := Aside0.mk (blk_grown hX8.out G9 (fun e => by have := Option.some.inj e; have := blk_lt hX3.out; omega)); have hB9 := Aside0.mk (hB8.out.trans (grown_bel G9 hB3.out.size hB8.out.size)); have hok9 : ∀ k, w5.heap.size ≤ k → some k ≠ some w3.heap.size := (fun k hk e => by have := Option.some.inj e; have := G5'.out.size; simp at this; omega); have hV9 := Aside0.mk (Kd.V_grown hV8.out G9 hok9); have hU9 := Aside0.mk (Kd.V_grown hU8.out G9 hok9); have hS9_ := Aside0.mk (Kd.V_grown hS8.out G9 hok9); clear HR9 G9 hok9; have hz0 := (blk_cell hX9.out 0).trans rfl; have hy0 := blk_frozen hX9.out 0; have hz1 := (blk_cell hX9.out 1).trans rfl; have hy1 := blk_frozen hX9.out 1; have hz2 := (blk_cell hX9.out 2).trans rfl; have hy2 := blk_frozen hX9.out 2; have hz3 := (blk_cell hX9.out 3).trans rfl; have hy3 := blk_frozen hX9.out 3; have hz4 := (blk_cell hX9.out 4).trans rfl; have hy4 := blk_frozen hX9.out 4; have hz5 := (blk_cell hX9.out 5).trans rfl; have hy5 := blk_frozen hX9.out 5; have hz6 := (blk_cell hX9.out 6).trans rfl; have hy6 := blk_frozen hX9.out 6; have hz7 := (blk_cell hX9.out 7).trans rfl; have hy7 := blk_frozen hX9.out 7; have hz8 := (blk_cell hX9.out 8).trans rfl; have hy8 := blk_frozen hX9.out 8; (try dsimp only))
    | go_step)
  have hS9 := set9 hX9.out (.int .u8 0) (.int .u64 0) (.int .i64 0) (.int .u64 0) (.int .u64 0) (.int .u64 0) (.slice none 0 0) (.slice none 0 0) (.slice none 0 0)
  refine bodyPost_ret (results_ct rfl _ _ w.heap.size 29 _ (0, 0) _ rfl hS9.1 Tryd.underlying29 rfl (by kernel_rfl)) rfl ?_
  exact takeP_zero (hB9.out.trans (grown_bel hS9.2 (Nat.le_refl _) hB9.out.size)) 11
set_option maxHeartbeats 1000000 in
set_option maxRecDepth 100000 in
theorem Take_check (A : Option Addr) (n c : Nat) (l : List Int) (hl : l.length = n) (hn : 5 ≤ n) (hc : n ≤ c) (w : World) (T : Tabs w) (hr : Kd.C (Kd.int .u8) w A n l) (hb : Bys l) (hf : Fits n) (hOk : sumOk l = true) (hkk : knownB (nR (rs0 l)).1 = true) (hbd_ : (takenM l).2.bad = false) (hdn_ : (doneR (takenM l).2.r).1 = 0) (hce_ : checkM (takenM l).1 (nR (rs0 l)).1.toNat = false) :
    Calls Tryd.prog 17 #[.slice A n c] w (TakeP w (m0 0, 11)) := by
  have hn1 : (5 : Int) ≤ n := by omega
  have c0 : decide ((n : Int) < 5) = false := decide_eq_false (by omega)
  have hn2 : 4 ≤ n := by omega
  have hn3 : (n : Int) < 140737488355328 := by have := hf; unfold Fits at this; omega
  have hcn : n ≤ c := hc
  have hm1 : (4 ≤ (n : Int)) = True := eq_true (by omega)
  have hm2 : (4 ≤ (c : Int)) = True := eq_true (by omega)
  have hcn4 : 4 ≤ c := by omega
  have e4 : (l.drop 4).length = n - 4 := by rw [List.length_drop, hl]
  have hDr : Kd.C (Kd.int .u8) w (if c = 4 then A else Option.map (fun x => (⟨x.block, x.off + 4, none⟩ : Addr)) A) (l.drop 4).length (l.drop 4) := by
    have := Kd.C_drop (m := 4) (c := c) (by rw [hl]; exact hr) (by omega) (by omega)
    exact this
  have hTk : Kd.C (Kd.int .u8) w A 4 (l.take 4) := by
    have := Kd.C_take (m := 4) (by rw [hl]; exact hr) (by omega)
    rwa [show (l.take 4).length = 4 from by simp; omega] at this
  have hbd : Bys (l.drop 4) := fun x hx => hb x (List.mem_of_mem_drop hx)
  have hfd : Fits (l.drop 4).length := by unfold Fits at *; omega
  have hSum : Aside0 (∀ W, Below w.heap.size w W → Calls Tryd.prog 27 #[.slice (if c = 4 then A else Option.map (fun x => (⟨x.block, x.off + 4, none⟩ : Addr)) A) (n - 4) (c - 4)] W fun e w' => ∃ g, W.heap.size ≤ g ∧ e = .returned (.slice (some ⟨g, 0, none⟩) 4 4) ∧ w'.heap[g]? = some (.cells (nums .u8 (sumB (l.drop 4))).toArray 5 (0, 0)) ∧ Below W.heap.size W w') := by
    refine ⟨fun W hW => ?_⟩
    have := sum_calls (if c = 4 then A else Option.map (fun x => (⟨x.block, x.off + 4, none⟩ : Addr)) A) (c - 4) (l.drop 4) W (T.below hW) (Kd.C_below hDr hW) hbd hfd
    rwa [e4] at this
  have hEq : Aside0 (∀ (g : Nat) (W : World), Below w.heap.size w W → W.heap[g]? = some (.cells (nums .u8 (sumB (l.drop 4))).toArray 5 (0, 0)) → Calls Tryd.prog 35 #[.slice (some ⟨g, 0, none⟩) 4 4, .slice A 4 c] W fun e w' => e = .returned (.bool true) ∧ Below W.heap.size W w') := by
    refine ⟨fun g W hW hg => ?_⟩
    have h1 := (Kd.R_reads' (Kd.R_of_own (enc := Value.int .u8) (h1 := fun _ => rfl) (ok := fun _ => True) (own_four hg (Nat.zero_le g)) (fun _ _ => trivial))).2.2
    have h2 := Kd.C_below hTk hW
    have h3 : (l.take 4).length = 4 := by simp; omega
    have := bytes_Equal.calls (some ⟨g, 0, none⟩) 4 (sumB (l.drop 4)) A c (l.take 4) true W h1 (Nat.le_refl _) (by rw [h3]; exact h2) (by omega) (by unfold bytes_Equal.f; rw [← hOk]; rfl)
    rw [h3] at this
    refine this.mono ?_
    rintro e w' ⟨rfl, hD⟩
    exact ⟨rfl, below_drawn hD⟩
  obtain ⟨kd, s1, hks⟩ : ∃ kd s1, nR (rs0 l) = (kd, s1) := ⟨_, _, rfl⟩
  have hU : U kd := by have := nR_U (s := rs0 l) hbd; rwa [hks] at this
  have hlim : (0 : Int) ≤ (rs0 l).lim ∧ (rs0 l).lim < 9223372036854775808 := by show (0 : Int) ≤ (l.length : Int) ∧ (l.length : Int) < _; unfold Fits at hf; omega
  have hFn1 : Fine s1 := by have := (Fine.mk hfd hbd hlim : Fine (rs0 l)).less (less_nR (rs0 l)); rwa [hks] at this
  rw [hks] at hkk
  obtain ⟨k, rfl⟩ := Int.eq_ofNat_of_zero_le hU.1
  have hkb := of_decide_eq_true hkk
  have hkn : Aside0 (knownB (k : Int) = true) := ⟨hkk⟩
  have hk0 := Aside0.mk hU.1
  have hk9 : k < 9 := by omega
  have hk8 : (k : Int) < 9 := by omega
  obtain ⟨m, ts, hts⟩ : ∃ m ts, takesF (fldI k) (m0 k, ⟨s1, false⟩) = (m, ts) := ⟨_, _, rfl⟩
  have htk : takenM l = (m, ts) := by unfold takenM; rw [hks]; exact hts
  rw [htk] at hbd_ hdn_ hce_
  have hmk : Aside0 (m.k = k) := by
    have : ∀ (l : List Int) (p : Mg × TS), (takesF l p).1.k = p.1.k := by
      intro l
      induction l with
      | nil => intro p; rfl
      | cons c l ih => intro p; exact (ih _).trans (k_takeF c p)
    have h3 := this (fldI k) (m0 k, ⟨s1, false⟩)
    rw [hts] at h3
    exact ⟨h3⟩
  have hFts : Aside0 (Fine ts.r) := by
    have : ∀ (l : List Int) (p : Mg × TS), Less p.2.r (takesF l p).2.r := by
      intro l
      induction l with
      | nil => intro p; exact Less.refl _
      | cons c l ih => intro p; exact (less_takeF c p).trans (ih _)
    have h3 := this (fldI k) (m0 k, ⟨s1, false⟩)
    rw [hts] at h3
    exact ⟨hFn1.less h3⟩
  have hTake : Aside0 (∀ (W : World) (t g : Nat), Tk w W t g ⟨s1, false⟩ → Below w.heap.size w W → Calls Tryd.prog 38 #[.pointer (some ⟨t, 0, none⟩), .agg #[.int .u8 k, .int .u64 0, .int .i64 0, .int .u64 0, .int .u64 0, .int .u64 0, .slice none 0 0, .slice none 0 0, .slice none 0 0]] W fun e w' => ∃ vV vB vS, e = .returned (.agg #[.int .u8 k, .int .u64 m.n, .int .i64 m.r, .int .u64 m.first, .int .u64 m.last, .int .u64 m.commit, vV, vB, vS]) ∧ Kd.V k52 52 w' W.heap.size (fun k => W.heap.size ≤ k) vV m.V ∧ Kd.V (Kd.slice 5 (Kd.int .u8)) 27 w' W.heap.size (fun k => W.heap.size ≤ k) vB m.B ∧ Kd.V (Kd.int .u8) 5 w' W.heap.size (fun k => W.heap.size ≤ k) vS m.S ∧ Tk w w' t g ts ∧ Two W w' t g) := by
    refine ⟨fun W t g hT hB => ?_⟩
    have := take_calls w W t g ⟨s1, false⟩ hT hFn1 (T.below hB) k k rfl hk9
    rwa [hts] at this
  have hbad : Aside0 (ts.bad = false) := ⟨hbd_⟩
  have hdn : Aside0 ((doneR ts.r).1 = 0) := ⟨hdn_⟩
  have hce : Aside0 (errI (checkM m k) = 1) := ⟨by rw [show checkM m k = false from by rw [hks] at hce_; exact hce_]; rfl⟩
  have hk256 := Aside0.mk (show k < 256 by omega)
  have hfV : Aside0 (Fits m.V.length) := ⟨by
    have h3 := takes_V (fldI k) (m0 k, ⟨s1, false⟩) (by show ([] : List S52).length ≤ 256; simp)
    rw [hts] at h3
    unfold Fits
    have h4 : m.V.length ≤ 256 := h3
    omega⟩
  have hChk : Aside0 (∀ (W : World) (A6 A7 A8 : Option Addr) (c6 c7 c8 : Nat), Below w.heap.size w W → m.At W A6 A7 A8 → m.V.length ≤ c6 → m.B.length ≤ c7 → m.S.length ≤ c8 → Calls Tryd.prog 10 #[.agg #[.int .u8 k, .int .u64 m.n, .int .i64 m.r, .int .u64 m.first, .int .u64 m.last, .int .u64 m.commit, .slice A6 m.V.length c6, .slice A7 m.B.length c7, .slice A8 m.S.length c8]] W fun e w' => e = .returned (.int .i64 (errI (checkM m k))) ∧ Below W.heap.size W w') := by
    refine ⟨fun W A6 A7 A8 c6 c7 c8 hB hAt h6 h7 h8 => ?_⟩
    have := check_m m k hmk.out hk256.out hfV.out A6 A7 A8 c6 c7 c8 W (T.below hB) hAt h6 h7 h8 W (Below.refl _ _)
    unfold Mg.cells at this
    rwa [hmk.out] at this
  have hDr2 : Kd.C (Kd.int .u8) w (Option.map (fun x => (⟨x.block, x.off + 4, none⟩ : Addr)) A) (l.drop 4).length (l.drop 4) := by
    have := hDr
    rwa [if_neg (by omega)] at this
  have hNum : Aside0 (∀ (g : Nat) (V : World), Rd w V g (rs0 l) → Calls Tryd.prog 37 #[.pointer (some ⟨g, 0, none⟩)] V fun e w' => e = .returned (.int .u64 k) ∧ Rd w w' g s1 ∧ V.grownBy w' (some g)) := ⟨fun g V hV => num_at w g hfd hbd hks V hV⟩
  have hStart : Aside0 (∀ (w3 : World), Below w.heap.size w w3 → Tk w ((w3.alloc (.cells #[.int .i64 0, .slice (Option.map (fun x => (⟨x.block, x.off + 4, none⟩ : Addr)) A) (n - 4) (c - 4), .int .i64 n] 99)).alloc (.cells #[.pointer (some ⟨w3.heap.size, 0, none⟩), .bool false] 73)) (w3.heap.size + 1) w3.heap.size ⟨rs0 l, false⟩) := ⟨fun w3 hB => start_Tk hB e4 hl hc hDr2⟩
  have hTab := Aside0.mk T
  have hX := Aside0.mk (heap_alloc_new w (.cells #[.int .u8 0, .int .u64 0, .int .i64 0, .int .u64 0, .int .u64 0, .int .u64 0, .slice none 0 0, .slice none 0 0, .slice none 0 0] 29))
  clear hr hf hb hOk T hl hn hc hDr hDr2 hTk hbd hfd e4 hks hU hkk hlim hFn1 hkb hk9 hts htk hbd_ hdn_ hce_
  go_enter Tryd.func17, Tryd.ntmps17
  go_wp2
  have hX1 := Aside0.mk (blk_drew hX.out)
  have hW1 := Aside0.mk (below_drew1 (bel1 w (.cells #[.int .u8 0, .int .u64 0, .int .i64 0, .int .u64 0, .int .u64 0, .int .u64 0, .slice none 0 0, .slice none 0 0, .slice none 0 0] 29)))
  refine start_ (n := 8) (S := fun _ => True) (ds := []) #[false, false, false, false, false, false, false, false] (by kernel_rfl) rfl rfl trivial (fun hHeld => ?_)
  refine pure_ (i := 0) (N := some 13) (v := ?_) (a' := ?_) #[true, false, false, false, false, false, false, false] rfl rfl (by kernel_rfl) (fun _ _ _ h => h) (Or.inl ⟨by rfl, ?_⟩) ?_ ?_
  rotate_left
  · intro w'
    go_simp
    with_reducible rfl
  rotate_left
  · simp only [Act.put, List.setIfInBounds_toArray, List.set_cons_zero, List.set_cons_succ, i64_w, i32_w]
    rfl
  refine pure_ (i := 3) (N := some 16) (v := ?_) (a' := ?_) #[true, false, false, true, false, false, false, false] rfl rfl (by kernel_rfl) (fun _ _ _ h => h) (Or.inl ⟨by rfl, ?_⟩) ?_ ?_
  rotate_left
  · intro w'
    go_simp
    with_reducible rfl
  rotate_left
  · simp only [Act.put, List.setIfInBounds_toArray, List.set_cons_zero, List.set_cons_succ, i64_w, i32_w]
    rfl
  refine pure_ (i := 1) (N := some 14) (v := ?_) (a' := ?_) #[true, true, false, true, false, false, false, false] rfl rfl (by kernel_rfl) (fun _ _ _ h => h) (Or.inl ⟨by rfl, ?_⟩) ?_ ?_
  rotate_left
  · intro w'
    go_simp
    with_reducible rfl
  rotate_left
  · simp only [Act.put, List.setIfInBounds_toArray, List.set_cons_zero, List.set_cons_succ, i64_w, i32_w]
    rfl
  refine pure_ (i := 4) (N := some 17) (v := ?_) (a' := ?_) #[true, true, false, true, true, false, false, false] rfl rfl (by kernel_rfl) (fun _ _ _ h => h) (Or.inl ⟨by rfl, ?_⟩) ?_ ?_
  rotate_left
  · intro w'
    go_simp
    with_reducible rfl
  rotate_left
  · simp only [Act.put, List.setIfInBounds_toArray, List.set_cons_zero, List.set_cons_succ, i64_w, i32_w]
    rfl
  refine one_ (i := 2) (N := some 15) #[true, true, true, true, true, false, false, false] rfl rfl (by kernel_rfl) (by decide) (fun K hK => ?_)
  refine goes_ Tryd.func27 (by kernel_rfl) rfl #[.slice (if c = 4 then A else Option.map (fun x => (⟨x.block, x.off + 4, none⟩ : Addr)) A) (n - 4) (c - 4)] (by rfl) rfl rfl (by (try simp only [List.map_toArray, List.map_cons, List.map_nil]); first | done | rfl) ?_
  refine (hSum.out _ hW1.out).mono ?_
  rintro e w2 ⟨g2, hg2, rfl, hh2, hB2⟩
  refine ⟨_, rfl, ?_⟩
  have hB2' := Aside0.mk (hW1.out.trans (hB2.mono hW1.out.size))
  have hX2 := Aside0.mk (blk_below hX1.out hB2)
  have hg2' := Aside0.mk hh2
  clear hB2 hh2
  refine hK.out _ _ trivial (fun hHeld => ?_)
  clear hK K
  refine norm_ (a' := ?_) ?_ ?_
  rotate_left
  · show Act.put _ (some 15) _ = _
    simp only [Act.put, List.setIfInBounds_toArray, List.set_cons_zero, List.set_cons_succ, i64_w, i32_w]
    rfl
  refine one_ (i := 5) (N := some 18) #[true, true, true, true, true, true, false, false] rfl rfl (by kernel_rfl) (by decide) (fun K hK => ?_)
  refine goes_ Tryd.func35 (by kernel_rfl) rfl #[.slice (some ⟨g2, 0, none⟩) 4 4, .slice A 4 c] (by rfl) rfl rfl (by (try simp only [List.map_toArray, List.map_cons, List.map_nil]); first | done | rfl) ?_
  refine (hEq.out g2 w2 hB2'.out hg2'.out).mono ?_
  rintro e w3 ⟨rfl, hD3⟩
  refine ⟨_, rfl, ?_⟩
  have hB3 := Aside0.mk (hB2'.out.trans (hD3.mono hB2'.out.size))
  have hX3 := Aside0.mk (blk_below hX2.out hD3)
  clear hD3 hX2 hB2' hg2'
  refine hK.out _ _ trivial (fun hHeld => ?_)
  clear hK K
  refine norm_ (a' := ?_) ?_ ?_
  rotate_left
  · show Act.put _ (some 18) _ = _
    simp only [Act.put, List.setIfInBounds_toArray, List.set_cons_zero, List.set_cons_succ, i64_w, i32_w]
    rfl
  refine pure_ (i := 6) (N := some 19) (v := ?_) (a' := ?_) #[true, true, true, true, true, true, true, false] rfl rfl (by kernel_rfl) (fun _ _ _ h => h) (Or.inl ⟨by rfl, ?_⟩) ?_ ?_
  rotate_left
  · intro w'
    go_simp
    with_reducible rfl
  rotate_left
  · simp only [Act.put, List.setIfInBounds_toArray, List.set_cons_zero, List.set_cons_succ, i64_w, i32_w]
    rfl
  refine pure_ (i := 7) (N := some 12) (v := ?_) (a' := ?_) #[true, true, true, true, true, true, true, true] rfl rfl (by kernel_rfl) (fun _ _ _ h => h) (Or.inl ⟨by rfl, ?_⟩) ?_ ?_
  rotate_left
  · intro w'
    go_simp
    with_reducible rfl
  rotate_left
  · simp only [Act.put, List.setIfInBounds_toArray, List.set_cons_zero, List.set_cons_succ, i64_w, i32_w]
    rfl
  refine done_ (by kernel_rfl) ?_
  repeat (first
    | ((with_reducible refine gate_callee (f := 36) rfl ?_); (with_reducible refine gate_dst (N := 25) rfl ?_); refine goesL_ (some 25) rfl rfl Tryd.func36 (by kernel_rfl) rfl #[.slice (Option.map (fun x => (⟨x.block, x.off + 4, none⟩ : Addr)) A) (n - 4) (c - 4), .int .i64 n] rfl (by (try simp only [List.map_toArray, List.map_cons, List.map_nil]); first | done | rfl) ?_; refine (newr_calls _ _ _ _ _).mono ?_; rintro e w4 ⟨rfl, rfl⟩; refine ⟨_, rfl, ?_⟩; have hTk5 := hStart.out _ hB3.out; have ht0 := (blk_cell hTk5.box 0).trans rfl; (try dsimp only))
    | ((with_reducible refine gate_callee (f := 37) rfl ?_); (with_reducible refine gate_dst (N := 32) rfl ?_); refine goesL_ (some 32) rfl rfl Tryd.func37 (by kernel_rfl) rfl #[.pointer (some ⟨w3.heap.size, 0, none⟩)] rfl (by (try simp only [List.map_toArray, List.map_cons, List.map_nil]); first | done | rfl) ?_; refine (hNum.out _ _ hTk5.rd).mono ?_; rintro e w5 ⟨rfl, HR5, G5⟩; refine ⟨_, rfl, ?_⟩; have hT5 := Aside0.mk (hTk5.read HR5 G5); have hX5 := Aside0.mk (blk_grown (blk_alloc (blk_alloc hX3.out _) _) G5 (fun e => Nat.lt_irrefl _ (Nat.lt_of_lt_of_le (blk_lt hX3.out) (Nat.le_of_eq (Option.some.inj e).symm)))); have hB5 := Aside0.mk ((below_alloc (below_alloc hB3.out _) _).trans (grown_bel G5 hB3.out.size (Nat.le_trans hB3.out.size (by simp; omega)))); have G5' := Aside0.mk G5; clear HR5 G5 ht0 hTk5; (try dsimp only))
    | ((with_reducible refine gate_callee (f := 20) rfl ?_); (with_reducible refine gate_dst (N := 34) rfl ?_); refine goesL_ (some 34) rfl rfl Tryd.func20 (by kernel_rfl) rfl #[.int .u64 k] rfl (by (try simp only [List.map_toArray, List.map_cons, List.map_nil]); first | done | rfl) ?_; refine (known_calls _ hk0.out _ (hTab.out.below hB5.out)).mono ?_; rintro e w6 ⟨rfl, rfl⟩; refine ⟨_, rfl, ?_⟩; rw [hkn.out]; (try dsimp only))
    | ((with_reducible refine gate_callee (f := 38) rfl ?_); (with_reducible refine gate_dst (N := 41) rfl ?_); refine goesL_ (some 41) rfl rfl Tryd.func38 (by kernel_rfl) rfl #[.pointer (some ⟨w3.heap.size + 1, 0, none⟩), .agg #[.int .u8 k, .int .u64 0, .int .i64 0, .int .u64 0, .int .u64 0, .int .u64 0, .slice none 0 0, .slice none 0 0, .slice none 0 0]] rfl (by (try simp only [List.map_toArray, List.map_cons, List.map_nil]); first | done | rfl) ?_; refine (hTake.out w5 _ _ hT5.out hB5.out).mono ?_; rintro e w7 ⟨vV, vB, vS, rfl, HV, HB_, HS_, HT7, T7⟩; refine ⟨_, rfl, ?_⟩; obtain ⟨A6, c6, rfl⟩ := Kd.V_slice HV; obtain ⟨A7, c7, rfl⟩ := Kd.V_slice HB_; obtain ⟨A8, c8, rfl⟩ := Kd.V_slice HS_; have hBx := Aside0.mk (heap_alloc_new w7 (.cells #[.int .u8 k, .int .u64 m.n, .int .i64 m.r, .int .u64 m.first, .int .u64 m.last, .int .u64 m.commit, .slice A6 m.V.length c6, .slice A7 m.B.length c7, .slice A8 m.S.length c8] 29)); have hT8 := HT7.below (bel1 w7 (.cells #[.int .u8 k, .int .u64 m.n, .int .i64 m.r, .int .u64 m.first, .int .u64 m.last, .int .u64 m.commit, .slice A6 m.V.length c6, .slice A7 m.B.length c7, .slice A8 m.S.length c8] 29)); have hX7 := T7.keep hX5.out (Nat.ne_of_lt (Nat.lt_succ_of_lt (blk_lt hX3.out))) (Nat.ne_of_lt (blk_lt hX3.out)); have hX8 := Aside0.mk (blk_alloc hX7 (.cells #[.int .u8 k, .int .u64 m.n, .int .i64 m.r, .int .u64 m.first, .int .u64 m.last, .int .u64 m.commit, .slice A6 m.V.length c6, .slice A7 m.B.length c7, .slice A8 m.S.length c8] 29)); have hB7 := T7.bel hB5.out.size (Nat.le_succ_of_le hB3.out.size) hB3.out.size; have hB8 := Aside0.mk (below_alloc (hB5.out.trans hB7) (.cells #[.int .u8 k, .int .u64 m.n, .int .i64 m.r, .int .u64 m.first, .int .u64 m.last, .int .u64 m.commit, .slice A6 m.V.length c6, .slice A7 m.B.length c7, .slice A8 m.S.length c8] 29)); have hV8 := Aside0.mk (Kd.V_alloc HV (.cells #[.int .u8 k, .int .u64 m.n, .int .i64 m.r, .int .u64 m.first, .int .u64 m.last, .int .u64 m.commit, .slice A6 m.V.length c6, .slice A7 m.B.length c7, .slice A8 m.S.length c8] 29)); have hU8 := Aside0.mk (Kd.V_alloc HB_ (.cells #[.int .u8 k, .int .u64 m.n, .int .i64 m.r, .int .u64 m.first, .int .u64 m.last, .int .u64 m.commit, .slice A6 m.V.length c6, .slice A7 m.B.length c7, .slice A8 m.S.length c8] 29)); have hS8 := Aside0.mk (Kd.V_alloc HS_ (.cells #[.int .u8 k, .int .u64 m.n, .int .i64 m.r, .int .u64 m.first, .int .u64 m.last, .int .u64 m.commit, .slice A6 m.V.length c6, .slice A7 m.B.length c7, .slice A8 m.S.length c8] 29)); have hs7 := Aside0.mk (Nat.le_trans (Nat.le_of_lt (Nat.lt_succ_self _)) (Nat.le_trans (Nat.le_of_eq (by simp)) (Nat.le_trans G5'.out.size T7.size)) : w3.heap.size + 1 ≤ w7.heap.size); have ht1 := (blk_cell hT8.box 1).trans rfl; have ht2 := (blk_cell hT8.box 0).trans rfl; have hT8' := Aside0.mk hT8; rw [hbad.out] at ht1; clear HV HB_ HS_ HT7 T7 hX7 hB7 hT8; (try dsimp only))
    | ((with_reducible refine Calls.mono (done_calls w _ _ ts.r hT8'.out.rd hFts.out.fits) ?_); rintro e w9 ⟨rfl, HR9, G9⟩; rw [hdn.out]; have hBx9 := Aside0.mk (blk_grown hBx.out G9 (fun e => by have := Option.some.inj e; have := hs7.out; omega)); have hX9 := Aside0.mk (blk_grown hX8.out G9 (fun e => by have := Option.some.inj e; have := blk_lt hX3.out; omega)); have hB9 := Aside0.mk (hB8.out.trans (grown_bel G9 hB3.out.size hB8.out.size)); have hok9 : ∀ k, w5.heap.size ≤ k → some k ≠ some w3.heap.size := (fun k hk e => by have := Option.some.inj e; have := G5'.out.size; simp at this; omega); have hV9 := Aside0.mk (Kd.V_grown hV8.out G9 hok9); have hU9 := Aside0.mk (Kd.V_grown hU8.out G9 hok9); have hS9_ := Aside0.mk (Kd.V_grown hS8.out G9 hok9); clear HR9 G9 hok9; have hx0 := (blk_cell hBx9.out 0).trans rfl; have hx1 := (blk_cell hBx9.out 1).trans rfl; have hx2 := (blk_cell hBx9.out 2).trans rfl; have hx3 := (blk_cell hBx9.out 3).trans rfl; have hx4 := (blk_cell hBx9.out 4).trans rfl; have hx5 := (blk_cell hBx9.out 5).trans rfl; have hx6 := (blk_cell hBx9.out 6).trans rfl; have hx7 := (blk_cell hBx9.out 7).trans rfl; have hx8 := (blk_cell hBx9.out 8).trans rfl; (try dsimp only))
    | ((with_reducible refine Calls.mono (hChk.out w9 A6 A7 A8 c6 c7 c8 hB9.out ⟨(Kd.V_reads' hV9.out).2.2, (Kd.V_reads' hU9.out).2.2, (Kd.V_reads' hS9_.out).2.2⟩ (Kd.V_reads' hV9.out).2.1 (Kd.V_reads' hU9.out).2.1 (Kd.V_reads' hS9_.out).2.1) ?_); rintro e w10 ⟨rfl, HB10⟩; rw [hce.out]; have hBx10 := Aside0.mk (blk_below hBx9.out HB10); have hX10 := Aside0.mk (blk_below hX9.out HB10); have hB10 := Aside0.mk (hB9.out.trans (HB10.mono hB9.out.size)); have hV10 := Aside0.mk (Kd.V_below hV9.out HB10); have hU10 := Aside0.mk (Kd.V_below hU9.out HB10); have hS10 := Aside0.mk (Kd.V_below hS9_.out HB10); clear HB10; (try clear hx0 hx1 hx2 hx3 hx4 hx5 hx6 hx7 hx8); have hz0 := (blk_cell hX10.out 0).trans rfl; have hy0 := blk_frozen hX10.out 0; have hz1 := (blk_cell hX10.out 1).trans rfl; have hy1 := blk_frozen hX10.out 1; have hz2 := (blk_cell hX10.out 2).trans rfl; have hy2 := blk_frozen hX10.out 2; have hz3 := (blk_cell hX10.out 3).trans rfl; have hy3 := blk_frozen hX10.out 3; have hz4 := (blk_cell hX10.out 4).trans rfl; have hy4 := blk_frozen hX10.out 4; have hz5 := (blk_cell hX10.out 5).trans rfl; have hy5 := blk_frozen hX10.out 5; have hz6 := (blk_cell hX10.out 6).trans rfl; have hy6 := blk_frozen hX10.out 6; have hz7 := (blk_cell hX10.out 7).trans rfl; have hy7 := blk_frozen hX10.out 7; have hz8 := (blk_cell hX10.out 8).trans rfl; have hy8 := blk_frozen hX10.out 8; (try dsimp only))
    | go_step)
  have hS9 := set9 hX10.out (.int .u8 0) (.int .u64 0) (.int .i64 0) (.int .u64 0) (.int .u64 0) (.int .u64 0) (.slice none 0 0) (.slice none 0 0) (.slice none 0 0)
  refine bodyPost_ret (results_ct rfl _ _ w.heap.size 29 _ (0, 0) _ rfl hS9.1 Tryd.underlying29 rfl (by kernel_rfl)) rfl ?_
  exact takeP_zero (hB10.out.trans (grown_bel hS9.2 (Nat.le_refl _) hB10.out.size)) 11
set_option maxHeartbeats 1000000 in
set_option maxRecDepth 100000 in
theorem Take_ok (A : Option Addr) (n c : Nat) (l : List Int) (hl : l.length = n) (hn : 5 ≤ n) (hc : n ≤ c) (w : World) (T : Tabs w) (hr : Kd.C (Kd.int .u8) w A n l) (hb : Bys l) (hf : Fits n) (hOk : sumOk l = true) (hkk : knownB (nR (rs0 l)).1 = true) (hbd_ : (takenM l).2.bad = false) (hdn_ : (doneR (takenM l).2.r).1 = 0) (hce_ : checkM (takenM l).1 (nR (rs0 l)).1.toNat = true) :
    Calls Tryd.prog 17 #[.slice A n c] w (TakeP w ((takenM l).1, 0)) := by
  have hn1 : (5 : Int) ≤ n := by omega
  have c0 : decide ((n : Int) < 5) = false := decide_eq_false (by omega)
  have hn2 : 4 ≤ n := by omega
  have hn3 : (n : Int) < 140737488355328 := by have := hf; unfold Fits at this; omega
  have hcn : n ≤ c := hc
  have hm1 : (4 ≤ (n : Int)) = True := eq_true (by omega)
  have hm2 : (4 ≤ (c : Int)) = True := eq_true (by omega)
  have hcn4 : 4 ≤ c := by omega
  have e4 : (l.drop 4).length = n - 4 := by rw [List.length_drop, hl]
  have hDr : Kd.C (Kd.int .u8) w (if c = 4 then A else Option.map (fun x => (⟨x.block, x.off + 4, none⟩ : Addr)) A) (l.drop 4).length (l.drop 4) := by
    have := Kd.C_drop (m := 4) (c := c) (by rw [hl]; exact hr) (by omega) (by omega)
    exact this
  have hTk : Kd.C (Kd.int .u8) w A 4 (l.take 4) := by
    have := Kd.C_take (m := 4) (by rw [hl]; exact hr) (by omega)
    rwa [show (l.take 4).length = 4 from by simp; omega] at this
  have hbd : Bys (l.drop 4) := fun x hx => hb x (List.mem_of_mem_drop hx)
  have hfd : Fits (l.drop 4).length := by unfold Fits at *; omega
  have hSum : Aside0 (∀ W, Below w.heap.size w W → Calls Tryd.prog 27 #[.slice (if c = 4 then A else Option.map (fun x => (⟨x.block, x.off + 4, none⟩ : Addr)) A) (n - 4) (c - 4)] W fun e w' => ∃ g, W.heap.size ≤ g ∧ e = .returned (.slice (some ⟨g, 0, none⟩) 4 4) ∧ w'.heap[g]? = some (.cells (nums .u8 (sumB (l.drop 4))).toArray 5 (0, 0)) ∧ Below W.heap.size W w') := by
    refine ⟨fun W hW => ?_⟩
    have := sum_calls (if c = 4 then A else Option.map (fun x => (⟨x.block, x.off + 4, none⟩ : Addr)) A) (c - 4) (l.drop 4) W (T.below hW) (Kd.C_below hDr hW) hbd hfd
    rwa [e4] at this
  have hEq : Aside0 (∀ (g : Nat) (W : World), Below w.heap.size w W → W.heap[g]? = some (.cells (nums .u8 (sumB (l.drop 4))).toArray 5 (0, 0)) → Calls Tryd.prog 35 #[.slice (some ⟨g, 0, none⟩) 4 4, .slice A 4 c] W fun e w' => e = .returned (.bool true) ∧ Below W.heap.size W w') := by
    refine ⟨fun g W hW hg => ?_⟩
    have h1 := (Kd.R_reads' (Kd.R_of_own (enc := Value.int .u8) (h1 := fun _ => rfl) (ok := fun _ => True) (own_four hg (Nat.zero_le g)) (fun _ _ => trivial))).2.2
    have h2 := Kd.C_below hTk hW
    have h3 : (l.take 4).length = 4 := by simp; omega
    have := bytes_Equal.calls (some ⟨g, 0, none⟩) 4 (sumB (l.drop 4)) A c (l.take 4) true W h1 (Nat.le_refl _) (by rw [h3]; exact h2) (by omega) (by unfold bytes_Equal.f; rw [← hOk]; rfl)
    rw [h3] at this
    refine this.mono ?_
    rintro e w' ⟨rfl, hD⟩
    exact ⟨rfl, below_drawn hD⟩
  obtain ⟨kd, s1, hks⟩ : ∃ kd s1, nR (rs0 l) = (kd, s1) := ⟨_, _, rfl⟩
  have hU : U kd := by have := nR_U (s := rs0 l) hbd; rwa [hks] at this
  have hlim : (0 : Int) ≤ (rs0 l).lim ∧ (rs0 l).lim < 9223372036854775808 := by show (0 : Int) ≤ (l.length : Int) ∧ (l.length : Int) < _; unfold Fits at hf; omega
  have hFn1 : Fine s1 := by have := (Fine.mk hfd hbd hlim : Fine (rs0 l)).less (less_nR (rs0 l)); rwa [hks] at this
  rw [hks] at hkk
  obtain ⟨k, rfl⟩ := Int.eq_ofNat_of_zero_le hU.1
  have hkb := of_decide_eq_true hkk
  have hkn : Aside0 (knownB (k : Int) = true) := ⟨hkk⟩
  have hk0 := Aside0.mk hU.1
  have hk9 : k < 9 := by omega
  have hk8 : (k : Int) < 9 := by omega
  obtain ⟨m, ts, hts⟩ : ∃ m ts, takesF (fldI k) (m0 k, ⟨s1, false⟩) = (m, ts) := ⟨_, _, rfl⟩
  have htk : takenM l = (m, ts) := by unfold takenM; rw [hks]; exact hts
  rw [htk] at hbd_ hdn_ hce_ ⊢
  have hmk : Aside0 (m.k = k) := by
    have : ∀ (l : List Int) (p : Mg × TS), (takesF l p).1.k = p.1.k := by
      intro l
      induction l with
      | nil => intro p; rfl
      | cons c l ih => intro p; exact (ih _).trans (k_takeF c p)
    have h3 := this (fldI k) (m0 k, ⟨s1, false⟩)
    rw [hts] at h3
    exact ⟨h3⟩
  have hFts : Aside0 (Fine ts.r) := by
    have : ∀ (l : List Int) (p : Mg × TS), Less p.2.r (takesF l p).2.r := by
      intro l
      induction l with
      | nil => intro p; exact Less.refl _
      | cons c l ih => intro p; exact (less_takeF c p).trans (ih _)
    have h3 := this (fldI k) (m0 k, ⟨s1, false⟩)
    rw [hts] at h3
    exact ⟨hFn1.less h3⟩
  have hTake : Aside0 (∀ (W : World) (t g : Nat), Tk w W t g ⟨s1, false⟩ → Below w.heap.size w W → Calls Tryd.prog 38 #[.pointer (some ⟨t, 0, none⟩), .agg #[.int .u8 k, .int .u64 0, .int .i64 0, .int .u64 0, .int .u64 0, .int .u64 0, .slice none 0 0, .slice none 0 0, .slice none 0 0]] W fun e w' => ∃ vV vB vS, e = .returned (.agg #[.int .u8 k, .int .u64 m.n, .int .i64 m.r, .int .u64 m.first, .int .u64 m.last, .int .u64 m.commit, vV, vB, vS]) ∧ Kd.V k52 52 w' W.heap.size (fun k => W.heap.size ≤ k) vV m.V ∧ Kd.V (Kd.slice 5 (Kd.int .u8)) 27 w' W.heap.size (fun k => W.heap.size ≤ k) vB m.B ∧ Kd.V (Kd.int .u8) 5 w' W.heap.size (fun k => W.heap.size ≤ k) vS m.S ∧ Tk w w' t g ts ∧ Two W w' t g) := by
    refine ⟨fun W t g hT hB => ?_⟩
    have := take_calls w W t g ⟨s1, false⟩ hT hFn1 (T.below hB) k k rfl hk9
    rwa [hts] at this
  have hbad : Aside0 (ts.bad = false) := ⟨hbd_⟩
  have hdn : Aside0 ((doneR ts.r).1 = 0) := ⟨hdn_⟩
  have hce : Aside0 (errI (checkM m k) = 0) := ⟨by rw [show checkM m k = true from by rw [hks] at hce_; exact hce_]; rfl⟩
  have hk256 := Aside0.mk (show k < 256 by omega)
  have hfV : Aside0 (Fits m.V.length) := ⟨by
    have h3 := takes_V (fldI k) (m0 k, ⟨s1, false⟩) (by show ([] : List S52).length ≤ 256; simp)
    rw [hts] at h3
    unfold Fits
    have h4 : m.V.length ≤ 256 := h3
    omega⟩
  have hChk : Aside0 (∀ (W : World) (A6 A7 A8 : Option Addr) (c6 c7 c8 : Nat), Below w.heap.size w W → m.At W A6 A7 A8 → m.V.length ≤ c6 → m.B.length ≤ c7 → m.S.length ≤ c8 → Calls Tryd.prog 10 #[.agg #[.int .u8 k, .int .u64 m.n, .int .i64 m.r, .int .u64 m.first, .int .u64 m.last, .int .u64 m.commit, .slice A6 m.V.length c6, .slice A7 m.B.length c7, .slice A8 m.S.length c8]] W fun e w' => e = .returned (.int .i64 (errI (checkM m k))) ∧ Below W.heap.size W w') := by
    refine ⟨fun W A6 A7 A8 c6 c7 c8 hB hAt h6 h7 h8 => ?_⟩
    have := check_m m k hmk.out hk256.out hfV.out A6 A7 A8 c6 c7 c8 W (T.below hB) hAt h6 h7 h8 W (Below.refl _ _)
    unfold Mg.cells at this
    rwa [hmk.out] at this
  have hDr2 : Kd.C (Kd.int .u8) w (Option.map (fun x => (⟨x.block, x.off + 4, none⟩ : Addr)) A) (l.drop 4).length (l.drop 4) := by
    have := hDr
    rwa [if_neg (by omega)] at this
  have hNum : Aside0 (∀ (g : Nat) (V : World), Rd w V g (rs0 l) → Calls Tryd.prog 37 #[.pointer (some ⟨g, 0, none⟩)] V fun e w' => e = .returned (.int .u64 k) ∧ Rd w w' g s1 ∧ V.grownBy w' (some g)) := ⟨fun g V hV => num_at w g hfd hbd hks V hV⟩
  have hStart : Aside0 (∀ (w3 : World), Below w.heap.size w w3 → Tk w ((w3.alloc (.cells #[.int .i64 0, .slice (Option.map (fun x => (⟨x.block, x.off + 4, none⟩ : Addr)) A) (n - 4) (c - 4), .int .i64 n] 99)).alloc (.cells #[.pointer (some ⟨w3.heap.size, 0, none⟩), .bool false] 73)) (w3.heap.size + 1) w3.heap.size ⟨rs0 l, false⟩) := ⟨fun w3 hB => start_Tk hB e4 hl hc hDr2⟩
  have hTab := Aside0.mk T
  have hX := Aside0.mk (heap_alloc_new w (.cells #[.int .u8 0, .int .u64 0, .int .i64 0, .int .u64 0, .int .u64 0, .int .u64 0, .slice none 0 0, .slice none 0 0, .slice none 0 0] 29))
  clear hr hf hb hOk T hl hn hc hDr hDr2 hTk hbd hfd e4 hks hU hkk hlim hFn1 hkb hk9 hts htk hbd_ hdn_ hce_
  go_enter Tryd.func17, Tryd.ntmps17
  go_wp2
  have hX1 := Aside0.mk (blk_drew hX.out)
  have hW1 := Aside0.mk (below_drew1 (bel1 w (.cells #[.int .u8 0, .int .u64 0, .int .i64 0, .int .u64 0, .int .u64 0, .int .u64 0, .slice none 0 0, .slice none 0 0, .slice none 0 0] 29)))
  refine start_ (n := 8) (S := fun _ => True) (ds := []) #[false, false, false, false, false, false, false, false] (by kernel_rfl) rfl rfl trivial (fun hHeld => ?_)
  refine pure_ (i := 0) (N := some 13) (v := ?_) (a' := ?_) #[true, false, false, false, false, false, false, false] rfl rfl (by kernel_rfl) (fun _ _ _ h => h) (Or.inl ⟨by rfl, ?_⟩) ?_ ?_
  rotate_left
  · intro w'
    go_simp
    with_reducible rfl
  rotate_left
  · simp only [Act.put, List.setIfInBounds_toArray, List.set_cons_zero, List.set_cons_succ, i64_w, i32_w]
    rfl
  refine pure_ (i := 3) (N := some 16) (v := ?_) (a' := ?_) #[true, false, false, true, false, false, false, false] rfl rfl (by kernel_rfl) (fun _ _ _ h => h) (Or.inl ⟨by rfl, ?_⟩) ?_ ?_
  rotate_left
  · intro w'
    go_simp
    with_reducible rfl
  rotate_left
  · simp only [Act.put, List.setIfInBounds_toArray, List.set_cons_zero, List.set_cons_succ, i64_w, i32_w]
    rfl
  refine pure_ (i := 1) (N := some 14) (v := ?_) (a' := ?_) #[true, true, false, true, false, false, false, false] rfl rfl (by kernel_rfl) (fun _ _ _ h => h) (Or.inl ⟨by rfl, ?_⟩) ?_ ?_
  rotate_left
  · intro w'
    go_simp
    with_reducible rfl
  rotate_left
  · simp only [Act.put, List.setIfInBounds_toArray, List.set_cons_zero, List.set_cons_succ, i64_w, i32_w]
    rfl
  refine pure_ (i := 4) (N := some 17) (v := ?_) (a' := ?_) #[true, true, false, true, true, false, false, false] rfl rfl (by kernel_rfl) (fun _ _ _ h => h) (Or.inl ⟨by rfl, ?_⟩) ?_ ?_
  rotate_left
  · intro w'
    go_simp
    with_reducible rfl
  rotate_left
  · simp only [Act.put, List.setIfInBounds_toArray, List.set_cons_zero, List.set_cons_succ, i64_w, i32_w]
    rfl
  refine one_ (i := 2) (N := some 15) #[true, true, true, true, true, false, false, false] rfl rfl (by kernel_rfl) (by decide) (fun K hK => ?_)
  refine goes_ Tryd.func27 (by kernel_rfl) rfl #[.slice (if c = 4 then A else Option.map (fun x => (⟨x.block, x.off + 4, none⟩ : Addr)) A) (n - 4) (c - 4)] (by rfl) rfl rfl (by (try simp only [List.map_toArray, List.map_cons, List.map_nil]); first | done | rfl) ?_
  refine (hSum.out _ hW1.out).mono ?_
  rintro e w2 ⟨g2, hg2, rfl, hh2, hB2⟩
  refine ⟨_, rfl, ?_⟩
  have hB2' := Aside0.mk (hW1.out.trans (hB2.mono hW1.out.size))
  have hX2 := Aside0.mk (blk_below hX1.out hB2)
  have hg2' := Aside0.mk hh2
  clear hB2 hh2
  refine hK.out _ _ trivial (fun hHeld => ?_)
  clear hK K
  refine norm_ (a' := ?_) ?_ ?_
  rotate_left
  · show Act.put _ (some 15) _ = _
    simp only [Act.put, List.setIfInBounds_toArray, List.set_cons_zero, List.set_cons_succ, i64_w, i32_w]
    rfl
  refine one_ (i := 5) (N := some 18) #[true, true, true, true, true, true, false, false] rfl rfl (by kernel_rfl) (by decide) (fun K hK => ?_)
  refine goes_ Tryd.func35 (by kernel_rfl) rfl #[.slice (some ⟨g2, 0, none⟩) 4 4, .slice A 4 c] (by rfl) rfl rfl (by (try simp only [List.map_toArray, List.map_cons, List.map_nil]); first | done | rfl) ?_
  refine (hEq.out g2 w2 hB2'.out hg2'.out).mono ?_
  rintro e w3 ⟨rfl, hD3⟩
  refine ⟨_, rfl, ?_⟩
  have hB3 := Aside0.mk (hB2'.out.trans (hD3.mono hB2'.out.size))
  have hX3 := Aside0.mk (blk_below hX2.out hD3)
  clear hD3 hX2 hB2' hg2'
  refine hK.out _ _ trivial (fun hHeld => ?_)
  clear hK K
  refine norm_ (a' := ?_) ?_ ?_
  rotate_left
  · show Act.put _ (some 18) _ = _
    simp only [Act.put, List.setIfInBounds_toArray, List.set_cons_zero, List.set_cons_succ, i64_w, i32_w]
    rfl
  refine pure_ (i := 6) (N := some 19) (v := ?_) (a' := ?_) #[true, true, true, true, true, true, true, false] rfl rfl (by kernel_rfl) (fun _ _ _ h => h) (Or.inl ⟨by rfl, ?_⟩) ?_ ?_
  rotate_left
  · intro w'
    go_simp
    with_reducible rfl
  rotate_left
  · simp only [Act.put, List.setIfInBounds_toArray, List.set_cons_zero, List.set_cons_succ, i64_w, i32_w]
    rfl
  refine pure_ (i := 7) (N := some 12) (v := ?_) (a' := ?_) #[true, true, true, true, true, true, true, true] rfl rfl (by kernel_rfl) (fun _ _ _ h => h) (Or.inl ⟨by rfl, ?_⟩) ?_ ?_
  rotate_left
  · intro w'
    go_simp
    with_reducible rfl
  rotate_left
  · simp only [Act.put, List.setIfInBounds_toArray, List.set_cons_zero, List.set_cons_succ, i64_w, i32_w]
    rfl
  refine done_ (by kernel_rfl) ?_
  repeat (first
    | ((with_reducible refine gate_callee (f := 36) rfl ?_); (with_reducible refine gate_dst (N := 25) rfl ?_); refine goesL_ (some 25) rfl rfl Tryd.func36 (by kernel_rfl) rfl #[.slice (Option.map (fun x => (⟨x.block, x.off + 4, none⟩ : Addr)) A) (n - 4) (c - 4), .int .i64 n] rfl (by (try simp only [List.map_toArray, List.map_cons, List.map_nil]); first | done | rfl) ?_; refine (newr_calls _ _ _ _ _).mono ?_; rintro e w4 ⟨rfl, rfl⟩; refine ⟨_, rfl, ?_⟩; have hTk5 := hStart.out _ hB3.out; have ht0 := (blk_cell hTk5.box 0).trans rfl; (try dsimp only))
    | ((with_reducible refine gate_callee (f := 37) rfl ?_); (with_reducible refine gate_dst (N := 32) rfl ?_); refine goesL_ (some 32) rfl rfl Tryd.func37 (by kernel_rfl) rfl #[.pointer (some ⟨w3.heap.size, 0, none⟩)] rfl (by (try simp only [List.map_toArray, List.map_cons, List.map_nil]); first | done | rfl) ?_; refine (hNum.out _ _ hTk5.rd).mono ?_; rintro e w5 ⟨rfl, HR5, G5⟩; refine ⟨_, rfl, ?_⟩; have hT5 := Aside0.mk (hTk5.read HR5 G5); have hX5 := Aside0.mk (blk_grown (blk_alloc (blk_alloc hX3.out _) _) G5 (fun e => Nat.lt_irrefl _ (Nat.lt_of_lt_of_le (blk_lt hX3.out) (Nat.le_of_eq (Option.some.inj e).symm)))); have hB5 := Aside0.mk ((below_alloc (below_alloc hB3.out _) _).trans (grown_bel G5 hB3.out.size (Nat.le_trans hB3.out.size (by simp; omega)))); have G5' := Aside0.mk G5; clear HR5 G5 ht0 hTk5; (try dsimp only))
    | ((with_reducible refine gate_callee (f := 20) rfl ?_); (with_reducible refine gate_dst (N := 34) rfl ?_); refine goesL_ (some 34) rfl rfl Tryd.func20 (by kernel_rfl) rfl #[.int .u64 k] rfl (by (try simp only [List.map_toArray, List.map_cons, List.map_nil]); first | done | rfl) ?_; refine (known_calls _ hk0.out _ (hTab.out.below hB5.out)).mono ?_; rintro e w6 ⟨rfl, rfl⟩; refine ⟨_, rfl, ?_⟩; rw [hkn.out]; (try dsimp only))
    | ((with_reducible refine gate_callee (f := 38) rfl ?_); (with_reducible refine gate_dst (N := 41) rfl ?_); refine goesL_ (some 41) rfl rfl Tryd.func38 (by kernel_rfl) rfl #[.pointer (some ⟨w3.heap.size + 1, 0, none⟩), .agg #[.int .u8 k, .int .u64 0, .int .i64 0, .int .u64 0, .int .u64 0, .int .u64 0, .slice none 0 0, .slice none 0 0, .slice none 0 0]] rfl (by (try simp only [List.map_toArray, List.map_cons, List.map_nil]); first | done | rfl) ?_; refine (hTake.out w5 _ _ hT5.out hB5.out).mono ?_; rintro e w7 ⟨vV, vB, vS, rfl, HV, HB_, HS_, HT7, T7⟩; refine ⟨_, rfl, ?_⟩; obtain ⟨A6, c6, rfl⟩ := Kd.V_slice HV; obtain ⟨A7, c7, rfl⟩ := Kd.V_slice HB_; obtain ⟨A8, c8, rfl⟩ := Kd.V_slice HS_; have hBx := Aside0.mk (heap_alloc_new w7 (.cells #[.int .u8 k, .int .u64 m.n, .int .i64 m.r, .int .u64 m.first, .int .u64 m.last, .int .u64 m.commit, .slice A6 m.V.length c6, .slice A7 m.B.length c7, .slice A8 m.S.length c8] 29)); have hT8 := HT7.below (bel1 w7 (.cells #[.int .u8 k, .int .u64 m.n, .int .i64 m.r, .int .u64 m.first, .int .u64 m.last, .int .u64 m.commit, .slice A6 m.V.length c6, .slice A7 m.B.length c7, .slice A8 m.S.length c8] 29)); have hX7 := T7.keep hX5.out (Nat.ne_of_lt (Nat.lt_succ_of_lt (blk_lt hX3.out))) (Nat.ne_of_lt (blk_lt hX3.out)); have hX8 := Aside0.mk (blk_alloc hX7 (.cells #[.int .u8 k, .int .u64 m.n, .int .i64 m.r, .int .u64 m.first, .int .u64 m.last, .int .u64 m.commit, .slice A6 m.V.length c6, .slice A7 m.B.length c7, .slice A8 m.S.length c8] 29)); have hB7 := T7.bel hB5.out.size (Nat.le_succ_of_le hB3.out.size) hB3.out.size; have hB8 := Aside0.mk (below_alloc (hB5.out.trans hB7) (.cells #[.int .u8 k, .int .u64 m.n, .int .i64 m.r, .int .u64 m.first, .int .u64 m.last, .int .u64 m.commit, .slice A6 m.V.length c6, .slice A7 m.B.length c7, .slice A8 m.S.length c8] 29)); have hV8 := Aside0.mk (Kd.V_alloc HV (.cells #[.int .u8 k, .int .u64 m.n, .int .i64 m.r, .int .u64 m.first, .int .u64 m.last, .int .u64 m.commit, .slice A6 m.V.length c6, .slice A7 m.B.length c7, .slice A8 m.S.length c8] 29)); have hU8 := Aside0.mk (Kd.V_alloc HB_ (.cells #[.int .u8 k, .int .u64 m.n, .int .i64 m.r, .int .u64 m.first, .int .u64 m.last, .int .u64 m.commit, .slice A6 m.V.length c6, .slice A7 m.B.length c7, .slice A8 m.S.length c8] 29)); have hS8 := Aside0.mk (Kd.V_alloc HS_ (.cells #[.int .u8 k, .int .u64 m.n, .int .i64 m.r, .int .u64 m.first, .int .u64 m.last, .int .u64 m.commit, .slice A6 m.V.length c6, .slice A7 m.B.length c7, .slice A8 m.S.length c8] 29)); have hs7 := Aside0.mk (Nat.le_trans (Nat.le_of_lt (Nat.lt_succ_self _)) (Nat.le_trans (Nat.le_of_eq (by simp)) (Nat.le_trans G5'.out.size T7.size)) : w3.heap.size + 1 ≤ w7.heap.size); have ht1 := (blk_cell hT8.box 1).trans rfl; have ht2 := (blk_cell hT8.box 0).trans rfl; have hT8' := Aside0.mk hT8; rw [hbad.out] at ht1; clear HV HB_ HS_ HT7 T7 hX7 hB7 hT8; (try dsimp only))
    | ((with_reducible refine Calls.mono (done_calls w _ _ ts.r hT8'.out.rd hFts.out.fits) ?_); rintro e w9 ⟨rfl, HR9, G9⟩; rw [hdn.out]; have hBx9 := Aside0.mk (blk_grown hBx.out G9 (fun e => by have := Option.some.inj e; have := hs7.out; omega)); have hX9 := Aside0.mk (blk_grown hX8.out G9 (fun e => by have := Option.some.inj e; have := blk_lt hX3.out; omega)); have hB9 := Aside0.mk (hB8.out.trans (grown_bel G9 hB3.out.size hB8.out.size)); have hok9 : ∀ k, w5.heap.size ≤ k → some k ≠ some w3.heap.size := (fun k hk e => by have := Option.some.inj e; have := G5'.out.size; simp at this; omega); have hV9 := Aside0.mk (Kd.V_grown hV8.out G9 hok9); have hU9 := Aside0.mk (Kd.V_grown hU8.out G9 hok9); have hS9_ := Aside0.mk (Kd.V_grown hS8.out G9 hok9); clear HR9 G9 hok9; have hx0 := (blk_cell hBx9.out 0).trans rfl; have hx1 := (blk_cell hBx9.out 1).trans rfl; have hx2 := (blk_cell hBx9.out 2).trans rfl; have hx3 := (blk_cell hBx9.out 3).trans rfl; have hx4 := (blk_cell hBx9.out 4).trans rfl; have hx5 := (blk_cell hBx9.out 5).trans rfl; have hx6 := (blk_cell hBx9.out 6).trans rfl; have hx7 := (blk_cell hBx9.out 7).trans rfl; have hx8 := (blk_cell hBx9.out 8).trans rfl; (try dsimp only))
    | ((with_reducible refine Calls.mono (hChk.out w9 A6 A7 A8 c6 c7 c8 hB9.out ⟨(Kd.V_reads' hV9.out).2.2, (Kd.V_reads' hU9.out).2.2, (Kd.V_reads' hS9_.out).2.2⟩ (Kd.V_reads' hV9.out).2.1 (Kd.V_reads' hU9.out).2.1 (Kd.V_reads' hS9_.out).2.1) ?_); rintro e w10 ⟨rfl, HB10⟩; rw [hce.out]; have hBx10 := Aside0.mk (blk_below hBx9.out HB10); have hX10 := Aside0.mk (blk_below hX9.out HB10); have hB10 := Aside0.mk (hB9.out.trans (HB10.mono hB9.out.size)); have hV10 := Aside0.mk (Kd.V_below hV9.out HB10); have hU10 := Aside0.mk (Kd.V_below hU9.out HB10); have hS10 := Aside0.mk (Kd.V_below hS9_.out HB10); clear HB10; (try clear hx0 hx1 hx2 hx3 hx4 hx5 hx6 hx7 hx8); have hx0 := (blk_cell hBx10.out 0).trans rfl; have hx1 := (blk_cell hBx10.out 1).trans rfl; have hx2 := (blk_cell hBx10.out 2).trans rfl; have hx3 := (blk_cell hBx10.out 3).trans rfl; have hx4 := (blk_cell hBx10.out 4).trans rfl; have hx5 := (blk_cell hBx10.out 5).trans rfl; have hx6 := (blk_cell hBx10.out 6).trans rfl; have hx7 := (blk_cell hBx10.out 7).trans rfl; have hx8 := (blk_cell hBx10.out 8).trans rfl; have hz0 := (blk_cell hX10.out 0).trans rfl; have hy0 := blk_frozen hX10.out 0; have hz1 := (blk_cell hX10.out 1).trans rfl; have hy1 := blk_frozen hX10.out 1; have hz2 := (blk_cell hX10.out 2).trans rfl; have hy2 := blk_frozen hX10.out 2; have hz3 := (blk_cell hX10.out 3).trans rfl; have hy3 := blk_frozen hX10.out 3; have hz4 := (blk_cell hX10.out 4).trans rfl; have hy4 := blk_frozen hX10.out 4; have hz5 := (blk_cell hX10.out 5).trans rfl; have hy5 := blk_frozen hX10.out 5; have hz6 := (blk_cell hX10.out 6).trans rfl; have hy6 := blk_frozen hX10.out 6; have hz7 := (blk_cell hX10.out 7).trans rfl; have hy7 := blk_frozen hX10.out 7; have hz8 := (blk_cell hX10.out 8).trans rfl; have hy8 := blk_frozen hX10.out 8; (try dsimp only))
    | go_step)
  have hS9 := set9 hX10.out (.int .u8 k) (.int .u64 m.n) (.int .i64 m.r) (.int .u64 m.first) (.int .u64 m.last) (.int .u64 m.commit) (.slice A6 m.V.length c6) (.slice A7 m.B.length c7) (.slice A8 m.S.length c8)
  refine bodyPost_ret (results_ct rfl _ _ w.heap.size 29 _ (0, 0) _ rfl hS9.1 Tryd.underlying29 rfl (by kernel_rfl)) rfl ?_
  have hlt5 := blk_lt hX5.out
  have hokr : ∀ k, w5.heap.size ≤ k → some k ≠ some w.heap.size := fun k hk e => by have := Option.some.inj e; omega
  refine ⟨_, _, _, by rw [hmk.out]; rfl, Kd.V_map (Kd.V_mono (Kd.V_grown hV10.out hS9.2 hokr) (fun k hk => by omega)) (fun _ hf => hf), Kd.V_map (Kd.V_mono (Kd.V_grown hU10.out hS9.2 hokr) (fun k hk => by omega)) (fun _ hf => hf), Kd.V_map (Kd.V_mono (Kd.V_grown hS10.out hS9.2 hokr) (fun k hk => by omega)) (fun _ hf => hf), hB10.out.trans (grown_bel hS9.2 (Nat.le_refl _) hB10.out.size)⟩
theorem Take_calls (A : Option Addr) (c : Nat) (l : List Int) (hc : l.length ≤ c) (w : World) (T : Tabs w) (hr : Kd.C (Kd.int .u8) w A l.length l) (hb : Bys l) (hf : Fits l.length) :
    Calls Tryd.prog 17 #[.slice A l.length c] w (TakeP w (takeM l)) := by
  by_cases h5 : l.length < 5
  · have e : takeM l = (m0 0, 10) := by unfold takeM; rw [if_pos h5]
    rw [e]
    exact Take_short A _ c h5 w
  have hn : 5 ≤ l.length := by omega
  by_cases hs : sumOk l = false
  · have e : takeM l = (m0 0, 12) := by unfold takeM; rw [if_neg h5, if_pos hs]
    rw [e]
    exact Take_sum A _ c l rfl hn hc w T hr hb hf hs
  have hs1 : sumOk l = true := by simpa using hs
  by_cases hk : knownB (nR (rs0 l)).1 = false
  · have e : takeM l = (m0 0, 11) := by unfold takeM; rw [if_neg h5, if_neg hs, if_pos hk]
    rw [e]
    exact Take_form A _ c l rfl hn hc w T hr hb hf hs1 hk
  have hk1 : knownB (nR (rs0 l)).1 = true := by simpa using hk
  have hno : restOk l = false → takeM l = (m0 0, 11) := fun h => by unfold takeM; rw [if_neg h5, if_neg hs, if_neg hk, if_pos h]
  by_cases hbd : (takenM l).2.bad = true
  · rw [hno (by unfold restOk; rw [hbd]; rfl)]
    exact Take_bad A _ c l rfl hn hc w T hr hb hf hs1 hk1 hbd
  have hbd0 : (takenM l).2.bad = false := by simpa using hbd
  by_cases hd : (doneR (takenM l).2.r).1 = 0
  · by_cases hce : checkM (takenM l).1 (nR (rs0 l)).1.toNat = true
    · have e : takeM l = ((takenM l).1, 0) := by
        unfold takeM
        rw [if_neg h5, if_neg hs, if_neg hk, if_neg (by unfold restOk; rw [hbd0, hd, hce]; decide)]
      rw [e]
      exact Take_ok A _ c l rfl hn hc w T hr hb hf hs1 hk1 hbd0 hd hce
    · have hce0 : checkM (takenM l).1 (nR (rs0 l)).1.toNat = false := by simpa using hce
      rw [hno (by unfold restOk; rw [hce0]; simp)]
      exact Take_check A _ c l rfl hn hc w T hr hb hf hs1 hk1 hbd0 hd hce0
  · rw [hno (by unfold restOk; simp [hd])]
    exact Take_done A _ c l rfl hn hc w T hr hb hf hs1 hk1 hbd0 hd
end Go.Proofs.YtfkfboigkpofkaaDoor.M
end
section
namespace Go.Proofs.YtfkfboigkpofkaaDoor.M
open Go.RowKit Go.Proofs.YtfkfboigkpofkaaDoorW.PrintWords Go.Proofs.YtfkfboigkpofkaaDoorW.PrintLast Go.Proofs.YtfkfboigkpofkaaDoorW.PrintMore Go.Proofs.YtfkfboigkpofkaaDoor.PMsgPuts
def mW : Mg := ⟨4, 1, 0, 5, 0, 4, [], [[120]], []⟩
theorem uv_small {n : Nat} (h : n < 128) : uv n = [(n : Int)] := by rw [uv, if_pos h]
theorem uvI_small {n : Int} (h0 : 0 ≤ n) (h : n < 128) : uvI n = [n] := by
  unfold uvI
  rw [uv_small (by omega)]
  congr 1
  omega
theorem body_W : bodyB mW 4 = [4, 1, 0, 4, 5, 1, 1, 120] := by
  have h1 : fldI 4 = [98, 99, 102, 115] := rfl
  unfold bodyB layB
  rw [h1]
  simp only [List.flatMap_cons, List.flatMap_nil, layF, rowB, textL, textB, mW]
  simp
  rw [uvI_small (by decide) (by decide), uvI_small (by decide) (by decide), show IntKind.u64.wrap 0 = 0 from rfl, uvI_small (by decide) (by decide), uvI_small (by decide) (by decide), uvI_small (by decide) (by decide)]
  decide
def bW : List Int := sumB [4, 1, 0, 4, 5, 1, 1, 120] ++ [4, 1, 0, 4, 5, 1, 1, 120]
theorem taken_W : (takenM bW).1 = mW := by kernel_rfl
theorem check_W : checkM mW 4 = true := by kernel_rfl
def bW2 : List Int := sumB [4, 1, 0, 4, 5, 1, 1, 120] ++ [4, 1, 0, 5, 5, 1, 1, 120]
theorem toL (l : List Int) : (strOfNums l).toList = l.map fun n => UInt8.ofNat n.toNat := by
  rw [ByteArray.toList_eq]
  rfl
theorem sumOk_eq (l : List Int) : sumOk l = (((sumB (l.drop 4)).map fun n => UInt8.ofNat n.toNat) == ((l.take 4).map fun n => UInt8.ofNat n.toNat)) := by
  unfold sumOk
  rw [toL, toL]
theorem sum_W : sumOk bW = true := by rw [sumOk_eq]; kernel_rfl
theorem sum_W2 : sumOk bW2 = false := by rw [sumOk_eq]; kernel_rfl
theorem rest_W : restOk bW = true := by kernel_rfl
theorem known_W : knownB (nR (rs0 bW)).1 = true := by kernel_rfl
theorem take_W : takeM bW = (mW, 0) := by
  unfold takeM
  rw [if_neg (by decide), if_neg (by rw [sum_W]; decide), if_neg (by rw [known_W]; decide), if_neg (by rw [rest_W]; decide), taken_W]
theorem take_W2 : takeM bW2 = (m0 0, 12) := by
  unfold takeM
  rw [if_neg (by decide), if_pos sum_W2]
theorem want_no : checkM ⟨6, 0, 0, 0, 0, 0, [], [], []⟩ 6 = false := by kernel_rfl
theorem want_yes : checkM ⟨6, 0, 0, 1, 0, 0, [], [], []⟩ 6 = true := by kernel_rfl
end Go.Proofs.YtfkfboigkpofkaaDoor.M
end
section
namespace Go.Proofs.YtfkfboigkpofkaaDoor.M
open Go.RowKit Go.Proofs.YtfkfboigkpofkaaDoorW.PrintWords Go.Proofs.YtfkfboigkpofkaaDoorW.PrintLast Go.Proofs.YtfkfboigkpofkaaDoorW.PrintMore Go.Proofs.YtfkfboigkpofkaaDoor.PMsgPuts
set_option linter.unusedVariables false
set_option linter.unusedSimpArgs false
theorem C_none {α : Type} (d : Kd α) (W : World) : Kd.C d W none ([] : List α).length [] := Kd.C_nil d W
theorem C_one (W : World) (g : Nat) (b : Int) {fr : Nat × Nat} (h : W.heap[g]? = some (.cells #[.int .u8 b] 5 fr)) : Kd.C (Kd.int .u8) W (some ⟨g, 0, none⟩) 1 [b] := by
  refine ⟨rfl, by decide, fun _ => ⟨⟨g, 0, none⟩, rfl, fun j p hj => ⟨[.int .u8 p], rfl, rfl, fun i u hu => ?_⟩⟩⟩
  rcases j with _ | j
  · rcases i with _ | i
    · simp only [List.getElem?_cons_zero, Option.some.injEq] at hj hu
      subst hj hu
      have e : (⟨g, 0, none⟩ : Addr).add (0 * (Kd.int .u8).sz + 0) = ⟨g, 0, none⟩ := by rw [add_plain]; simp
      rw [e]
      simp [World.cell?, h]
    · simp at hu
  · simp at hj
theorem C_row1 (W : World) (g : Nat) (A : Option Addr) (l : List Int) (c : Nat) (hc : l.length ≤ c) (h : W.heap[g]? = some (.cells #[.slice A l.length c] 27 (0, 0))) (hC : Kd.C (Kd.int .u8) W A l.length l) : Kd.C (Kd.slice 5 (Kd.int .u8)) W (some ⟨g, 0, none⟩) 1 [l] := by
  refine ⟨rfl, by decide, fun _ => ⟨⟨g, 0, none⟩, rfl, fun j p hj => ?_⟩⟩
  rcases j with _ | j
  · simp only [List.getElem?_cons_zero, Option.some.injEq] at hj
    subst hj
    refine ⟨[.slice A l.length c], rfl, ⟨A, c, rfl, hc, hC⟩, fun i u hu => ?_⟩
    rcases i with _ | i
    · simp only [List.getElem?_cons_zero, Option.some.injEq] at hu
      subst hu
      have e : (⟨g, 0, none⟩ : Addr).add (0 * (Kd.slice 5 (Kd.int .u8)).sz + 0) = ⟨g, 0, none⟩ := by rw [add_plain]; simp
      rw [e]
      exact (blk_cell h 0).trans rfl
    · simp at hu
  · simp at hj
theorem ok_W : mW.Ok := ⟨by unfold U; decide, by unfold U; decide, by unfold U; decide, by unfold U; decide, by simp [mW], by unfold Fits mW; decide, by unfold Fits mW; decide⟩
theorem conv_mark (w : World) (b : Int) : ∃ W', (convert 27 27 (.slice (some ⟨w.heap.size, 0, none⟩) 1 1)).run Tryd.prog (w.alloc (.cells #[.int .u8 b] 5)) = .ok (.slice (some ⟨w.heap.size, 0, none⟩) 1 1) W' ∧ Below w.heap.size w W' ∧ W'.heap.size = w.heap.size + 1 ∧ ∃ fr, W'.heap[w.heap.size]? = some (.cells #[.int .u8 b] 5 fr) := by
  have hsh : (w.alloc (.cells #[.int .u8 b] 5)).shape? w.heap.size = some (5, 1) := by
    simp [World.shape?, World.alloc, -World.alloc_eq]
  refine ⟨(w.alloc (.cells #[.int .u8 b] 5)).freeze ⟨w.heap.size, 1, none⟩ 1, ?_, ?_, ?_, ?_⟩
  · simp [convert, run_underlying Tryd.underlying27, run_underlying Tryd.underlying5, markStringish, hsh, Result.andThen]
  · refine ⟨rfl, rfl, rfl, ?_, fun i hi => ?_⟩
    · simp [World.freeze, World.alloc, -World.alloc_eq]
    · have h1 : w.heap.size ≠ i := by omega
      simp [World.freeze, World.alloc, -World.alloc_eq, Array.getElem?_modify, Array.getElem?_push, h1, Ne.symm h1]
  · simp [World.freeze, World.alloc, -World.alloc_eq]
  · refine ⟨(1, 2), ?_⟩
    simp [World.freeze, World.alloc, -World.alloc_eq]
    rw [Array.getElem_modify_self]
    simp
theorem str4 {w2 : World} {g : Nat} {c : Nat} (h : Kd.C (Kd.int .u8) w2 (some ⟨g, 0, none⟩) bW.length bW) (hc : bW.length ≤ c) :
    (convert 27 9 (.slice (if c = 4 then some ⟨g, 0, none⟩ else some ⟨g, 4, none⟩) (bW.length - 4) (c - 4))).run Tryd.prog w2 = .ok (.string ⟨#[4, 1, 0, 4, 5, 1, 1, 120]⟩) w2 := by
  have h1 := Kd.C_drop (m := 4) h (by decide) hc
  have h2 := Kd.C_string (P := Tryd.prog) (c := c - 4) Tryd.underlying27 Tryd.underlying5 Tryd.underlying9 h1
  have e : strOfNums (bW.drop 4) = ⟨#[4, 1, 0, 4, 5, 1, 1, 120]⟩ := rfl
  rw [e] at h2
  exact h2
theorem bys_sum (l : List Int) : Bys (sumB l) := by
  intro x hx
  simp only [sumB, List.mem_cons, List.not_mem_nil, or_false] at hx
  rcases hx with rfl | rfl | rfl | rfl
  all_goals exact ⟨Int.emod_nonneg _ (by decide), Int.emod_lt_of_pos _ (by decide)⟩
theorem bys_W : Bys bW := bys_app (bys_sum _) (by unfold Bys; decide)
theorem bys_W2 : Bys bW2 := bys_app (bys_sum _) (by unfold Bys; decide)
theorem take1 {A : Option Addr} {c : Nat} {w2 : World} (T : Tabs w2) (h : Kd.C (Kd.int .u8) w2 A bW.length bW) (hc : bW.length ≤ c) : Calls Tryd.prog 17 #[.slice A bW.length c] w2 (TakeP w2 (mW, 0)) := by
  have := Take_calls A c bW hc w2 T h bys_W (by show bW.length < 140737488355328; decide)
  rwa [take_W] at this
theorem take2 {A : Option Addr} {c : Nat} {w2 : World} (T : Tabs w2) (h : Kd.C (Kd.int .u8) w2 A bW2.length bW2) (hc : bW2.length ≤ c) : Calls Tryd.prog 17 #[.slice A bW2.length c] w2 (TakeP w2 (m0 0, 12)) := by
  have := Take_calls A c bW2 hc w2 T h bys_W2 (by show bW2.length < 140737488355328; decide)
  rwa [take_W2] at this
theorem R_at {W : World} {base : Nat} {ok : Nat → Prop} {v : Value} {xs : List Int} (h : Kd.R (Kd.int .u8) 5 W base ok v xs) (hp : 0 < xs.length) : ∃ g c, v = .slice (some ⟨g, 0, none⟩) xs.length c ∧ base ≤ g ∧ g < W.heap.size := by
  rcases (Kd.own_of_R h).2 with ⟨rfl, h0⟩ | ⟨g, cap, cur, rfl, hb, hg, _⟩
  · omega
  · exact ⟨g, cap, rfl, hb, blk_lt hg⟩
theorem at7 {W : World} {base g c : Nat} {ok : Nat → Prop} (h : Kd.R (Kd.int .u8) 5 W base ok (.slice (some ⟨g, 0, none⟩) bW.length c) bW) : W.cell? ⟨g, 7, none⟩ = some (.int .u8 4) := (Kd.R_celln (d := (0 : Int)) h 7 (by decide) (by decide)).1.trans rfl
theorem at7f {W : World} {base g c : Nat} {ok : Nat → Prop} (h : Kd.R (Kd.int .u8) 5 W base ok (.slice (some ⟨g, 0, none⟩) bW.length c) bW) : W.frozen? ⟨g, 7, none⟩ = false := (Kd.R_celln (d := (0 : Int)) h 7 (by decide) (by decide)).2
theorem below4 {w w2 w3 : World} {g : Nat} {o : Obj} {u : Value} {i : Nat} (h : Below w.heap.size w w2) (k : Below w2.heap.size w2 w3) (hg : w.heap.size ≤ g) : Below w.heap.size w ((w3.alloc o).setCell ⟨g, i, none⟩ u) := by
  have h1 := below_alloc (below_step h k) o
  exact ⟨h1.os, h1.tape, h1.output, by simpa [World.setCell] using h1.size, fun j hj => (Below.heap_setCell _ _ _ _ (show j ≠ g by omega)).trans (h1.block j hj)⟩
theorem put7 {W : World} {base g c : Nat} {ok : Nat → Prop} (h : Kd.R (Kd.int .u8) 5 W base ok (.slice (some ⟨g, 0, none⟩) bW.length c) bW) : Kd.C (Kd.int .u8) (W.setCell ⟨g, 7, none⟩ (.int .u8 5)) (some ⟨g, 0, none⟩) bW2.length bW2 :=
  (Kd.R_reads' (Kd.R_putn h 7 5)).2.2
theorem row_after {w2 w3 w5 : World} {g : Nat} {A7 : Option Addr} {n7 c7 : Nat} {O1 O2 : Obj} {u : Value} {i : Nat} (HU : Kd.V (Kd.slice 5 (Kd.int .u8)) 27 w3 w2.heap.size (fun k => w2.heap.size ≤ k) (.slice A7 n7 c7) mW.B) (hg : g < w2.heap.size) (HB5 : Below ((w3.alloc O1).setCell ⟨g, i, none⟩ u).heap.size ((w3.alloc O1).setCell ⟨g, i, none⟩ u) w5) :
    ∃ ad A c, A7 = some ad ∧ (w5.alloc O2).cell? ad = some (.slice A 1 c) ∧ ∀ W, Below (w5.alloc O2).heap.size (w5.alloc O2) W → (convert 27 9 (.slice A 1 c)).run Tryd.prog W = .ok (.string ⟨#[120]⟩) W := by
  have h1 := Kd.V_alloc (Kd.V_below (Kd.V_far (p := ⟨g, i, none⟩) (Kd.V_alloc HU O1) (fun k hk => by show k ≠ g; omega) u) HB5) O2
  obtain ⟨hn, _, hC⟩ := Kd.V_reads' h1
  obtain ⟨ad, A, c, rfl, hx, _, hi⟩ := at_L4 hC 0 (Int.le_refl _) (by decide)
  have e : rd_L4 mW.B 0 = [120] := rfl
  rw [e] at hx hi
  refine ⟨ad, A, c, rfl, ?_, fun W hW => ?_⟩
  · have e2 : ad.add (0 : Int).toNat = ad := by simp [Addr.add]
    rwa [e2] at hx
  · have h2 := Kd.C_string (P := Tryd.prog) (c := c) Tryd.underlying27 Tryd.underlying5 Tryd.underlying9 (Kd.C_below hi hW)
    exact h2.trans rfl
theorem want_calls (f : Int) (b : Bool) (hf : checkM ⟨6, 0, 0, f, 0, 0, [], [], []⟩ 6 = b) (W : World) (T : Tabs W) :
    Calls Tryd.prog 10 #[.agg #[.int .u8 6, .int .u64 0, .int .i64 0, .int .u64 f, .int .u64 0, .int .u64 0, .slice none 0 0, .slice none 0 0, .slice none 0 0]] W fun e w' => e = .returned (.int .i64 (errI b)) ∧ Below W.heap.size W w' := by
  have h := check_m ⟨6, 0, 0, f, 0, 0, [], [], []⟩ 6 rfl (by decide) (show (0 : Nat) < 140737488355328 by decide) none none none 0 0 0 W T ⟨C_none _ _, C_none _ _, C_none _ _⟩ (Nat.le_refl _) (Nat.le_refl _) (Nat.le_refl _)
  rw [hf] at h
  exact h W (Below.refl _ _)
set_option maxHeartbeats 1000000 in
set_option maxRecDepth 100000 in
theorem wakes_calls (w : World) (T : Tabs w) : Calls Tryd.prog 8 #[] w fun e w' => e = .returned (.bool true) ∧ Below w.heap.size w w' := by
  obtain ⟨W1, hcv, hB1, hs1, fr, hh1⟩ := conv_mark w 120
  have hW2 := Aside0.mk (below_alloc hB1 (.cells #[.slice (some ⟨w.heap.size, 0, none⟩) 1 1] 27))
  have hrow := heap_alloc_new W1 (.cells #[.slice (some ⟨w.heap.size, 0, none⟩) 1 1] 27)
  rw [hs1] at hrow
  have hm : mW.At (W1.alloc (.cells #[.slice (some ⟨w.heap.size, 0, none⟩) 1 1] 27)) none (some ⟨w.heap.size + 1, 0, none⟩) none :=
    ⟨C_none _ _, C_row1 _ _ (some ⟨w.heap.size, 0, none⟩) [120] 1 (Nat.le_refl _) hrow (C_one _ _ 120 (blk_alloc hh1 _)), C_none _ _⟩
  have hput : Aside0 (Calls Tryd.prog 11 #[.agg #[.int .u8 4, .int .u64 1, .int .i64 0, .int .u64 5, .int .u64 0, .int .u64 4, .slice none 0 0, .slice (some ⟨w.heap.size + 1, 0, none⟩) 1 1, .slice none 0 0]] (W1.alloc (.cells #[.slice (some ⟨w.heap.size, 0, none⟩) 1 1] 27)) fun e w' => ∃ v, e = .returned (.tuple #[v, .int .i64 0]) ∧ Kd.R (Kd.int .u8) 5 w' w.heap.size (fun _ => True) v bW ∧ Below w.heap.size w w') := by
    have hT := T.below hW2.out
    have hC := check_m mW 4 rfl (by decide) ok_W.fV none (some ⟨w.heap.size + 1, 0, none⟩) none 0 1 0 _ hT hm (Nat.le_refl _) (Nat.le_refl _) (Nat.le_refl _)
    rw [check_W] at hC
    have hbW : putB mW 4 = bW := by unfold putB; rw [body_W]; rfl
    have h := put_yes mW ok_W 4 rfl (by decide) none (some ⟨w.heap.size + 1, 0, none⟩) none 0 1 0 _ hT hm hC (by rw [hbW]; show bW.length < 140737488355328; decide)
    rw [hbW] at h
    refine ⟨h.mono ?_⟩
    rintro e w' ⟨v, rfl, hR, hB⟩
    exact ⟨v, rfl, Kd.R_lower hR hW2.out.size, hW2.out.trans (hB.mono hW2.out.size)⟩
  clear hrow hm hB1 hh1
  have hT := Aside0.mk T
  clear T
  go_enter Tryd.func8, Tryd.ntmps8
  repeat (first
    | ((with_reducible refine gate_callee (f := 11) rfl ?_); (with_reducible refine gate_dst (N := 13) rfl ?_); refine goesL_ (some 13) rfl rfl Tryd.func11 (by kernel_rfl) rfl #[.agg #[.int .u8 4, .int .u64 1, .int .i64 0, .int .u64 5, .int .u64 0, .int .u64 4, .slice none 0 0, .slice (some ⟨w.heap.size + 1, 0, none⟩) 1 1, .slice none 0 0]] rfl (by (try simp only [List.map_toArray, List.map_cons, List.map_nil]); first | done | rfl) ?_; refine (hput.out).mono ?_; rintro e w2 ⟨v, rfl, HR2, HB2⟩; refine ⟨_, rfl, ?_⟩; obtain ⟨g, c, rfl, hgb_, hgs_⟩ := R_at HR2 (by decide); have hgb := Aside0.mk hgb_; have hgs := Aside0.mk hgs_; clear hgb_ hgs_; have HR2' := Aside0.mk HR2; have HB2' := Aside0.mk HB2; have hcv2 := str4 (Kd.R_reads' HR2).2.2 (Kd.R_reads' HR2).2.1; clear HR2 HB2; (try dsimp only))
    | ((with_reducible refine gate_callee (f := 17) rfl ?_); (with_reducible refine gate_dst (N := 31) rfl ?_); refine goesL_ (some 31) rfl rfl Tryd.func17 (by kernel_rfl) rfl #[.slice (some ⟨g, 0, none⟩) bW.length c] rfl (by (try simp only [List.map_toArray, List.map_cons, List.map_nil]); first | done | rfl) ?_; refine (take1 (hT.out.below HB2'.out) (Kd.R_reads' HR2'.out).2.2 (Kd.R_reads' HR2'.out).2.1).mono ?_; rintro e w3 ⟨vV, vB, vS, rfl, HV, HB_, HS, HB3⟩; refine ⟨_, rfl, ?_⟩; obtain ⟨A6, c6, rfl⟩ := Kd.V_slice HV; obtain ⟨A7, c7, rfl⟩ := Kd.V_slice HB_; obtain ⟨A8, c8, rfl⟩ := Kd.V_slice HS; have HR3 := Aside0.mk (Kd.R_alloc (Kd.R_below HR2'.out HB3) (.cells #[.int .u8 mW.k, .int .u64 mW.n, .int .i64 mW.r, .int .u64 mW.first, .int .u64 mW.last, .int .u64 mW.commit, .slice A6 mW.V.length c6, .slice A7 mW.B.length c7, .slice A8 mW.S.length c8] 29)); have hb7 := at7 HR3.out; have hf7 := at7f HR3.out; have HU3 := Aside0.mk HB_; have HB3' := Aside0.mk HB3; clear HV HB_ HS HB3 hcv2; (try dsimp only))
    | ((with_reducible refine gate_callee (f := 17) rfl ?_); (with_reducible refine gate_dst (N := 41) rfl ?_); refine goesL_ (some 41) rfl rfl Tryd.func17 (by kernel_rfl) rfl #[.slice (some ⟨g, 0, none⟩) bW.length c] rfl (by (try simp only [List.map_toArray, List.map_cons, List.map_nil]); first | done | rfl) ?_; refine (take2 (hT.out.below (below4 HB2'.out HB3'.out hgb.out)) (put7 HR3.out) (Kd.R_reads' HR3.out).2.1).mono ?_; rintro e w5 ⟨vV, vB, vS, rfl, HV, HB_, HS, HB5⟩; refine ⟨_, rfl, ?_⟩; obtain ⟨B6, d6, rfl⟩ := Kd.V_slice HV; obtain ⟨B7, d7, rfl⟩ := Kd.V_slice HB_; obtain ⟨B8, d8, rfl⟩ := Kd.V_slice HS; have hgl : g ≠ w3.heap.size := Nat.ne_of_lt (Nat.lt_of_lt_of_le hgs.out HB3'.out.size); have hbx := Aside0.mk (blk_alloc (blk_below (blk_set_far (heap_alloc_new w3 (.cells #[.int .u8 mW.k, .int .u64 mW.n, .int .i64 mW.r, .int .u64 mW.first, .int .u64 mW.last, .int .u64 mW.commit, .slice A6 mW.V.length c6, .slice A7 mW.B.length c7, .slice A8 mW.S.length c8] 29)) hgl.symm 7 (.int .u8 5)) HB5) (.cells #[.int .u8 (m0 0).k, .int .u64 (m0 0).n, .int .i64 (m0 0).r, .int .u64 (m0 0).first, .int .u64 (m0 0).last, .int .u64 (m0 0).commit, .slice B6 (m0 0).V.length d6, .slice B7 (m0 0).B.length d7, .slice B8 (m0 0).S.length d8] 29)); have hx0 : (w5.alloc (.cells #[.int .u8 (m0 0).k, .int .u64 (m0 0).n, .int .i64 (m0 0).r, .int .u64 (m0 0).first, .int .u64 (m0 0).last, .int .u64 (m0 0).commit, .slice B6 (m0 0).V.length d6, .slice B7 (m0 0).B.length d7, .slice B8 (m0 0).S.length d8] 29)).cell? ⟨w3.heap.size, 0, none⟩ = some (.int .u8 4) := (blk_cell hbx.out 0).trans rfl; have hx4 : (w5.alloc (.cells #[.int .u8 (m0 0).k, .int .u64 (m0 0).n, .int .i64 (m0 0).r, .int .u64 (m0 0).first, .int .u64 (m0 0).last, .int .u64 (m0 0).commit, .slice B6 (m0 0).V.length d6, .slice B7 (m0 0).B.length d7, .slice B8 (m0 0).S.length d8] 29)).cell? ⟨w3.heap.size, 5, none⟩ = some (.int .u64 4) := (blk_cell hbx.out 5).trans rfl; have hx2 : (w5.alloc (.cells #[.int .u8 (m0 0).k, .int .u64 (m0 0).n, .int .i64 (m0 0).r, .int .u64 (m0 0).first, .int .u64 (m0 0).last, .int .u64 (m0 0).commit, .slice B6 (m0 0).V.length d6, .slice B7 (m0 0).B.length d7, .slice B8 (m0 0).S.length d8] 29)).cell? ⟨w3.heap.size, 3, none⟩ = some (.int .u64 5) := (blk_cell hbx.out 3).trans rfl; have hx6 : (w5.alloc (.cells #[.int .u8 (m0 0).k, .int .u64 (m0 0).n, .int .i64 (m0 0).r, .int .u64 (m0 0).first, .int .u64 (m0 0).last, .int .u64 (m0 0).commit, .slice B6 (m0 0).V.length d6, .slice B7 (m0 0).B.length d7, .slice B8 (m0 0).S.length d8] 29)).cell? ⟨w3.heap.size, 7, none⟩ = some (.slice A7 1 c7) := (blk_cell hbx.out 7).trans rfl; obtain ⟨ad7, A71, c71, rfl, hq7, hcx_⟩ := row_after (O2 := (.cells #[.int .u8 (m0 0).k, .int .u64 (m0 0).n, .int .i64 (m0 0).r, .int .u64 (m0 0).first, .int .u64 (m0 0).last, .int .u64 (m0 0).commit, .slice B6 (m0 0).V.length d6, .slice B7 (m0 0).B.length d7, .slice B8 (m0 0).S.length d8] 29)) HU3.out hgs.out HB5; have hcx0 := hcx_ _ (Below.refl _ _); have hcx := Aside0.mk hcx_; clear hcx_; have HBe := Aside0.mk (below_alloc (below_step (below4 HB2'.out HB3'.out hgb.out) HB5) (.cells #[.int .u8 (m0 0).k, .int .u64 (m0 0).n, .int .i64 (m0 0).r, .int .u64 (m0 0).first, .int .u64 (m0 0).last, .int .u64 (m0 0).commit, .slice B6 (m0 0).V.length d6, .slice B7 (m0 0).B.length d7, .slice B8 (m0 0).S.length d8] 29)); clear HV HB_ HS HB5 hb7 hf7; (try dsimp only))
    | ((with_reducible refine Calls.mono (want_calls 0 false want_no _ (hT.out.below HBe.out)) ?_); rintro e w6 ⟨rfl, HB6⟩; have HBf := Aside0.mk (below_step HBe.out HB6); clear HB6; (try dsimp only))
    | ((with_reducible refine Calls.mono (want_calls 1 true want_yes _ (hT.out.below HBf.out)) ?_); rintro e w7 ⟨rfl, HB7⟩; have HBg := Aside0.mk (below_step HBf.out HB7); clear HB7; (try dsimp only))
    | go_step)
  go_ret
  exact ⟨rfl, HBg.out⟩
end Go.Proofs.YtfkfboigkpofkaaDoor.M
end
section
namespace Go.Proofs.YtfkfboigkpofkaaDoor.M
open Go.RowKit Go.Proofs.YtfkfboigkpofkaaDoorW.PrintWords Go.Proofs.YtfkfboigkpofkaaDoorW.PrintLast Go.Proofs.YtfkfboigkpofkaaDoorW.PrintMore Go.Proofs.YtfkfboigkpofkaaDoor.PMsgPuts
set_option linter.unusedVariables false
set_option linter.unusedSimpArgs false
theorem uv_len : ∀ (j n : Nat), n < 128 ^ (j + 1) → (uv n).length ≤ j + 1
  | 0, n, h => by
    rw [uv_small (by simpa using h)]
    exact Nat.le_refl _
  | j + 1, n, h => by
    by_cases h1 : n < 128
    · rw [uv_small h1]
      show 1 ≤ _
      omega
    · rw [uv, if_neg h1, List.length_cons]
      have := uv_len j (n / 128) (by rw [Nat.div_lt_iff_lt_mul (by decide)]; rwa [Nat.pow_succ] at h)
      omega
theorem pow10 : (18446744073709551616 : Nat) ≤ 128 ^ 10 := by decide
theorem uvI_len {a : Int} (h : U a) : (uvI a).length ≤ 10 := uv_len 9 _ (by have := pow10; have := h.2; have := h.1; omega)
theorem textL_len {l : List Int} (h : l.length ≤ 1000000) : (textL l).length ≤ 10 + l.length := by
  unfold textL textB
  have e := sON_size l
  have hu : U ((strOfNums l).size : Int) := by unfold U; omega
  have := uvI_len hu
  have e2 : (bytesOf (strOfNums l)).length = (strOfNums l).size := by
    unfold bytesOf
    rw [List.length_map]
    rfl
  rw [List.length_append, e2]
  omega
theorem voteB_len {x : S52} (h : x.f2.length ≤ 1000000) (hu : U x.f0) (hn : U x.f1.f0) : (voteB x).length ≤ 40 + x.f2.length := by
  unfold voteB
  have := textL_len h
  have := uvI_len hu
  have := uvI_len hn
  have := uvI_len (U.wrap x.f1.f1)
  simp only [List.length_append]
  omega
theorem flat_len {α : Type} (f : α → List Int) (b : Nat) : ∀ (l : List α), (∀ x ∈ l, (f x).length ≤ b) → (l.flatMap f).length ≤ l.length * b
  | [], _ => by simp
  | x :: l, h => by
    rw [List.flatMap_cons, List.length_append, List.length_cons, Nat.succ_mul]
    have := flat_len f b l (fun y hy => h y (List.mem_cons_of_mem _ hy))
    have := h x (List.mem_cons_self ..)
    omega
structure Small (m : Mg) : Prop where
  nV : m.V.length ≤ 5000
  nB : m.B.length ≤ 5000
  nS : m.S.length ≤ 5000
  V : ∀ x ∈ m.V, x.f2.length ≤ 5000
  B : ∀ x ∈ m.B, x.length ≤ 5000
section
variable (m : Mg) (s : ByteArray) (i : Int)
end
theorem lay_len (m : Mg) (hs : Small m) (hok : m.Ok) (c : Int) : (layF m c).length ≤ 30000000 := by
  have h1 := uvI_len hok.n
  have h2 := uvI_len (U.wrap m.r)
  have h3 := uvI_len hok.commit
  have h4 := uvI_len hok.first
  have h5 := uvI_len hok.last
  have h6 := textL_len (l := m.S) (by have := hs.nS; omega)
  have h7 := flat_len textL 5010 m.B (fun x hx => by have := hs.B x hx; have := textL_len (l := x) (by omega); omega)
  have h8 := flat_len voteB 5040 m.V (fun x hx => by have := hs.V x hx; have := voteB_len (x := x) (by omega) (hok.V x hx).1 (hok.V x hx).2; omega)
  have h9 := uvI_len (a := (m.B.length : Int)) (by have := hs.nB; unfold U; omega)
  have h10 := uvI_len (a := (m.V.length : Int)) (by have := hs.nV; unfold U; omega)
  have hv := hs.nV
  have hb := hs.nB
  have hS := hs.nS
  have h11 : m.B.length * 5010 ≤ 5000 * 5010 := Nat.mul_le_mul_right _ hb
  have h12 : m.V.length * 5040 ≤ 5000 * 5040 := Nat.mul_le_mul_right _ hv
  unfold layF rowB rowV
  repeat' split
  all_goals (try simp only [List.length_append])
  all_goals first | omega | simp
end Go.Proofs.YtfkfboigkpofkaaDoor.M
end
section
namespace Go.Proofs.YtfkfboigkpofkaaDoor.M
open Go.RowKit Go.Proofs.YtfkfboigkpofkaaDoorW.PrintWords Go.Proofs.YtfkfboigkpofkaaDoorW.PrintLast Go.Proofs.YtfkfboigkpofkaaDoorW.PrintMore Go.Proofs.YtfkfboigkpofkaaDoor.PMsgPuts
set_option linter.unusedVariables false
set_option linter.unusedSimpArgs false
structure Lies (m : Mg) (W : World) (A6 A7 A8 : Option Addr) (c6 c7 c8 : Nat) : Prop where
  at_ : m.At W A6 A7 A8
  h6 : m.V.length ≤ c6
  h7 : m.B.length ≤ c7
  h8 : m.S.length ≤ c8
theorem Lies.below {m : Mg} {W W' : World} {A6 A7 A8 : Option Addr} {c6 c7 c8 : Nat} (h : Lies m W A6 A7 A8 c6 c7 c8) (hb : Below W.heap.size W W') : Lies m W' A6 A7 A8 c6 c7 c8 := ⟨h.at_.below hb, h.h6, h.h7, h.h8⟩
structure Whole (m : Mg) (k : Nat) : Prop where
  ok : m.Ok
  hk : m.k = k
  k8 : k < 256
theorem check_at (m : Mg) (k : Nat) (hw : Whole m k) (A6 A7 A8 : Option Addr) (c6 c7 c8 : Nat) (W : World) (T : Tabs W) (h : Lies m W A6 A7 A8 c6 c7 c8) : Calls Tryd.prog 10 #[.agg (m.cells A6 A7 A8 c6 c7 c8)] W fun e w' => e = .returned (.int .i64 (errI (checkM m k))) ∧ Below W.heap.size W w' :=
  check_m m k hw.hk hw.k8 hw.ok.fV A6 A7 A8 c6 c7 c8 W T h.at_ h.h6 h.h7 h.h8 W (Below.refl _ _)
theorem checks_at (m : Mg) (k : Nat) (hw : Whole m k) (A6 A7 A8 : Option Addr) (c6 c7 c8 : Nat) (W : World) (T : Tabs W) (h : Lies m W A6 A7 A8 c6 c7 c8) : Checks W #[.agg (m.cells A6 A7 A8 c6 c7 c8)] (checkM m k) :=
  check_m m k hw.hk hw.k8 hw.ok.fV A6 A7 A8 c6 c7 c8 W T h.at_ h.h6 h.h7 h.h8
theorem put_at_no (m : Mg) (k : Nat) (hw : Whole m k) (hc : checkM m k = false) (A6 A7 A8 : Option Addr) (c6 c7 c8 : Nat) (W : World) (T : Tabs W) (h : Lies m W A6 A7 A8 c6 c7 c8) : Calls Tryd.prog 11 #[.agg (m.cells A6 A7 A8 c6 c7 c8)] W fun e w' => e = .returned (.tuple #[.slice none 0 0, .int .i64 1]) ∧ Below W.heap.size W w' := by
  have hC := checks_at m k hw A6 A7 A8 c6 c7 c8 W T h
  rw [hc] at hC
  exact put_no m k hw.hk A6 A7 A8 c6 c7 c8 W hC
theorem known_of_check {m : Mg} {k : Nat} (hc : checkM m k = true) : 1 ≤ k ∧ k < 9 := by
  have h : knownB k = true := by
    unfold checkM checkB at hc
    simp only [Bool.and_eq_true] at hc
    exact hc.1.1.1.1.1.1.1.1.1.1
  have := of_decide_eq_true h
  omega
theorem body_len (m : Mg) (hs : Small m) (hok : m.Ok) (k : Nat) (hk : k < 9) : (bodyB m k).length < 200000000 := by
  unfold bodyB layB
  have h1 := flat_len (layF m) 30000000 (fldI k) (fun c _ => lay_len m hs hok c)
  have hl4 : (fldI k).length ≤ 4 := by unfold fldI; rw [List.length_map]; unfold fld; split <;> decide
  have h2 := Nat.mul_le_mul_right 30000000 hl4
  have h3 := uvI_len (a := (k : Int)) (by unfold U; omega)
  rw [List.length_append]
  omega
theorem putB_len (m : Mg) (hs : Small m) (hok : m.Ok) (k : Nat) (hk : k < 9) : (putB m k).length < 200000010 := by
  have := body_len m hs hok k hk
  unfold putB
  rw [List.length_append]
  show 4 + _ < _
  omega
theorem put_at (m : Mg) (k : Nat) (hw : Whole m k) (hs : Small m) (hc : checkM m k = true) (A6 A7 A8 : Option Addr) (c6 c7 c8 : Nat) (W : World) (T : Tabs W) (h : Lies m W A6 A7 A8 c6 c7 c8) : Calls Tryd.prog 11 #[.agg (m.cells A6 A7 A8 c6 c7 c8)] W fun e w' => ∃ A c, e = .returned (.tuple #[.slice A (putB m k).length c, .int .i64 0]) ∧ Kd.C (Kd.int .u8) w' A (putB m k).length (putB m k) ∧ Below W.heap.size W w' := by
  have hC := checks_at m k hw A6 A7 A8 c6 c7 c8 W T h
  rw [hc] at hC
  have hk := known_of_check hc
  refine (put_yes m hw.ok k hw.hk hk.2 A6 A7 A8 c6 c7 c8 W T h.at_ hC (by have := putB_len m hs hw.ok k hk.2; unfold Fits; omega)).mono ?_
  rintro e w' ⟨v, rfl, hR, hb⟩
  obtain ⟨A, c, rfl, _, hr⟩ := Kd.R_reads hR
  exact ⟨A, c, rfl, hr, hb⟩
theorem wakes_at (w W : World) (T : Tabs w) (hb : Below w.heap.size w W) : Calls Tryd.prog 8 #[] W fun e w' => e = .returned (.bool true) ∧ Below W.heap.size W w' := wakes_calls W (T.below hb)
end Go.Proofs.YtfkfboigkpofkaaDoor.M
end
