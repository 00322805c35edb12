/- Parts of a proof, pruned and joined by flat.py out of: MR, OA. -/
import Derived.Test.YtfkfboigkpofkaaDoorCOwn7
section
namespace Go.Proofs.YtfkfboigkpofkaaDoor.M
open Go.RowKit Go.Proofs.YtfkfboigkpofkaaDoorW.PrintWords Go.Proofs.YtfkfboigkpofkaaDoorW.PrintLast Go.Proofs.YtfkfboigkpofkaaDoorW.PrintMore Go.Proofs.YtfkfboigkpofkaaDoor.PMsgPuts
set_option linter.unusedVariables false
set_option linter.unusedSimpArgs false
theorem many_len {α : Type} (one : TS → α × TS) : ∀ (n : Nat) (s : TS), (manyT one n s).1.length = n
  | 0, _ => rfl
  | n + 1, s => congrArg (· + 1) (many_len one n (one s).2)
theorem rows_len (s : TS) : (rowsT voteT 256 s).1.length ≤ 256 := by
  unfold rowsT
  split
  · simp
  · rw [many_len]
    omega
theorem takeF_V (c : Int) (p : Mg × TS) (h : p.1.V.length ≤ 256) : (takeF c p).1.V.length ≤ 256 := by
  unfold takeF
  repeat' split
  all_goals first | exact h | exact rows_len _
theorem takes_V : ∀ (l : List Int) (p : Mg × TS), p.1.V.length ≤ 256 → (takesF l p).1.V.length ≤ 256
  | [], _, h => h
  | c :: l, p, h => takes_V l (takeF c p) (takeF_V c p h)
theorem start_Tk {w w3 : World} {X : Option Addr} {n c : Nat} {l : List Int} (hB : Below w.heap.size w w3) (hl : (l.drop 4).length = n - 4) (hn : l.length = n) (hc : n ≤ c) (hr : Kd.C (Kd.int .u8) w X (l.drop 4).length (l.drop 4)) :
    Tk w ((w3.alloc (.cells #[.int .i64 0, .slice X (n - 4) (c - 4), .int .i64 n] 99)).alloc (.cells #[.pointer (some ⟨w3.heap.size, 0, none⟩), .bool false] 73)) (w3.heap.size + 1) w3.heap.size ⟨rs0 l, false⟩ := by
  refine ⟨⟨hB.size, below_alloc (below_alloc hB _) _, X, c - 4, ?_, ?_, hr⟩, ?_, Nat.le_succ_of_le hB.size, Nat.ne_of_lt (Nat.lt_succ_self _)⟩
  · have h1 := blk_alloc (heap_alloc_new w3 (.cells #[.int .i64 0, .slice X (n - 4) (c - 4), .int .i64 n] 99)) (.cells #[.pointer (some ⟨w3.heap.size, 0, none⟩), .bool false] 73)
    have e : (.cells #[.int .i64 (rs0 l).e, .slice X (rs0 l).l.length (c - 4), .int .i64 (rs0 l).lim] 99 (0, 0) : Obj) = .cells #[.int .i64 0, .slice X (n - 4) (c - 4), .int .i64 n] 99 (0, 0) := by
      show (.cells #[.int .i64 0, .slice X (l.drop 4).length (c - 4), .int .i64 l.length] 99 (0, 0) : Obj) = _
      rw [hl, hn]
    rw [e]
    exact h1
  · show (l.drop 4).length ≤ c - 4
    omega
  · have := heap_alloc_new (w3.alloc (.cells #[.int .i64 0, .slice X (n - 4) (c - 4), .int .i64 n] 99)) (.cells #[.pointer (some ⟨w3.heap.size, 0, none⟩), .bool false] 73)
    simpa using this
set_option maxHeartbeats 1000000 in
set_option maxRecDepth 100000 in
theorem Take_form (A : Option Addr) (n c : Nat) (l : List Int) (hl : l.length = n) (hn : 5 ≤ n) (hc : n ≤ c) (w : World) (T : Tabs w) (hr : Kd.C (Kd.int .u8) w A n l) (hb : Bys l) (hf : Fits n) (hOk : sumOk l = true) (hkk : knownB (nR (rs0 l)).1 = false) :
    Calls Tryd.prog 17 #[.slice A n c] w (TakeP w (m0 0, 11)) := by
  have hn1 : (5 : Int) ≤ n := by omega
  have c0 : decide ((n : Int) < 5) = false := decide_eq_false (by omega)
  have hn2 : 4 ≤ n := by omega
  have hn3 : (n : Int) < 140737488355328 := by have := hf; unfold Fits at this; omega
  have hcn : n ≤ c := hc
  have hm1 : (4 ≤ (n : Int)) = True := eq_true (by omega)
  have hm2 : (4 ≤ (c : Int)) = True := eq_true (by omega)
  have hcn4 : 4 ≤ c := by omega
  have e4 : (l.drop 4).length = n - 4 := by rw [List.length_drop, hl]
  have hDr : Kd.C (Kd.int .u8) w (if c = 4 then A else Option.map (fun x => (⟨x.block, x.off + 4, none⟩ : Addr)) A) (l.drop 4).length (l.drop 4) := by
    have := Kd.C_drop (m := 4) (c := c) (by rw [hl]; exact hr) (by omega) (by omega)
    exact this
  have hTk : Kd.C (Kd.int .u8) w A 4 (l.take 4) := by
    have := Kd.C_take (m := 4) (by rw [hl]; exact hr) (by omega)
    rwa [show (l.take 4).length = 4 from by simp; omega] at this
  have hbd : Bys (l.drop 4) := fun x hx => hb x (List.mem_of_mem_drop hx)
  have hfd : Fits (l.drop 4).length := by unfold Fits at *; omega
  have hSum : Aside0 (∀ W, Below w.heap.size w W → Calls Tryd.prog 27 #[.slice (if c = 4 then A else Option.map (fun x => (⟨x.block, x.off + 4, none⟩ : Addr)) A) (n - 4) (c - 4)] W fun e w' => ∃ g, W.heap.size ≤ g ∧ e = .returned (.slice (some ⟨g, 0, none⟩) 4 4) ∧ w'.heap[g]? = some (.cells (nums .u8 (sumB (l.drop 4))).toArray 5 (0, 0)) ∧ Below W.heap.size W w') := by
    refine ⟨fun W hW => ?_⟩
    have := sum_calls (if c = 4 then A else Option.map (fun x => (⟨x.block, x.off + 4, none⟩ : Addr)) A) (c - 4) (l.drop 4) W (T.below hW) (Kd.C_below hDr hW) hbd hfd
    rwa [e4] at this
  have hEq : Aside0 (∀ (g : Nat) (W : World), Below w.heap.size w W → W.heap[g]? = some (.cells (nums .u8 (sumB (l.drop 4))).toArray 5 (0, 0)) → Calls Tryd.prog 35 #[.slice (some ⟨g, 0, none⟩) 4 4, .slice A 4 c] W fun e w' => e = .returned (.bool true) ∧ Below W.heap.size W w') := by
    refine ⟨fun g W hW hg => ?_⟩
    have h1 := (Kd.R_reads' (Kd.R_of_own (enc := Value.int .u8) (h1 := fun _ => rfl) (ok := fun _ => True) (own_four hg (Nat.zero_le g)) (fun _ _ => trivial))).2.2
    have h2 := Kd.C_below hTk hW
    have h3 : (l.take 4).length = 4 := by simp; omega
    have := bytes_Equal.calls (some ⟨g, 0, none⟩) 4 (sumB (l.drop 4)) A c (l.take 4) true W h1 (Nat.le_refl _) (by rw [h3]; exact h2) (by omega) (by unfold bytes_Equal.f; rw [← hOk]; rfl)
    rw [h3] at this
    refine this.mono ?_
    rintro e w' ⟨rfl, hD⟩
    exact ⟨rfl, below_drawn hD⟩
  obtain ⟨kd, s1, hks⟩ : ∃ kd s1, nR (rs0 l) = (kd, s1) := ⟨_, _, rfl⟩
  have hU : U kd := by have := nR_U (s := rs0 l) hbd; rwa [hks] at this
  rw [hks] at hkk
  have hkn : Aside0 (knownB kd = false) := ⟨hkk⟩
  have hk0 := Aside0.mk hU.1
  have hDr2 : Kd.C (Kd.int .u8) w (Option.map (fun x => (⟨x.block, x.off + 4, none⟩ : Addr)) A) (l.drop 4).length (l.drop 4) := by
    have := hDr
    rwa [if_neg (by omega)] at this
  have hNum : Aside0 (∀ (g : Nat) (V : World), Rd w V g (rs0 l) → Calls Tryd.prog 37 #[.pointer (some ⟨g, 0, none⟩)] V fun e w' => e = .returned (.int .u64 kd) ∧ Rd w w' g s1 ∧ V.grownBy w' (some g)) := ⟨fun g V hV => num_at w g hfd hbd hks V hV⟩
  have hStart : Aside0 (∀ (w3 : World), Below w.heap.size w w3 → Tk w ((w3.alloc (.cells #[.int .i64 0, .slice (Option.map (fun x => (⟨x.block, x.off + 4, none⟩ : Addr)) A) (n - 4) (c - 4), .int .i64 n] 99)).alloc (.cells #[.pointer (some ⟨w3.heap.size, 0, none⟩), .bool false] 73)) (w3.heap.size + 1) w3.heap.size ⟨rs0 l, false⟩) := ⟨fun w3 hB => start_Tk hB e4 hl hc hDr2⟩
  have hTab := Aside0.mk T
  have hX := Aside0.mk (heap_alloc_new w (.cells #[.int .u8 0, .int .u64 0, .int .i64 0, .int .u64 0, .int .u64 0, .int .u64 0, .slice none 0 0, .slice none 0 0, .slice none 0 0] 29))
  clear hr hf hb hOk T hl hn hc hDr hDr2 hTk hbd hfd e4 hks hU hkk
  go_enter Tryd.func17, Tryd.ntmps17
  go_wp2
  have hX1 := Aside0.mk (blk_drew hX.out)
  have hW1 := Aside0.mk (below_drew1 (bel1 w (.cells #[.int .u8 0, .int .u64 0, .int .i64 0, .int .u64 0, .int .u64 0, .int .u64 0, .slice none 0 0, .slice none 0 0, .slice none 0 0] 29)))
  refine start_ (n := 8) (S := fun _ => True) (ds := []) #[false, false, false, false, false, false, false, false] (by kernel_rfl) rfl rfl trivial (fun hHeld => ?_)
  refine pure_ (i := 0) (N := some 13) (v := ?_) (a' := ?_) #[true, false, false, false, false, false, false, false] rfl rfl (by kernel_rfl) (fun _ _ _ h => h) (Or.inl ⟨by rfl, ?_⟩) ?_ ?_
  rotate_left
  · intro w'
    go_simp
    with_reducible rfl
  rotate_left
  · simp only [Act.put, List.setIfInBounds_toArray, List.set_cons_zero, List.set_cons_succ, i64_w, i32_w]
    rfl
  refine pure_ (i := 3) (N := some 16) (v := ?_) (a' := ?_) #[true, false, false, true, false, false, false, false] rfl rfl (by kernel_rfl) (fun _ _ _ h => h) (Or.inl ⟨by rfl, ?_⟩) ?_ ?_
  rotate_left
  · intro w'
    go_simp
    with_reducible rfl
  rotate_left
  · simp only [Act.put, List.setIfInBounds_toArray, List.set_cons_zero, List.set_cons_succ, i64_w, i32_w]
    rfl
  refine pure_ (i := 1) (N := some 14) (v := ?_) (a' := ?_) #[true, true, false, true, false, false, false, false] rfl rfl (by kernel_rfl) (fun _ _ _ h => h) (Or.inl ⟨by rfl, ?_⟩) ?_ ?_
  rotate_left
  · intro w'
    go_simp
    with_reducible rfl
  rotate_left
  · simp only [Act.put, List.setIfInBounds_toArray, List.set_cons_zero, List.set_cons_succ, i64_w, i32_w]
    rfl
  refine pure_ (i := 4) (N := some 17) (v := ?_) (a' := ?_) #[true, true, false, true, true, false, false, false] rfl rfl (by kernel_rfl) (fun _ _ _ h => h) (Or.inl ⟨by rfl, ?_⟩) ?_ ?_
  rotate_left
  · intro w'
    go_simp
    with_reducible rfl
  rotate_left
  · simp only [Act.put, List.setIfInBounds_toArray, List.set_cons_zero, List.set_cons_succ, i64_w, i32_w]
    rfl
  refine one_ (i := 2) (N := some 15) #[true, true, true, true, true, false, false, false] rfl rfl (by kernel_rfl) (by decide) (fun K hK => ?_)
  refine goes_ Tryd.func27 (by kernel_rfl) rfl #[.slice (if c = 4 then A else Option.map (fun x => (⟨x.block, x.off + 4, none⟩ : Addr)) A) (n - 4) (c - 4)] (by rfl) rfl rfl (by (try simp only [List.map_toArray, List.map_cons, List.map_nil]); first | done | rfl) ?_
  refine (hSum.out _ hW1.out).mono ?_
  rintro e w2 ⟨g2, hg2, rfl, hh2, hB2⟩
  refine ⟨_, rfl, ?_⟩
  have hB2' := Aside0.mk (hW1.out.trans (hB2.mono hW1.out.size))
  have hX2 := Aside0.mk (blk_below hX1.out hB2)
  have hg2' := Aside0.mk hh2
  clear hB2 hh2
  refine hK.out _ _ trivial (fun hHeld => ?_)
  clear hK K
  refine norm_ (a' := ?_) ?_ ?_
  rotate_left
  · show Act.put _ (some 15) _ = _
    simp only [Act.put, List.setIfInBounds_toArray, List.set_cons_zero, List.set_cons_succ, i64_w, i32_w]
    rfl
  refine one_ (i := 5) (N := some 18) #[true, true, true, true, true, true, false, false] rfl rfl (by kernel_rfl) (by decide) (fun K hK => ?_)
  refine goes_ Tryd.func35 (by kernel_rfl) rfl #[.slice (some ⟨g2, 0, none⟩) 4 4, .slice A 4 c] (by rfl) rfl rfl (by (try simp only [List.map_toArray, List.map_cons, List.map_nil]); first | done | rfl) ?_
  refine (hEq.out g2 w2 hB2'.out hg2'.out).mono ?_
  rintro e w3 ⟨rfl, hD3⟩
  refine ⟨_, rfl, ?_⟩
  have hB3 := Aside0.mk (hB2'.out.trans (hD3.mono hB2'.out.size))
  have hX3 := Aside0.mk (blk_below hX2.out hD3)
  clear hD3 hX2 hB2' hg2'
  refine hK.out _ _ trivial (fun hHeld => ?_)
  clear hK K
  refine norm_ (a' := ?_) ?_ ?_
  rotate_left
  · show Act.put _ (some 18) _ = _
    simp only [Act.put, List.setIfInBounds_toArray, List.set_cons_zero, List.set_cons_succ, i64_w, i32_w]
    rfl
  refine pure_ (i := 6) (N := some 19) (v := ?_) (a' := ?_) #[true, true, true, true, true, true, true, false] rfl rfl (by kernel_rfl) (fun _ _ _ h => h) (Or.inl ⟨by rfl, ?_⟩) ?_ ?_
  rotate_left
  · intro w'
    go_simp
    with_reducible rfl
  rotate_left
  · simp only [Act.put, List.setIfInBounds_toArray, List.set_cons_zero, List.set_cons_succ, i64_w, i32_w]
    rfl
  refine pure_ (i := 7) (N := some 12) (v := ?_) (a' := ?_) #[true, true, true, true, true, true, true, true] rfl rfl (by kernel_rfl) (fun _ _ _ h => h) (Or.inl ⟨by rfl, ?_⟩) ?_ ?_
  rotate_left
  · intro w'
    go_simp
    with_reducible rfl
  rotate_left
  · simp only [Act.put, List.setIfInBounds_toArray, List.set_cons_zero, List.set_cons_succ, i64_w, i32_w]
    rfl
  refine done_ (by kernel_rfl) ?_

  repeat (first
    | ((with_reducible refine gate_callee (f := 36) rfl ?_); (with_reducible refine gate_dst (N := 25) rfl ?_); refine goesL_ (some 25) rfl rfl Tryd.func36 (by kernel_rfl) rfl #[.slice (Option.map (fun x => (⟨x.block, x.off + 4, none⟩ : Addr)) A) (n - 4) (c - 4), .int .i64 n] rfl (by (try simp only [List.map_toArray, List.map_cons, List.map_nil]); first | done | rfl) ?_; refine (newr_calls _ _ _ _ _).mono ?_; rintro e w4 ⟨rfl, rfl⟩; refine ⟨_, rfl, ?_⟩; have hTk5 := hStart.out _ hB3.out; have ht0 := (blk_cell hTk5.box 0).trans rfl; (try dsimp only))
    | ((with_reducible refine gate_callee (f := 37) rfl ?_); (with_reducible refine gate_dst (N := 32) rfl ?_); refine goesL_ (some 32) rfl rfl Tryd.func37 (by kernel_rfl) rfl #[.pointer (some ⟨w3.heap.size, 0, none⟩)] rfl (by (try simp only [List.map_toArray, List.map_cons, List.map_nil]); first | done | rfl) ?_; refine (hNum.out _ _ hTk5.rd).mono ?_; rintro e w5 ⟨rfl, HR5, G5⟩; refine ⟨_, rfl, ?_⟩; have hT5 := Aside0.mk (hTk5.read HR5 G5); have hX5 := Aside0.mk (blk_grown (blk_alloc (blk_alloc hX3.out _) _) G5 (fun e => Nat.lt_irrefl _ (Nat.lt_of_lt_of_le (blk_lt hX3.out) (Nat.le_of_eq (Option.some.inj e).symm)))); have hB5 := Aside0.mk ((below_alloc (below_alloc hB3.out _) _).trans (grown_bel G5 hB3.out.size (Nat.le_trans hB3.out.size (by simp; omega)))); have G5' := Aside0.mk G5; clear HR5 G5 ht0 hTk5; have hz0 := (blk_cell hX5.out 0).trans rfl; have hy0 := blk_frozen hX5.out 0; have hz1 := (blk_cell hX5.out 1).trans rfl; have hy1 := blk_frozen hX5.out 1; have hz2 := (blk_cell hX5.out 2).trans rfl; have hy2 := blk_frozen hX5.out 2; have hz3 := (blk_cell hX5.out 3).trans rfl; have hy3 := blk_frozen hX5.out 3; have hz4 := (blk_cell hX5.out 4).trans rfl; have hy4 := blk_frozen hX5.out 4; have hz5 := (blk_cell hX5.out 5).trans rfl; have hy5 := blk_frozen hX5.out 5; have hz6 := (blk_cell hX5.out 6).trans rfl; have hy6 := blk_frozen hX5.out 6; have hz7 := (blk_cell hX5.out 7).trans rfl; have hy7 := blk_frozen hX5.out 7; have hz8 := (blk_cell hX5.out 8).trans rfl; have hy8 := blk_frozen hX5.out 8; (try dsimp only))
    | ((with_reducible refine gate_callee (f := 20) rfl ?_); (with_reducible refine gate_dst (N := 34) rfl ?_); refine goesL_ (some 34) rfl rfl Tryd.func20 (by kernel_rfl) rfl #[.int .u64 kd] rfl (by (try simp only [List.map_toArray, List.map_cons, List.map_nil]); first | done | rfl) ?_; refine (known_calls _ hk0.out _ (hTab.out.below hB5.out)).mono ?_; rintro e w6 ⟨rfl, rfl⟩; refine ⟨_, rfl, ?_⟩; rw [hkn.out]; (try dsimp only))
    | go_step)
  have hS9 := set9 hX5.out (.int .u8 0) (.int .u64 0) (.int .i64 0) (.int .u64 0) (.int .u64 0) (.int .u64 0) (.slice none 0 0) (.slice none 0 0) (.slice none 0 0)
  refine bodyPost_ret (results_ct rfl _ _ w.heap.size 29 _ (0, 0) _ rfl hS9.1 Tryd.underlying29 rfl (by kernel_rfl)) rfl ?_
  exact takeP_zero (hB5.out.trans (grown_bel hS9.2 (Nat.le_refl _) hB5.out.size)) 11
set_option maxHeartbeats 1000000 in
set_option maxRecDepth 100000 in
theorem Take_bad (A : Option Addr) (n c : Nat) (l : List Int) (hl : l.length = n) (hn : 5 ≤ n) (hc : n ≤ c) (w : World) (T : Tabs w) (hr : Kd.C (Kd.int .u8) w A n l) (hb : Bys l) (hf : Fits n) (hOk : sumOk l = true) (hkk : knownB (nR (rs0 l)).1 = true) (hbd_ : (takenM l).2.bad = true) :
    Calls Tryd.prog 17 #[.slice A n c] w (TakeP w (m0 0, 11)) := by
  have hn1 : (5 : Int) ≤ n := by omega
  have c0 : decide ((n : Int) < 5) = false := decide_eq_false (by omega)
  have hn2 : 4 ≤ n := by omega
  have hn3 : (n : Int) < 140737488355328 := by have := hf; unfold Fits at this; omega
  have hcn : n ≤ c := hc
  have hm1 : (4 ≤ (n : Int)) = True := eq_true (by omega)
  have hm2 : (4 ≤ (c : Int)) = True := eq_true (by omega)
  have hcn4 : 4 ≤ c := by omega
  have e4 : (l.drop 4).length = n - 4 := by rw [List.length_drop, hl]
  have hDr : Kd.C (Kd.int .u8) w (if c = 4 then A else Option.map (fun x => (⟨x.block, x.off + 4, none⟩ : Addr)) A) (l.drop 4).length (l.drop 4) := by
    have := Kd.C_drop (m := 4) (c := c) (by rw [hl]; exact hr) (by omega) (by omega)
    exact this
  have hTk : Kd.C (Kd.int .u8) w A 4 (l.take 4) := by
    have := Kd.C_take (m := 4) (by rw [hl]; exact hr) (by omega)
    rwa [show (l.take 4).length = 4 from by simp; omega] at this
  have hbd : Bys (l.drop 4) := fun x hx => hb x (List.mem_of_mem_drop hx)
  have hfd : Fits (l.drop 4).length := by unfold Fits at *; omega
  have hSum : Aside0 (∀ W, Below w.heap.size w W → Calls Tryd.prog 27 #[.slice (if c = 4 then A else Option.map (fun x => (⟨x.block, x.off + 4, none⟩ : Addr)) A) (n - 4) (c - 4)] W fun e w' => ∃ g, W.heap.size ≤ g ∧ e = .returned (.slice (some ⟨g, 0, none⟩) 4 4) ∧ w'.heap[g]? = some (.cells (nums .u8 (sumB (l.drop 4))).toArray 5 (0, 0)) ∧ Below W.heap.size W w') := by
    refine ⟨fun W hW => ?_⟩
    have := sum_calls (if c = 4 then A else Option.map (fun x => (⟨x.block, x.off + 4, none⟩ : Addr)) A) (c - 4) (l.drop 4) W (T.below hW) (Kd.C_below hDr hW) hbd hfd
    rwa [e4] at this
  have hEq : Aside0 (∀ (g : Nat) (W : World), Below w.heap.size w W → W.heap[g]? = some (.cells (nums .u8 (sumB (l.drop 4))).toArray 5 (0, 0)) → Calls Tryd.prog 35 #[.slice (some ⟨g, 0, none⟩) 4 4, .slice A 4 c] W fun e w' => e = .returned (.bool true) ∧ Below W.heap.size W w') := by
    refine ⟨fun g W hW hg => ?_⟩
    have h1 := (Kd.R_reads' (Kd.R_of_own (enc := Value.int .u8) (h1 := fun _ => rfl) (ok := fun _ => True) (own_four hg (Nat.zero_le g)) (fun _ _ => trivial))).2.2
    have h2 := Kd.C_below hTk hW
    have h3 : (l.take 4).length = 4 := by simp; omega
    have := bytes_Equal.calls (some ⟨g, 0, none⟩) 4 (sumB (l.drop 4)) A c (l.take 4) true W h1 (Nat.le_refl _) (by rw [h3]; exact h2) (by omega) (by unfold bytes_Equal.f; rw [← hOk]; rfl)
    rw [h3] at this
    refine this.mono ?_
    rintro e w' ⟨rfl, hD⟩
    exact ⟨rfl, below_drawn hD⟩
  obtain ⟨kd, s1, hks⟩ : ∃ kd s1, nR (rs0 l) = (kd, s1) := ⟨_, _, rfl⟩
  have hU : U kd := by have := nR_U (s := rs0 l) hbd; rwa [hks] at this
  have hlim : (0 : Int) ≤ (rs0 l).lim ∧ (rs0 l).lim < 9223372036854775808 := by show (0 : Int) ≤ (l.length : Int) ∧ (l.length : Int) < _; unfold Fits at hf; omega
  have hFn1 : Fine s1 := by have := (Fine.mk hfd hbd hlim : Fine (rs0 l)).less (less_nR (rs0 l)); rwa [hks] at this
  rw [hks] at hkk
  obtain ⟨k, rfl⟩ := Int.eq_ofNat_of_zero_le hU.1
  have hkb := of_decide_eq_true hkk
  have hkn : Aside0 (knownB (k : Int) = true) := ⟨hkk⟩
  have hk0 := Aside0.mk hU.1
  have hk9 : k < 9 := by omega
  have hk8 : (k : Int) < 9 := by omega
  obtain ⟨m, ts, hts⟩ : ∃ m ts, takesF (fldI k) (m0 k, ⟨s1, false⟩) = (m, ts) := ⟨_, _, rfl⟩
  have htk : takenM l = (m, ts) := by unfold takenM; rw [hks]; exact hts
  rw [htk] at hbd_
  have hmk : Aside0 (m.k = k) := by
    have : ∀ (l : List Int) (p : Mg × TS), (takesF l p).1.k = p.1.k := by
      intro l
      induction l with
      | nil => intro p; rfl
      | cons c l ih => intro p; exact (ih _).trans (k_takeF c p)
    have h3 := this (fldI k) (m0 k, ⟨s1, false⟩)
    rw [hts] at h3
    exact ⟨h3⟩
  have hFts : Aside0 (Fine ts.r) := by
    have : ∀ (l : List Int) (p : Mg × TS), Less p.2.r (takesF l p).2.r := by
      intro l
      induction l with
      | nil => intro p; exact Less.refl _
      | cons c l ih => intro p; exact (less_takeF c p).trans (ih _)
    have h3 := this (fldI k) (m0 k, ⟨s1, false⟩)
    rw [hts] at h3
    exact ⟨hFn1.less h3⟩
  have hTake : Aside0 (∀ (W : World) (t g : Nat), Tk w W t g ⟨s1, false⟩ → Below w.heap.size w W → Calls Tryd.prog 38 #[.pointer (some ⟨t, 0, none⟩), .agg #[.int .u8 k, .int .u64 0, .int .i64 0, .int .u64 0, .int .u64 0, .int .u64 0, .slice none 0 0, .slice none 0 0, .slice none 0 0]] W fun e w' => ∃ vV vB vS, e = .returned (.agg #[.int .u8 k, .int .u64 m.n, .int .i64 m.r, .int .u64 m.first, .int .u64 m.last, .int .u64 m.commit, vV, vB, vS]) ∧ Kd.V k52 52 w' W.heap.size (fun k => W.heap.size ≤ k) vV m.V ∧ Kd.V (Kd.slice 5 (Kd.int .u8)) 27 w' W.heap.size (fun k => W.heap.size ≤ k) vB m.B ∧ Kd.V (Kd.int .u8) 5 w' W.heap.size (fun k => W.heap.size ≤ k) vS m.S ∧ Tk w w' t g ts ∧ Two W w' t g) := by
    refine ⟨fun W t g hT hB => ?_⟩
    have := take_calls w W t g ⟨s1, false⟩ hT hFn1 (T.below hB) k k rfl hk9
    rwa [hts] at this
  have hbad : Aside0 (ts.bad = true) := ⟨hbd_⟩
  have hDr2 : Kd.C (Kd.int .u8) w (Option.map (fun x => (⟨x.block, x.off + 4, none⟩ : Addr)) A) (l.drop 4).length (l.drop 4) := by
    have := hDr
    rwa [if_neg (by omega)] at this
  have hNum : Aside0 (∀ (g : Nat) (V : World), Rd w V g (rs0 l) → Calls Tryd.prog 37 #[.pointer (some ⟨g, 0, none⟩)] V fun e w' => e = .returned (.int .u64 k) ∧ Rd w w' g s1 ∧ V.grownBy w' (some g)) := ⟨fun g V hV => num_at w g hfd hbd hks V hV⟩
  have hStart : Aside0 (∀ (w3 : World), Below w.heap.size w w3 → Tk w ((w3.alloc (.cells #[.int .i64 0, .slice (Option.map (fun x => (⟨x.block, x.off + 4, none⟩ : Addr)) A) (n - 4) (c - 4), .int .i64 n] 99)).alloc (.cells #[.pointer (some ⟨w3.heap.size, 0, none⟩), .bool false] 73)) (w3.heap.size + 1) w3.heap.size ⟨rs0 l, false⟩) := ⟨fun w3 hB => start_Tk hB e4 hl hc hDr2⟩
  have hTab := Aside0.mk T
  have hX := Aside0.mk (heap_alloc_new w (.cells #[.int .u8 0, .int .u64 0, .int .i64 0, .int .u64 0, .int .u64 0, .int .u64 0, .slice none 0 0, .slice none 0 0, .slice none 0 0] 29))
  clear hr hf hb hOk T hl hn hc hDr hDr2 hTk hbd hfd e4 hks hU hkk hlim hFn1 hkb hk9 hts htk hbd_
  go_enter Tryd.func17, Tryd.ntmps17
  go_wp2
  have hX1 := Aside0.mk (blk_drew hX.out)
  have hW1 := Aside0.mk (below_drew1 (bel1 w (.cells #[.int .u8 0, .int .u64 0, .int .i64 0, .int .u64 0, .int .u64 0, .int .u64 0, .slice none 0 0, .slice none 0 0, .slice none 0 0] 29)))
  refine start_ (n := 8) (S := fun _ => True) (ds := []) #[false, false, false, false, false, false, false, false] (by kernel_rfl) rfl rfl trivial (fun hHeld => ?_)
  refine pure_ (i := 0) (N := some 13) (v := ?_) (a' := ?_) #[true, false, false, false, false, false, false, false] rfl rfl (by kernel_rfl) (fun _ _ _ h => h) (Or.inl ⟨by rfl, ?_⟩) ?_ ?_
  rotate_left
  · intro w'
    go_simp
    with_reducible rfl
  rotate_left
  · simp only [Act.put, List.setIfInBounds_toArray, List.set_cons_zero, List.set_cons_succ, i64_w, i32_w]
    rfl
  refine pure_ (i := 3) (N := some 16) (v := ?_) (a' := ?_) #[true, false, false, true, false, false, false, false] rfl rfl (by kernel_rfl) (fun _ _ _ h => h) (Or.inl ⟨by rfl, ?_⟩) ?_ ?_
  rotate_left
  · intro w'
    go_simp
    with_reducible rfl
  rotate_left
  · simp only [Act.put, List.setIfInBounds_toArray, List.set_cons_zero, List.set_cons_succ, i64_w, i32_w]
    rfl
  refine pure_ (i := 1) (N := some 14) (v := ?_) (a' := ?_) #[true, true, false, true, false, false, false, false] rfl rfl (by kernel_rfl) (fun _ _ _ h => h) (Or.inl ⟨by rfl, ?_⟩) ?_ ?_
  rotate_left
  · intro w'
    go_simp
    with_reducible rfl
  rotate_left
  · simp only [Act.put, List.setIfInBounds_toArray, List.set_cons_zero, List.set_cons_succ, i64_w, i32_w]
    rfl
  refine pure_ (i := 4) (N := some 17) (v := ?_) (a' := ?_) #[true, true, false, true, true, false, false, false] rfl rfl (by kernel_rfl) (fun _ _ _ h => h) (Or.inl ⟨by rfl, ?_⟩) ?_ ?_
  rotate_left
  · intro w'
    go_simp
    with_reducible rfl
  rotate_left
  · simp only [Act.put, List.setIfInBounds_toArray, List.set_cons_zero, List.set_cons_succ, i64_w, i32_w]
    rfl
  refine one_ (i := 2) (N := some 15) #[true, true, true, true, true, false, false, false] rfl rfl (by kernel_rfl) (by decide) (fun K hK => ?_)
  refine goes_ Tryd.func27 (by kernel_rfl) rfl #[.slice (if c = 4 then A else Option.map (fun x => (⟨x.block, x.off + 4, none⟩ : Addr)) A) (n - 4) (c - 4)] (by rfl) rfl rfl (by (try simp only [List.map_toArray, List.map_cons, List.map_nil]); first | done | rfl) ?_
  refine (hSum.out _ hW1.out).mono ?_
  rintro e w2 ⟨g2, hg2, rfl, hh2, hB2⟩
  refine ⟨_, rfl, ?_⟩
  have hB2' := Aside0.mk (hW1.out.trans (hB2.mono hW1.out.size))
  have hX2 := Aside0.mk (blk_below hX1.out hB2)
  have hg2' := Aside0.mk hh2
  clear hB2 hh2
  refine hK.out _ _ trivial (fun hHeld => ?_)
  clear hK K
  refine norm_ (a' := ?_) ?_ ?_
  rotate_left
  · show Act.put _ (some 15) _ = _
    simp only [Act.put, List.setIfInBounds_toArray, List.set_cons_zero, List.set_cons_succ, i64_w, i32_w]
    rfl
  refine one_ (i := 5) (N := some 18) #[true, true, true, true, true, true, false, false] rfl rfl (by kernel_rfl) (by decide) (fun K hK => ?_)
  refine goes_ Tryd.func35 (by kernel_rfl) rfl #[.slice (some ⟨g2, 0, none⟩) 4 4, .slice A 4 c] (by rfl) rfl rfl (by (try simp only [List.map_toArray, List.map_cons, List.map_nil]); first | done | rfl) ?_
  refine (hEq.out g2 w2 hB2'.out hg2'.out).mono ?_
  rintro e w3 ⟨rfl, hD3⟩
  refine ⟨_, rfl, ?_⟩
  have hB3 := Aside0.mk (hB2'.out.trans (hD3.mono hB2'.out.size))
  have hX3 := Aside0.mk (blk_below hX2.out hD3)
  clear hD3 hX2 hB2' hg2'
  refine hK.out _ _ trivial (fun hHeld => ?_)
  clear hK K
  refine norm_ (a' := ?_) ?_ ?_
  rotate_left
  · show Act.put _ (some 18) _ = _
    simp only [Act.put, List.setIfInBounds_toArray, List.set_cons_zero, List.set_cons_succ, i64_w, i32_w]
    rfl
  refine pure_ (i := 6) (N := some 19) (v := ?_) (a' := ?_) #[true, true, true, true, true, true, true, false] rfl rfl (by kernel_rfl) (fun _ _ _ h => h) (Or.inl ⟨by rfl, ?_⟩) ?_ ?_
  rotate_left
  · intro w'
    go_simp
    with_reducible rfl
  rotate_left
  · simp only [Act.put, List.setIfInBounds_toArray, List.set_cons_zero, List.set_cons_succ, i64_w, i32_w]
    rfl
  refine pure_ (i := 7) (N := some 12) (v := ?_) (a' := ?_) #[true, true, true, true, true, true, true, true] rfl rfl (by kernel_rfl) (fun _ _ _ h => h) (Or.inl ⟨by rfl, ?_⟩) ?_ ?_
  rotate_left
  · intro w'
    go_simp
    with_reducible rfl
  rotate_left
  · simp only [Act.put, List.setIfInBounds_toArray, List.set_cons_zero, List.set_cons_succ, i64_w, i32_w]
    rfl
  refine done_ (by kernel_rfl) ?_
  repeat (first
    | ((with_reducible refine gate_callee (f := 36) rfl ?_); (with_reducible refine gate_dst (N := 25) rfl ?_); refine goesL_ (some 25) rfl rfl Tryd.func36 (by kernel_rfl) rfl #[.slice (Option.map (fun x => (⟨x.block, x.off + 4, none⟩ : Addr)) A) (n - 4) (c - 4), .int .i64 n] rfl (by (try simp only [List.map_toArray, List.map_cons, List.map_nil]); first | done | rfl) ?_; refine (newr_calls _ _ _ _ _).mono ?_; rintro e w4 ⟨rfl, rfl⟩; refine ⟨_, rfl, ?_⟩; have hTk5 := hStart.out _ hB3.out; have ht0 := (blk_cell hTk5.box 0).trans rfl; (try dsimp only))
    | ((with_reducible refine gate_callee (f := 37) rfl ?_); (with_reducible refine gate_dst (N := 32) rfl ?_); refine goesL_ (some 32) rfl rfl Tryd.func37 (by kernel_rfl) rfl #[.pointer (some ⟨w3.heap.size, 0, none⟩)] rfl (by (try simp only [List.map_toArray, List.map_cons, List.map_nil]); first | done | rfl) ?_; refine (hNum.out _ _ hTk5.rd).mono ?_; rintro e w5 ⟨rfl, HR5, G5⟩; refine ⟨_, rfl, ?_⟩; have hT5 := Aside0.mk (hTk5.read HR5 G5); have hX5 := Aside0.mk (blk_grown (blk_alloc (blk_alloc hX3.out _) _) G5 (fun e => Nat.lt_irrefl _ (Nat.lt_of_lt_of_le (blk_lt hX3.out) (Nat.le_of_eq (Option.some.inj e).symm)))); have hB5 := Aside0.mk ((below_alloc (below_alloc hB3.out _) _).trans (grown_bel G5 hB3.out.size (Nat.le_trans hB3.out.size (by simp; omega)))); have G5' := Aside0.mk G5; clear HR5 G5 ht0 hTk5; (try dsimp only))
    | ((with_reducible refine gate_callee (f := 20) rfl ?_); (with_reducible refine gate_dst (N := 34) rfl ?_); refine goesL_ (some 34) rfl rfl Tryd.func20 (by kernel_rfl) rfl #[.int .u64 k] rfl (by (try simp only [List.map_toArray, List.map_cons, List.map_nil]); first | done | rfl) ?_; refine (known_calls _ hk0.out _ (hTab.out.below hB5.out)).mono ?_; rintro e w6 ⟨rfl, rfl⟩; refine ⟨_, rfl, ?_⟩; rw [hkn.out]; (try dsimp only))
    | ((with_reducible refine gate_callee (f := 38) rfl ?_); (with_reducible refine gate_dst (N := 41) rfl ?_); refine goesL_ (some 41) rfl rfl Tryd.func38 (by kernel_rfl) rfl #[.pointer (some ⟨w3.heap.size + 1, 0, none⟩), .agg #[.int .u8 k, .int .u64 0, .int .i64 0, .int .u64 0, .int .u64 0, .int .u64 0, .slice none 0 0, .slice none 0 0, .slice none 0 0]] rfl (by (try simp only [List.map_toArray, List.map_cons, List.map_nil]); first | done | rfl) ?_; refine (hTake.out w5 _ _ hT5.out hB5.out).mono ?_; rintro e w7 ⟨vV, vB, vS, rfl, HV, HB_, HS_, HT7, T7⟩; refine ⟨_, rfl, ?_⟩; obtain ⟨A6, c6, rfl⟩ := Kd.V_slice HV; obtain ⟨A7, c7, rfl⟩ := Kd.V_slice HB_; obtain ⟨A8, c8, rfl⟩ := Kd.V_slice HS_; have hBx := Aside0.mk (heap_alloc_new w7 (.cells #[.int .u8 k, .int .u64 m.n, .int .i64 m.r, .int .u64 m.first, .int .u64 m.last, .int .u64 m.commit, .slice A6 m.V.length c6, .slice A7 m.B.length c7, .slice A8 m.S.length c8] 29)); have hT8 := HT7.below (bel1 w7 (.cells #[.int .u8 k, .int .u64 m.n, .int .i64 m.r, .int .u64 m.first, .int .u64 m.last, .int .u64 m.commit, .slice A6 m.V.length c6, .slice A7 m.B.length c7, .slice A8 m.S.length c8] 29)); have hX7 := T7.keep hX5.out (Nat.ne_of_lt (Nat.lt_succ_of_lt (blk_lt hX3.out))) (Nat.ne_of_lt (blk_lt hX3.out)); have hX8 := Aside0.mk (blk_alloc hX7 (.cells #[.int .u8 k, .int .u64 m.n, .int .i64 m.r, .int .u64 m.first, .int .u64 m.last, .int .u64 m.commit, .slice A6 m.V.length c6, .slice A7 m.B.length c7, .slice A8 m.S.length c8] 29)); have hB7 := T7.bel hB5.out.size (Nat.le_succ_of_le hB3.out.size) hB3.out.size; have hB8 := Aside0.mk (below_alloc (hB5.out.trans hB7) (.cells #[.int .u8 k, .int .u64 m.n, .int .i64 m.r, .int .u64 m.first, .int .u64 m.last, .int .u64 m.commit, .slice A6 m.V.length c6, .slice A7 m.B.length c7, .slice A8 m.S.length c8] 29)); have hV8 := Aside0.mk (Kd.V_alloc HV (.cells #[.int .u8 k, .int .u64 m.n, .int .i64 m.r, .int .u64 m.first, .int .u64 m.last, .int .u64 m.commit, .slice A6 m.V.length c6, .slice A7 m.B.length c7, .slice A8 m.S.length c8] 29)); have hU8 := Aside0.mk (Kd.V_alloc HB_ (.cells #[.int .u8 k, .int .u64 m.n, .int .i64 m.r, .int .u64 m.first, .int .u64 m.last, .int .u64 m.commit, .slice A6 m.V.length c6, .slice A7 m.B.length c7, .slice A8 m.S.length c8] 29)); have hS8 := Aside0.mk (Kd.V_alloc HS_ (.cells #[.int .u8 k, .int .u64 m.n, .int .i64 m.r, .int .u64 m.first, .int .u64 m.last, .int .u64 m.commit, .slice A6 m.V.length c6, .slice A7 m.B.length c7, .slice A8 m.S.length c8] 29)); have hs7 := Aside0.mk (Nat.le_trans (Nat.le_of_lt (Nat.lt_succ_self _)) (Nat.le_trans (Nat.le_of_eq (by simp)) (Nat.le_trans G5'.out.size T7.size)) : w3.heap.size + 1 ≤ w7.heap.size); have ht1 := (blk_cell hT8.box 1).trans rfl; have ht2 := (blk_cell hT8.box 0).trans rfl; have hT8' := Aside0.mk hT8; rw [hbad.out] at ht1; clear HV HB_ HS_ HT7 T7 hX7 hB7 hT8; have hz0 := (blk_cell hX8.out 0).trans rfl; have hy0 := blk_frozen hX8.out 0; have hz1 := (blk_cell hX8.out 1).trans rfl; have hy1 := blk_frozen hX8.out 1; have hz2 := (blk_cell hX8.out 2).trans rfl; have hy2 := blk_frozen hX8.out 2; have hz3 := (blk_cell hX8.out 3).trans rfl; have hy3 := blk_frozen hX8.out 3; have hz4 := (blk_cell hX8.out 4).trans rfl; have hy4 := blk_frozen hX8.out 4; have hz5 := (blk_cell hX8.out 5).trans rfl; have hy5 := blk_frozen hX8.out 5; have hz6 := (blk_cell hX8.out 6).trans rfl; have hy6 := blk_frozen hX8.out 6; have hz7 := (blk_cell hX8.out 7).trans rfl; have hy7 := blk_frozen hX8.out 7; have hz8 := (blk_cell hX8.out 8).trans rfl; have hy8 := blk_frozen hX8.out 8; (try dsimp only))
    | go_step)
  have hS9 := set9 hX8.out (.int .u8 0) (.int .u64 0) (.int .i64 0) (.int .u64 0) (.int .u64 0) (.int .u64 0) (.slice none 0 0) (.slice none 0 0) (.slice none 0 0)
  refine bodyPost_ret (results_ct rfl _ _ w.heap.size 29 _ (0, 0) _ rfl hS9.1 Tryd.underlying29 rfl (by kernel_rfl)) rfl ?_
  exact takeP_zero (hB8.out.trans (grown_bel hS9.2 (Nat.le_refl _) hB8.out.size)) 11
set_option maxHeartbeats 1000000 in
set_option maxRecDepth 100000 in
theorem Take_done (A : Option Addr) (n c : Nat) (l : List Int) (hl : l.length = n) (hn : 5 ≤ n) (hc : n ≤ c) (w : World) (T : Tabs w) (hr : Kd.C (Kd.int .u8) w A n l) (hb : Bys l) (hf : Fits n) (hOk : sumOk l = true) (hkk : knownB (nR (rs0 l)).1 = true) (hbd_ : (takenM l).2.bad = false) (hdn_ : (doneR (takenM l).2.r).1 ≠ 0) :
    Calls Tryd.prog 17 #[.slice A n c] w (TakeP w (m0 0, 11)) := by
  have hn1 : (5 : Int) ≤ n := by omega
  have c0 : decide ((n : Int) < 5) = false := decide_eq_false (by omega)
  have hn2 : 4 ≤ n := by omega
  have hn3 : (n : Int) < 140737488355328 := by have := hf; unfold Fits at this; omega
  have hcn : n ≤ c := hc
  have hm1 : (4 ≤ (n : Int)) = True := eq_true (by omega)
  have hm2 : (4 ≤ (c : Int)) = True := eq_true (by omega)
  have hcn4 : 4 ≤ c := by omega
  have e4 : (l.drop 4).length = n - 4 := by rw [List.length_drop, hl]
  have hDr : Kd.C (Kd.int .u8) w (if c = 4 then A else Option.map (fun x => (⟨x.block, x.off + 4, none⟩ : Addr)) A) (l.drop 4).length (l.drop 4) := by
    have := Kd.C_drop (m := 4) (c := c) (by rw [hl]; exact hr) (by omega) (by omega)
    exact this
  have hTk : Kd.C (Kd.int .u8) w A 4 (l.take 4) := by
    have := Kd.C_take (m := 4) (by rw [hl]; exact hr) (by omega)
    rwa [show (l.take 4).length = 4 from by simp; omega] at this
  have hbd : Bys (l.drop 4) := fun x hx => hb x (List.mem_of_mem_drop hx)
  have hfd : Fits (l.drop 4).length := by unfold Fits at *; omega
  have hSum : Aside0 (∀ W, Below w.heap.size w W → Calls Tryd.prog 27 #[.slice (if c = 4 then A else Option.map (fun x => (⟨x.block, x.off + 4, none⟩ : Addr)) A) (n - 4) (c - 4)] W fun e w' => ∃ g, W.heap.size ≤ g ∧ e = .returned (.slice (some ⟨g, 0, none⟩) 4 4) ∧ w'.heap[g]? = some (.cells (nums .u8 (sumB (l.drop 4))).toArray 5 (0, 0)) ∧ Below W.heap.size W w') := by
    refine ⟨fun W hW => ?_⟩
    have := sum_calls (if c = 4 then A else Option.map (fun x => (⟨x.block, x.off + 4, none⟩ : Addr)) A) (c - 4) (l.drop 4) W (T.below hW) (Kd.C_below hDr hW) hbd hfd
    rwa [e4] at this
  have hEq : Aside0 (∀ (g : Nat) (W : World), Below w.heap.size w W → W.heap[g]? = some (.cells (nums .u8 (sumB (l.drop 4))).toArray 5 (0, 0)) → Calls Tryd.prog 35 #[.slice (some ⟨g, 0, none⟩) 4 4, .slice A 4 c] W fun e w' => e = .returned (.bool true) ∧ Below W.heap.size W w') := by
    refine ⟨fun g W hW hg => ?_⟩
    have h1 := (Kd.R_reads' (Kd.R_of_own (enc := Value.int .u8) (h1 := fun _ => rfl) (ok := fun _ => True) (own_four hg (Nat.zero_le g)) (fun _ _ => trivial))).2.2
    have h2 := Kd.C_below hTk hW
    have h3 : (l.take 4).length = 4 := by simp; omega
    have := bytes_Equal.calls (some ⟨g, 0, none⟩) 4 (sumB (l.drop 4)) A c (l.take 4) true W h1 (Nat.le_refl _) (by rw [h3]; exact h2) (by omega) (by unfold bytes_Equal.f; rw [← hOk]; rfl)
    rw [h3] at this
    refine this.mono ?_
    rintro e w' ⟨rfl, hD⟩
    exact ⟨rfl, below_drawn hD⟩
  obtain ⟨kd, s1, hks⟩ : ∃ kd s1, nR (rs0 l) = (kd, s1) := ⟨_, _, rfl⟩
  have hU : U kd := by have := nR_U (s := rs0 l) hbd; rwa [hks] at this
  have hlim : (0 : Int) ≤ (rs0 l).lim ∧ (rs0 l).lim < 9223372036854775808 := by show (0 : Int) ≤ (l.length : Int) ∧ (l.length : Int) < _; unfold Fits at hf; omega
  have hFn1 : Fine s1 := by have := (Fine.mk hfd hbd hlim : Fine (rs0 l)).less (less_nR (rs0 l)); rwa [hks] at this
  rw [hks] at hkk
  obtain ⟨k, rfl⟩ := Int.eq_ofNat_of_zero_le hU.1
  have hkb := of_decide_eq_true hkk
  have hkn : Aside0 (knownB (k : Int) = true) := ⟨hkk⟩
  have hk0 := Aside0.mk hU.1
  have hk9 : k < 9 := by omega
  have hk8 : (k : Int) < 9 := by omega
  obtain ⟨m, ts, hts⟩ : ∃ m ts, takesF (fldI k) (m0 k, ⟨s1, false⟩) = (m, ts) := ⟨_, _, rfl⟩
  have htk : takenM l = (m, ts) := by unfold takenM; rw [hks]; exact hts
  rw [htk] at hbd_ hdn_
  have hmk : Aside0 (m.k = k) := by
    have : ∀ (l : List Int) (p : Mg × TS), (takesF l p).1.k = p.1.k := by
      intro l
      induction l with
      | nil => intro p; rfl
      | cons c l ih => intro p; exact (ih _).trans (k_takeF c p)
    have h3 := this (fldI k) (m0 k, ⟨s1, false⟩)
    rw [hts] at h3
    exact ⟨h3⟩
  have hFts : Aside0 (Fine ts.r) := by
    have : ∀ (l : List Int) (p : Mg × TS), Less p.2.r (takesF l p).2.r := by
      intro l
      induction l with
      | nil => intro p; exact Less.refl _
      | cons c l ih => intro p; exact (less_takeF c p).trans (ih _)
    have h3 := this (fldI k) (m0 k, ⟨s1, false⟩)
    rw [hts] at h3
    exact ⟨hFn1.less h3⟩
  have hTake : Aside0 (∀ (W : World) (t g : Nat), Tk w W t g ⟨s1, false⟩ → Below w.heap.size w W → Calls Tryd.prog 38 #[.pointer (some ⟨t, 0, none⟩), .agg #[.int .u8 k, .int .u64 0, .int .i64 0, .int .u64 0, .int .u64 0, .int .u64 0, .slice none 0 0, .slice none 0 0, .slice none 0 0]] W fun e w' => ∃ vV vB vS, e = .returned (.agg #[.int .u8 k, .int .u64 m.n, .int .i64 m.r, .int .u64 m.first, .int .u64 m.last, .int .u64 m.commit, vV, vB, vS]) ∧ Kd.V k52 52 w' W.heap.size (fun k => W.heap.size ≤ k) vV m.V ∧ Kd.V (Kd.slice 5 (Kd.int .u8)) 27 w' W.heap.size (fun k => W.heap.size ≤ k) vB m.B ∧ Kd.V (Kd.int .u8) 5 w' W.heap.size (fun k => W.heap.size ≤ k) vS m.S ∧ Tk w w' t g ts ∧ Two W w' t g) := by
    refine ⟨fun W t g hT hB => ?_⟩
    have := take_calls w W t g ⟨s1, false⟩ hT hFn1 (T.below hB) k k rfl hk9
    rwa [hts] at this
  have hbad : Aside0 (ts.bad = false) := ⟨hbd_⟩
  obtain ⟨dn, hdn0⟩ : ∃ dn, (doneR ts.r).1 = dn := ⟨_, rfl⟩
  have hdn := Aside0.mk hdn0
  have hdq : dn ≠ 0 := by rw [← hdn0]; exact hdn_
  have hdn1 : (dn != 0) = true := by simp [hdq]
  have hdn2 : (dn = 0) = False := eq_false hdq
  clear hdn0 hdq
  have hDr2 : Kd.C (Kd.int .u8) w (Option.map (fun x => (⟨x.block, x.off + 4, none⟩ : Addr)) A) (l.drop 4).length (l.drop 4) := by
    have := hDr
    rwa [if_neg (by omega)] at this
  have hNum : Aside0 (∀ (g : Nat) (V : World), Rd w V g (rs0 l) → Calls Tryd.prog 37 #[.pointer (some ⟨g, 0, none⟩)] V fun e w' => e = .returned (.int .u64 k) ∧ Rd w w' g s1 ∧ V.grownBy w' (some g)) := ⟨fun g V hV => num_at w g hfd hbd hks V hV⟩
  have hStart : Aside0 (∀ (w3 : World), Below w.heap.size w w3 → Tk w ((w3.alloc (.cells #[.int .i64 0, .slice (Option.map (fun x => (⟨x.block, x.off + 4, none⟩ : Addr)) A) (n - 4) (c - 4), .int .i64 n] 99)).alloc (.cells #[.pointer (some ⟨w3.heap.size, 0, none⟩), .bool false] 73)) (w3.heap.size + 1) w3.heap.size ⟨rs0 l, false⟩) := ⟨fun w3 hB => start_Tk hB e4 hl hc hDr2⟩
  have hTab := Aside0.mk T
  have hX := Aside0.mk (heap_alloc_new w (.cells #[.int .u8 0, .int .u64 0, .int .i64 0, .int .u64 0, .int .u64 0, .int .u64 0, .slice none 0 0, .slice none 0 0, .slice none 0 0] 29))
  clear hr hf hb hOk T hl hn hc hDr hDr2 hTk hbd hfd e4 hks hU hkk hlim hFn1 hkb hk9 hts htk hbd_ hdn_
  go_enter Tryd.func17, Tryd.ntmps17
  go_wp2
  have hX1 := Aside0.mk (blk_drew hX.out)
  have hW1 := Aside0.mk (below_drew1 (bel1 w (.cells #[.int .u8 0, .int .u64 0, .int .i64 0, .int .u64 0, .int .u64 0, .int .u64 0, .slice none 0 0, .slice none 0 0, .slice none 0 0] 29)))
  refine start_ (n := 8) (S := fun _ => True) (ds := []) #[false, false, false, false, false, false, false, false] (by kernel_rfl) rfl rfl trivial (fun hHeld => ?_)
  refine pure_ (i := 0) (N := some 13) (v := ?_) (a' := ?_) #[true, false, false, false, false, false, false, false] rfl rfl (by kernel_rfl) (fun _ _ _ h => h) (Or.inl ⟨by rfl, ?_⟩) ?_ ?_
  rotate_left
  · intro w'
    go_simp
    with_reducible rfl
  rotate_left
  · simp only [Act.put, List.setIfInBounds_toArray, List.set_cons_zero, List.set_cons_succ, i64_w, i32_w]
    rfl
  refine pure_ (i := 3) (N := some 16) (v := ?_) (a' := ?_) #[true, false, false, true, false, false, false, false] rfl rfl (by kernel_rfl) (fun _ _ _ h => h) (Or.inl ⟨by rfl, ?_⟩) ?_ ?_
  rotate_left
  · intro w'
    go_simp
    with_reducible rfl
  rotate_left
  · simp only [Act.put, List.setIfInBounds_toArray, List.set_cons_zero, List.set_cons_succ, i64_w, i32_w]
    rfl
  refine pure_ (i := 1) (N := some 14) (v := ?_) (a' := ?_) #[true, true, false, true, false, false, false, false] rfl rfl (by kernel_rfl) (fun _ _ _ h => h) (Or.inl ⟨by rfl, ?_⟩) ?_ ?_
  rotate_left
  · intro w'
    go_simp
    with_reducible rfl
  rotate_left
  · simp only [Act.put, List.setIfInBounds_toArray, List.set_cons_zero, List.set_cons_succ, i64_w, i32_w]
    rfl
  refine pure_ (i := 4) (N := some 17) (v := ?_) (a' := ?_) #[true, true, false, true, true, false, false, false] rfl rfl (by kernel_rfl) (fun _ _ _ h => h) (Or.inl ⟨by rfl, ?_⟩) ?_ ?_
  rotate_left
  · intro w'
    go_simp
    with_reducible rfl
  rotate_left
  · simp only [Act.put, List.setIfInBounds_toArray, List.set_cons_zero, List.set_cons_succ, i64_w, i32_w]
    rfl
  refine one_ (i := 2) (N := some 15) #[true, true, true, true, true, false, false, false] rfl rfl (by kernel_rfl) (by decide) (fun K hK => ?_)
  refine goes_ Tryd.func27 (by kernel_rfl) rfl #[.slice (if c = 4 then A else Option.map (fun x => (⟨x.block, x.off + 4, none⟩ : Addr)) A) (n - 4) (c - 4)] (by rfl) rfl rfl (by (try simp only [List.map_toArray, List.map_cons, List.map_nil]); first | done | rfl) ?_
  refine (hSum.out _ hW1.out).mono ?_
  rintro e w2 ⟨g2, hg2, rfl, hh2, hB2⟩
  refine ⟨_, rfl, ?_⟩
  have hB2' := Aside0.mk (hW1.out.trans (hB2.mono hW1.out.size))
  have hX2 := Aside0.mk (blk_below hX1.out hB2)
  have hg2' := Aside0.mk hh2
  clear hB2 hh2
  refine hK.out _ _ trivial (fun hHeld => ?_)
  clear hK K
  refine norm_ (a' := ?_) ?_ ?_
  rotate_left
  · show Act.put _ (some 15) _ = _
    simp only [Act.put, List.setIfInBounds_toArray, List.set_cons_zero, List.set_cons_succ, i64_w, i32_w]
    rfl
  refine one_ (i := 5) (N := some 18) #[true, true, true, true, true, true, false, false] rfl rfl (by kernel_rfl) (by decide) (fun K hK => ?_)
  refine goes_ Tryd.func35 (by kernel_rfl) rfl #[.slice (some ⟨g2, 0, none⟩) 4 4, .slice A 4 c] (by rfl) rfl rfl (by (try simp only [List.map_toArray, List.map_cons, List.map_nil]); first | done | rfl) ?_
  refine (hEq.out g2 w2 hB2'.out hg2'.out).mono ?_
  rintro e w3 ⟨rfl, hD3⟩
  refine ⟨_, rfl, ?_⟩
  have hB3 := Aside0.mk (hB2'.out.trans (hD3.mono hB2'.out.size))
  have hX3 := Aside0.mk (blk_below hX2.out hD3)
  clear hD3 hX2 hB2' hg2'
  refine hK.out _ _ trivial (fun hHeld => ?_)
  clear hK K
  refine norm_ (a' := ?_) ?_ ?_
  rotate_left
  · show Act.put _ (some 18) _ = _
    simp only [Act.put, List.setIfInBounds_toArray, List.set_cons_zero, List.set_cons_succ, i64_w, i32_w]
    rfl
  refine pure_ (i := 6) (N := some 19) (v := ?_) (a' := ?_) #[true, true, true, true, true, true, true, false] rfl rfl (by kernel_rfl) (fun _ _ _ h => h) (Or.inl ⟨by rfl, ?_⟩) ?_ ?_
  rotate_left
  · intro w'
    go_simp
    with_reducible rfl
  rotate_left
  · simp only [Act.put, List.setIfInBounds_toArray, List.set_cons_zero, List.set_cons_succ, i64_w, i32_w]
    rfl
  refine pure_ (i := 7) (N := some 12) (v := ?_) (a' := ?_) #[true, true, true, true, true, true, true, true] rfl rfl (by kernel_rfl) (fun _ _ _ h => h) (Or.inl ⟨by rfl, ?_⟩) ?_ ?_
  rotate_left
  · intro w'
    go_simp
    with_reducible rfl
  rotate_left
  · simp only [Act.put, List.setIfInBounds_toArray, List.set_cons_zero, List.set_cons_succ, i64_w, i32_w]
    rfl
  refine done_ (by kernel_rfl) ?_
  repeat (first
    | ((with_reducible refine gate_callee (f := 36) rfl ?_); (with_reducible refine gate_dst (N := 25) rfl ?_); refine goesL_ (some 25) rfl rfl Tryd.func36 (by kernel_rfl) rfl #[.slice (Option.map (fun x => (⟨x.block, x.off + 4, none⟩ : Addr)) A) (n - 4) (c - 4), .int .i64 n] rfl (by (try simp only [List.map_toArray, List.map_cons, List.map_nil]); first | done | rfl) ?_; refine (newr_calls _ _ _ _ _).mono ?_; rintro e w4 ⟨rfl, rfl⟩; refine ⟨_, rfl, ?_⟩; have hTk5 := hStart.out _ hB3.out; have ht0 := (blk_cell hTk5.box 0).trans rfl; (try dsimp only))
    | ((with_reducible refine gate_callee (f := 37) rfl ?_); (with_reducible refine gate_dst (N := 32) rfl ?_); refine goesL_ (some 32) rfl rfl Tryd.func37 (by kernel_rfl) rfl #[.pointer (some ⟨w3.heap.size, 0, none⟩)] rfl (by (try simp only [List.map_toArray, List.map_cons, List.map_nil]); first | done | rfl) ?_; refine (hNum.out _ _ hTk5.rd).mono ?_; rintro e w5 ⟨rfl, HR5, G5⟩; refine ⟨_, rfl, ?_⟩; have hT5 := Aside0.mk (hTk5.read HR5 G5); have hX5 := Aside0.mk (blk_grown (blk_alloc (blk_alloc hX3.out _) _) G5 (fun e => Nat.lt_irrefl _ (Nat.lt_of_lt_of_le (blk_lt hX3.out) (Nat.le_of_eq (Option.some.inj e).symm)))); have hB5 := Aside0.mk ((below_alloc (below_alloc hB3.out _) _).trans (grown_bel G5 hB3.out.size (Nat.le_trans hB3.out.size (by simp; omega)))); have G5' := Aside0.mk G5; clear HR5 G5 ht0 hTk5; (try dsimp only))
    | ((with_reducible refine gate_callee (f := 20) rfl ?_); (with_reducible refine gate_dst (N := 34) rfl ?_); refine goesL_ (some 34) rfl rfl Tryd.func20 (by kernel_rfl) rfl #[.int .u64 k] rfl (by (try simp only [List.map_toArray, List.map_cons, List.map_nil]); first | done | rfl) ?_; refine (known_calls _ hk0.out _ (hTab.out.below hB5.out)).mono ?_; rintro e w6 ⟨rfl, rfl⟩; refine ⟨_, rfl, ?_⟩; rw [hkn.out]; (try dsimp only))
    | ((with_reducible refine gate_callee (f := 38) rfl ?_); (with_reducible refine gate_dst (N := 41) rfl ?_); refine goesL_ (some 41) rfl rfl Tryd.func38 (by kernel_rfl) rfl #[.pointer (some ⟨w3.heap.size + 1, 0, none⟩), .agg #[.int .u8 k, .int .u64 0, .int .i64 0, .int .u64 0, .int .u64 0, .int .u64 0, .slice none 0 0, .slice none 0 0, .slice none 0 0]] rfl (by (try simp only [List.map_toArray, List.map_cons, List.map_nil]); first | done | rfl) ?_; refine (hTake.out w5 _ _ hT5.out hB5.out).mono ?_; rintro e w7 ⟨vV, vB, vS, rfl, HV, HB_, HS_, HT7, T7⟩; refine ⟨_, rfl, ?_⟩; obtain ⟨A6, c6, rfl⟩ := Kd.V_slice HV; obtain ⟨A7, c7, rfl⟩ := Kd.V_slice HB_; obtain ⟨A8, c8, rfl⟩ := Kd.V_slice HS_; have hBx := Aside0.mk (heap_alloc_new w7 (.cells #[.int .u8 k, .int .u64 m.n, .int .i64 m.r, .int .u64 m.first, .int .u64 m.last, .int .u64 m.commit, .slice A6 m.V.length c6, .slice A7 m.B.length c7, .slice A8 m.S.length c8] 29)); have hT8 := HT7.below (bel1 w7 (.cells #[.int .u8 k, .int .u64 m.n, .int .i64 m.r, .int .u64 m.first, .int .u64 m.last, .int .u64 m.commit, .slice A6 m.V.length c6, .slice A7 m.B.length c7, .slice A8 m.S.length c8] 29)); have hX7 := T7.keep hX5.out (Nat.ne_of_lt (Nat.lt_succ_of_lt (blk_lt hX3.out))) (Nat.ne_of_lt (blk_lt hX3.out)); have hX8 := Aside0.mk (blk_alloc hX7 (.cells #[.int .u8 k, .int .u64 m.n, .int .i64 m.r, .int .u64 m.first, .int .u64 m.last, .int .u64 m.commit, .slice A6 m.V.length c6, .slice A7 m.B.length c7, .slice A8 m.S.length c8] 29)); have hB7 := T7.bel hB5.out.size (Nat.le_succ_of_le hB3.out.size) hB3.out.size; have hB8 := Aside0.mk (below_alloc (hB5.out.trans hB7) (.cells #[.int .u8 k, .int .u64 m.n, .int .i64 m.r, .int .u64 m.first, .int .u64 m.last, .int .u64 m.commit, .slice A6 m.V.length c6, .slice A7 m.B.length c7, .slice A8 m.S.length c8] 29)); have hV8 := Aside0.mk (Kd.V_alloc HV (.cells #[.int .u8 k, .int .u64 m.n, .int .i64 m.r, .int .u64 m.first, .int .u64 m.last, .int .u64 m.commit, .slice A6 m.V.length c6, .slice A7 m.B.length c7, .slice A8 m.S.length c8] 29)); have hU8 := Aside0.mk (Kd.V_alloc HB_ (.cells #[.int .u8 k, .int .u64 m.n, .int .i64 m.r, .int .u64 m.first, .int .u64 m.last, .int .u64 m.commit, .slice A6 m.V.length c6, .slice A7 m.B.length c7, .slice A8 m.S.length c8] 29)); have hS8 := Aside0.mk (Kd.V_alloc HS_ (.cells #[.int .u8 k, .int .u64 m.n, .int .i64 m.r, .int .u64 m.first, .int .u64 m.last, .int .u64 m.commit, .slice A6 m.V.length c6, .slice A7 m.B.length c7, .slice A8 m.S.length c8] 29)); have hs7 := Aside0.mk (Nat.le_trans (Nat.le_of_lt (Nat.lt_succ_self _)) (Nat.le_trans (Nat.le_of_eq (by simp)) (Nat.le_trans G5'.out.size T7.size)) : w3.heap.size + 1 ≤ w7.heap.size); have ht1 := (blk_cell hT8.box 1).trans rfl; have ht2 := (blk_cell hT8.box 0).trans rfl; have hT8' := Aside0.mk hT8; rw [hbad.out] at ht1; clear HV HB_ HS_ HT7 T7 hX7 hB7 hT8; (try dsimp only))
    | ((with_reducible refine Calls.mono (done_calls w _ _ ts.r hT8'.out.rd hFts.out.fits) ?_); rintro e w9 ⟨rfl, HR9, G9⟩; rw [hdn.out]; have hBx9 := Aside0.mk (blk_grown hBx.out G9 (fun e => by have := Option.some.inj e; have := hs7.out; omega)); have hX9 := Aside0.mk (blk_grown hX8.out G9 (fun e => by have := Option.some.inj e; have := blk_lt hX3.out; omega)); have hB9 := Aside0.mk (hB8.out.trans (grown_bel G9 hB3.out.size hB8.out.size)); have hok9 : ∀ k, w5.heap.size ≤ k → some k ≠ some w3.heap.size := (fun k hk e => by have := Option.some.inj e; have := G5'.out.size; simp at this; omega); have hV9 := Aside0.mk (Kd.V_grown hV8.out G9 hok9); have hU9 := Aside0.mk (Kd.V_grown hU8.out G9 hok9); have hS9_ := Aside0.mk (Kd.V_grown hS8.out G9 hok9); clear HR9 G9 hok9; have hz0 := (blk_cell hX9.out 0).trans rfl; have hy0 := blk_frozen hX9.out 0; have hz1 := (blk_cell hX9.out 1).trans rfl; have hy1 := blk_frozen hX9.out 1; have hz2 := (blk_cell hX9.out 2).trans rfl; have hy2 := blk_frozen hX9.out 2; have hz3 := (blk_cell hX9.out 3).trans rfl; have hy3 := blk_frozen hX9.out 3; have hz4 := (blk_cell hX9.out 4).trans rfl; have hy4 := blk_frozen hX9.out 4; have hz5 := (blk_cell hX9.out 5).trans rfl; have hy5 := blk_frozen hX9.out 5; have hz6 := (blk_cell hX9.out 6).trans rfl; have hy6 := blk_frozen hX9.out 6; have hz7 := (blk_cell hX9.out 7).trans rfl; have hy7 := blk_frozen hX9.out 7; have hz8 := (blk_cell hX9.out 8).trans rfl; have hy8 := blk_frozen hX9.out 8; (try dsimp only))
    | go_step)
  have hS9 := set9 hX9.out (.int .u8 0) (.int .u64 0) (.int .i64 0) (.int .u64 0) (.int .u64 0) (.int .u64 0) (.slice none 0 0) (.slice none 0 0) (.slice none 0 0)
  refine bodyPost_ret (results_ct rfl _ _ w.heap.size 29 _ (0, 0) _ rfl hS9.1 Tryd.underlying29 rfl (by kernel_rfl)) rfl ?_
  exact takeP_zero (hB9.out.trans (grown_bel hS9.2 (Nat.le_refl _) hB9.out.size)) 11
set_option maxHeartbeats 1000000 in
set_option maxRecDepth 100000 in
theorem Take_check (A : Option Addr) (n c : Nat) (l : List Int) (hl : l.length = n) (hn : 5 ≤ n) (hc : n ≤ c) (w : World) (T : Tabs w) (hr : Kd.C (Kd.int .u8) w A n l) (hb : Bys l) (hf : Fits n) (hOk : sumOk l = true) (hkk : knownB (nR (rs0 l)).1 = true) (hbd_ : (takenM l).2.bad = false) (hdn_ : (doneR (takenM l).2.r).1 = 0) (hce_ : checkM (takenM l).1 (nR (rs0 l)).1.toNat = false) :
    Calls Tryd.prog 17 #[.slice A n c] w (TakeP w (m0 0, 11)) := by
  have hn1 : (5 : Int) ≤ n := by omega
  have c0 : decide ((n : Int) < 5) = false := decide_eq_false (by omega)
  have hn2 : 4 ≤ n := by omega
  have hn3 : (n : Int) < 140737488355328 := by have := hf; unfold Fits at this; omega
  have hcn : n ≤ c := hc
  have hm1 : (4 ≤ (n : Int)) = True := eq_true (by omega)
  have hm2 : (4 ≤ (c : Int)) = True := eq_true (by omega)
  have hcn4 : 4 ≤ c := by omega
  have e4 : (l.drop 4).length = n - 4 := by rw [List.length_drop, hl]
  have hDr : Kd.C (Kd.int .u8) w (if c = 4 then A else Option.map (fun x => (⟨x.block, x.off + 4, none⟩ : Addr)) A) (l.drop 4).length (l.drop 4) := by
    have := Kd.C_drop (m := 4) (c := c) (by rw [hl]; exact hr) (by omega) (by omega)
    exact this
  have hTk : Kd.C (Kd.int .u8) w A 4 (l.take 4) := by
    have := Kd.C_take (m := 4) (by rw [hl]; exact hr) (by omega)
    rwa [show (l.take 4).length = 4 from by simp; omega] at this
  have hbd : Bys (l.drop 4) := fun x hx => hb x (List.mem_of_mem_drop hx)
  have hfd : Fits (l.drop 4).length := by unfold Fits at *; omega
  have hSum : Aside0 (∀ W, Below w.heap.size w W → Calls Tryd.prog 27 #[.slice (if c = 4 then A else Option.map (fun x => (⟨x.block, x.off + 4, none⟩ : Addr)) A) (n - 4) (c - 4)] W fun e w' => ∃ g, W.heap.size ≤ g ∧ e = .returned (.slice (some ⟨g, 0, none⟩) 4 4) ∧ w'.heap[g]? = some (.cells (nums .u8 (sumB (l.drop 4))).toArray 5 (0, 0)) ∧ Below W.heap.size W w') := by
    refine ⟨fun W hW => ?_⟩
    have := sum_calls (if c = 4 then A else Option.map (fun x => (⟨x.block, x.off + 4, none⟩ : Addr)) A) (c - 4) (l.drop 4) W (T.below hW) (Kd.C_below hDr hW) hbd hfd
    rwa [e4] at this
  have hEq : Aside0 (∀ (g : Nat) (W : World), Below w.heap.size w W → W.heap[g]? = some (.cells (nums .u8 (sumB (l.drop 4))).toArray 5 (0, 0)) → Calls Tryd.prog 35 #[.slice (some ⟨g, 0, none⟩) 4 4, .slice A 4 c] W fun e w' => e = .returned (.bool true) ∧ Below W.heap.size W w') := by
    refine ⟨fun g W hW hg => ?_⟩
    have h1 := (Kd.R_reads' (Kd.R_of_own (enc := Value.int .u8) (h1 := fun _ => rfl) (ok := fun _ => True) (own_four hg (Nat.zero_le g)) (fun _ _ => trivial))).2.2
    have h2 := Kd.C_below hTk hW
    have h3 : (l.take 4).length = 4 := by simp; omega
    have := bytes_Equal.calls (some ⟨g, 0, none⟩) 4 (sumB (l.drop 4)) A c (l.take 4) true W h1 (Nat.le_refl _) (by rw [h3]; exact h2) (by omega) (by unfold bytes_Equal.f; rw [← hOk]; rfl)
    rw [h3] at this
    refine this.mono ?_
    rintro e w' ⟨rfl, hD⟩
    exact ⟨rfl, below_drawn hD⟩
  obtain ⟨kd, s1, hks⟩ : ∃ kd s1, nR (rs0 l) = (kd, s1) := ⟨_, _, rfl⟩
  have hU : U kd := by have := nR_U (s := rs0 l) hbd; rwa [hks] at this
  have hlim : (0 : Int) ≤ (rs0 l).lim ∧ (rs0 l).lim < 9223372036854775808 := by show (0 : Int) ≤ (l.length : Int) ∧ (l.length : Int) < _; unfold Fits at hf; omega
  have hFn1 : Fine s1 := by have := (Fine.mk hfd hbd hlim : Fine (rs0 l)).less (less_nR (rs0 l)); rwa [hks] at this
  rw [hks] at hkk
  obtain ⟨k, rfl⟩ := Int.eq_ofNat_of_zero_le hU.1
  have hkb := of_decide_eq_true hkk
  have hkn : Aside0 (knownB (k : Int) = true) := ⟨hkk⟩
  have hk0 := Aside0.mk hU.1
  have hk9 : k < 9 := by omega
  have hk8 : (k : Int) < 9 := by omega
  obtain ⟨m, ts, hts⟩ : ∃ m ts, takesF (fldI k) (m0 k, ⟨s1, false⟩) = (m, ts) := ⟨_, _, rfl⟩
  have htk : takenM l = (m, ts) := by unfold takenM; rw [hks]; exact hts
  rw [htk] at hbd_ hdn_ hce_
  have hmk : Aside0 (m.k = k) := by
    have : ∀ (l : List Int) (p : Mg × TS), (takesF l p).1.k = p.1.k := by
      intro l
      induction l with
      | nil => intro p; rfl
      | cons c l ih => intro p; exact (ih _).trans (k_takeF c p)
    have h3 := this (fldI k) (m0 k, ⟨s1, false⟩)
    rw [hts] at h3
    exact ⟨h3⟩
  have hFts : Aside0 (Fine ts.r) := by
    have : ∀ (l : List Int) (p : Mg × TS), Less p.2.r (takesF l p).2.r := by
      intro l
      induction l with
      | nil => intro p; exact Less.refl _
      | cons c l ih => intro p; exact (less_takeF c p).trans (ih _)
    have h3 := this (fldI k) (m0 k, ⟨s1, false⟩)
    rw [hts] at h3
    exact ⟨hFn1.less h3⟩
  have hTake : Aside0 (∀ (W : World) (t g : Nat), Tk w W t g ⟨s1, false⟩ → Below w.heap.size w W → Calls Tryd.prog 38 #[.pointer (some ⟨t, 0, none⟩), .agg #[.int .u8 k, .int .u64 0, .int .i64 0, .int .u64 0, .int .u64 0, .int .u64 0, .slice none 0 0, .slice none 0 0, .slice none 0 0]] W fun e w' => ∃ vV vB vS, e = .returned (.agg #[.int .u8 k, .int .u64 m.n, .int .i64 m.r, .int .u64 m.first, .int .u64 m.last, .int .u64 m.commit, vV, vB, vS]) ∧ Kd.V k52 52 w' W.heap.size (fun k => W.heap.size ≤ k) vV m.V ∧ Kd.V (Kd.slice 5 (Kd.int .u8)) 27 w' W.heap.size (fun k => W.heap.size ≤ k) vB m.B ∧ Kd.V (Kd.int .u8) 5 w' W.heap.size (fun k => W.heap.size ≤ k) vS m.S ∧ Tk w w' t g ts ∧ Two W w' t g) := by
    refine ⟨fun W t g hT hB => ?_⟩
    have := take_calls w W t g ⟨s1, false⟩ hT hFn1 (T.below hB) k k rfl hk9
    rwa [hts] at this
  have hbad : Aside0 (ts.bad = false) := ⟨hbd_⟩
  have hdn : Aside0 ((doneR ts.r).1 = 0) := ⟨hdn_⟩
  have hce : Aside0 (errI (checkM m k) = 1) := ⟨by rw [show checkM m k = false from by rw [hks] at hce_; exact hce_]; rfl⟩
  have hk256 := Aside0.mk (show k < 256 by omega)
  have hfV : Aside0 (Fits m.V.length) := ⟨by
    have h3 := takes_V (fldI k) (m0 k, ⟨s1, false⟩) (by show ([] : List S52).length ≤ 256; simp)
    rw [hts] at h3
    unfold Fits
    have h4 : m.V.length ≤ 256 := h3
    omega⟩
  have hChk : Aside0 (∀ (W : World) (A6 A7 A8 : Option Addr) (c6 c7 c8 : Nat), Below w.heap.size w W → m.At W A6 A7 A8 → m.V.length ≤ c6 → m.B.length ≤ c7 → m.S.length ≤ c8 → Calls Tryd.prog 10 #[.agg #[.int .u8 k, .int .u64 m.n, .int .i64 m.r, .int .u64 m.first, .int .u64 m.last, .int .u64 m.commit, .slice A6 m.V.length c6, .slice A7 m.B.length c7, .slice A8 m.S.length c8]] W fun e w' => e = .returned (.int .i64 (errI (checkM m k))) ∧ Below W.heap.size W w') := by
    refine ⟨fun W A6 A7 A8 c6 c7 c8 hB hAt h6 h7 h8 => ?_⟩
    have := check_m m k hmk.out hk256.out hfV.out A6 A7 A8 c6 c7 c8 W (T.below hB) hAt h6 h7 h8 W (Below.refl _ _)
    unfold Mg.cells at this
    rwa [hmk.out] at this
  have hDr2 : Kd.C (Kd.int .u8) w (Option.map (fun x => (⟨x.block, x.off + 4, none⟩ : Addr)) A) (l.drop 4).length (l.drop 4) := by
    have := hDr
    rwa [if_neg (by omega)] at this
  have hNum : Aside0 (∀ (g : Nat) (V : World), Rd w V g (rs0 l) → Calls Tryd.prog 37 #[.pointer (some ⟨g, 0, none⟩)] V fun e w' => e = .returned (.int .u64 k) ∧ Rd w w' g s1 ∧ V.grownBy w' (some g)) := ⟨fun g V hV => num_at w g hfd hbd hks V hV⟩
  have hStart : Aside0 (∀ (w3 : World), Below w.heap.size w w3 → Tk w ((w3.alloc (.cells #[.int .i64 0, .slice (Option.map (fun x => (⟨x.block, x.off + 4, none⟩ : Addr)) A) (n - 4) (c - 4), .int .i64 n] 99)).alloc (.cells #[.pointer (some ⟨w3.heap.size, 0, none⟩), .bool false] 73)) (w3.heap.size + 1) w3.heap.size ⟨rs0 l, false⟩) := ⟨fun w3 hB => start_Tk hB e4 hl hc hDr2⟩
  have hTab := Aside0.mk T
  have hX := Aside0.mk (heap_alloc_new w (.cells #[.int .u8 0, .int .u64 0, .int .i64 0, .int .u64 0, .int .u64 0, .int .u64 0, .slice none 0 0, .slice none 0 0, .slice none 0 0] 29))
  clear hr hf hb hOk T hl hn hc hDr hDr2 hTk hbd hfd e4 hks hU hkk hlim hFn1 hkb hk9 hts htk hbd_ hdn_ hce_
  go_enter Tryd.func17, Tryd.ntmps17
  go_wp2
  have hX1 := Aside0.mk (blk_drew hX.out)
  have hW1 := Aside0.mk (below_drew1 (bel1 w (.cells #[.int .u8 0, .int .u64 0, .int .i64 0, .int .u64 0, .int .u64 0, .int .u64 0, .slice none 0 0, .slice none 0 0, .slice none 0 0] 29)))
  refine start_ (n := 8) (S := fun _ => True) (ds := []) #[false, false, false, false, false, false, false, false] (by kernel_rfl) rfl rfl trivial (fun hHeld => ?_)
  refine pure_ (i := 0) (N := some 13) (v := ?_) (a' := ?_) #[true, false, false, false, false, false, false, false] rfl rfl (by kernel_rfl) (fun _ _ _ h => h) (Or.inl ⟨by rfl, ?_⟩) ?_ ?_
  rotate_left
  · intro w'
    go_simp
    with_reducible rfl
  rotate_left
  · simp only [Act.put, List.setIfInBounds_toArray, List.set_cons_zero, List.set_cons_succ, i64_w, i32_w]
    rfl
  refine pure_ (i := 3) (N := some 16) (v := ?_) (a' := ?_) #[true, false, false, true, false, false, false, false] rfl rfl (by kernel_rfl) (fun _ _ _ h => h) (Or.inl ⟨by rfl, ?_⟩) ?_ ?_
  rotate_left
  · intro w'
    go_simp
    with_reducible rfl
  rotate_left
  · simp only [Act.put, List.setIfInBounds_toArray, List.set_cons_zero, List.set_cons_succ, i64_w, i32_w]
    rfl
  refine pure_ (i := 1) (N := some 14) (v := ?_) (a' := ?_) #[true, true, false, true, false, false, false, false] rfl rfl (by kernel_rfl) (fun _ _ _ h => h) (Or.inl ⟨by rfl, ?_⟩) ?_ ?_
  rotate_left
  · intro w'
    go_simp
    with_reducible rfl
  rotate_left
  · simp only [Act.put, List.setIfInBounds_toArray, List.set_cons_zero, List.set_cons_succ, i64_w, i32_w]
    rfl
  refine pure_ (i := 4) (N := some 17) (v := ?_) (a' := ?_) #[true, true, false, true, true, false, false, false] rfl rfl (by kernel_rfl) (fun _ _ _ h => h) (Or.inl ⟨by rfl, ?_⟩) ?_ ?_
  rotate_left
  · intro w'
    go_simp
    with_reducible rfl
  rotate_left
  · simp only [Act.put, List.setIfInBounds_toArray, List.set_cons_zero, List.set_cons_succ, i64_w, i32_w]
    rfl
  refine one_ (i := 2) (N := some 15) #[true, true, true, true, true, false, false, false] rfl rfl (by kernel_rfl) (by decide) (fun K hK => ?_)
  refine goes_ Tryd.func27 (by kernel_rfl) rfl #[.slice (if c = 4 then A else Option.map (fun x => (⟨x.block, x.off + 4, none⟩ : Addr)) A) (n - 4) (c - 4)] (by rfl) rfl rfl (by (try simp only [List.map_toArray, List.map_cons, List.map_nil]); first | done | rfl) ?_
  refine (hSum.out _ hW1.out).mono ?_
  rintro e w2 ⟨g2, hg2, rfl, hh2, hB2⟩
  refine ⟨_, rfl, ?_⟩
  have hB2' := Aside0.mk (hW1.out.trans (hB2.mono hW1.out.size))
  have hX2 := Aside0.mk (blk_below hX1.out hB2)
  have hg2' := Aside0.mk hh2
  clear hB2 hh2
  refine hK.out _ _ trivial (fun hHeld => ?_)
  clear hK K
  refine norm_ (a' := ?_) ?_ ?_
  rotate_left
  · show Act.put _ (some 15) _ = _
    simp only [Act.put, List.setIfInBounds_toArray, List.set_cons_zero, List.set_cons_succ, i64_w, i32_w]
    rfl
  refine one_ (i := 5) (N := some 18) #[true, true, true, true, true, true, false, false] rfl rfl (by kernel_rfl) (by decide) (fun K hK => ?_)
  refine goes_ Tryd.func35 (by kernel_rfl) rfl #[.slice (some ⟨g2, 0, none⟩) 4 4, .slice A 4 c] (by rfl) rfl rfl (by (try simp only [List.map_toArray, List.map_cons, List.map_nil]); first | done | rfl) ?_
  refine (hEq.out g2 w2 hB2'.out hg2'.out).mono ?_
  rintro e w3 ⟨rfl, hD3⟩
  refine ⟨_, rfl, ?_⟩
  have hB3 := Aside0.mk (hB2'.out.trans (hD3.mono hB2'.out.size))
  have hX3 := Aside0.mk (blk_below hX2.out hD3)
  clear hD3 hX2 hB2' hg2'
  refine hK.out _ _ trivial (fun hHeld => ?_)
  clear hK K
  refine norm_ (a' := ?_) ?_ ?_
  rotate_left
  · show Act.put _ (some 18) _ = _
    simp only [Act.put, List.setIfInBounds_toArray, List.set_cons_zero, List.set_cons_succ, i64_w, i32_w]
    rfl
  refine pure_ (i := 6) (N := some 19) (v := ?_) (a' := ?_) #[true, true, true, true, true, true, true, false] rfl rfl (by kernel_rfl) (fun _ _ _ h => h) (Or.inl ⟨by rfl, ?_⟩) ?_ ?_
  rotate_left
  · intro w'
    go_simp
    with_reducible rfl
  rotate_left
  · simp only [Act.put, List.setIfInBounds_toArray, List.set_cons_zero, List.set_cons_succ, i64_w, i32_w]
    rfl
  refine pure_ (i := 7) (N := some 12) (v := ?_) (a' := ?_) #[true, true, true, true, true, true, true, true] rfl rfl (by kernel_rfl) (fun _ _ _ h => h) (Or.inl ⟨by rfl, ?_⟩) ?_ ?_
  rotate_left
  · intro w'
    go_simp
    with_reducible rfl
  rotate_left
  · simp only [Act.put, List.setIfInBounds_toArray, List.set_cons_zero, List.set_cons_succ, i64_w, i32_w]
    rfl
  refine done_ (by kernel_rfl) ?_
  repeat (first
    | ((with_reducible refine gate_callee (f := 36) rfl ?_); (with_reducible refine gate_dst (N := 25) rfl ?_); refine goesL_ (some 25) rfl rfl Tryd.func36 (by kernel_rfl) rfl #[.slice (Option.map (fun x => (⟨x.block, x.off + 4, none⟩ : Addr)) A) (n - 4) (c - 4), .int .i64 n] rfl (by (try simp only [List.map_toArray, List.map_cons, List.map_nil]); first | done | rfl) ?_; refine (newr_calls _ _ _ _ _).mono ?_; rintro e w4 ⟨rfl, rfl⟩; refine ⟨_, rfl, ?_⟩; have hTk5 := hStart.out _ hB3.out; have ht0 := (blk_cell hTk5.box 0).trans rfl; (try dsimp only))
    | ((with_reducible refine gate_callee (f := 37) rfl ?_); (with_reducible refine gate_dst (N := 32) rfl ?_); refine goesL_ (some 32) rfl rfl Tryd.func37 (by kernel_rfl) rfl #[.pointer (some ⟨w3.heap.size, 0, none⟩)] rfl (by (try simp only [List.map_toArray, List.map_cons, List.map_nil]); first | done | rfl) ?_; refine (hNum.out _ _ hTk5.rd).mono ?_; rintro e w5 ⟨rfl, HR5, G5⟩; refine ⟨_, rfl, ?_⟩; have hT5 := Aside0.mk (hTk5.read HR5 G5); have hX5 := Aside0.mk (blk_grown (blk_alloc (blk_alloc hX3.out _) _) G5 (fun e => Nat.lt_irrefl _ (Nat.lt_of_lt_of_le (blk_lt hX3.out) (Nat.le_of_eq (Option.some.inj e).symm)))); have hB5 := Aside0.mk ((below_alloc (below_alloc hB3.out _) _).trans (grown_bel G5 hB3.out.size (Nat.le_trans hB3.out.size (by simp; omega)))); have G5' := Aside0.mk G5; clear HR5 G5 ht0 hTk5; (try dsimp only))
    | ((with_reducible refine gate_callee (f := 20) rfl ?_); (with_reducible refine gate_dst (N := 34) rfl ?_); refine goesL_ (some 34) rfl rfl Tryd.func20 (by kernel_rfl) rfl #[.int .u64 k] rfl (by (try simp only [List.map_toArray, List.map_cons, List.map_nil]); first | done | rfl) ?_; refine (known_calls _ hk0.out _ (hTab.out.below hB5.out)).mono ?_; rintro e w6 ⟨rfl, rfl⟩; refine ⟨_, rfl, ?_⟩; rw [hkn.out]; (try dsimp only))
    | ((with_reducible refine gate_callee (f := 38) rfl ?_); (with_reducible refine gate_dst (N := 41) rfl ?_); refine goesL_ (some 41) rfl rfl Tryd.func38 (by kernel_rfl) rfl #[.pointer (some ⟨w3.heap.size + 1, 0, none⟩), .agg #[.int .u8 k, .int .u64 0, .int .i64 0, .int .u64 0, .int .u64 0, .int .u64 0, .slice none 0 0, .slice none 0 0, .slice none 0 0]] rfl (by (try simp only [List.map_toArray, List.map_cons, List.map_nil]); first | done | rfl) ?_; refine (hTake.out w5 _ _ hT5.out hB5.out).mono ?_; rintro e w7 ⟨vV, vB, vS, rfl, HV, HB_, HS_, HT7, T7⟩; refine ⟨_, rfl, ?_⟩; obtain ⟨A6, c6, rfl⟩ := Kd.V_slice HV; obtain ⟨A7, c7, rfl⟩ := Kd.V_slice HB_; obtain ⟨A8, c8, rfl⟩ := Kd.V_slice HS_; have hBx := Aside0.mk (heap_alloc_new w7 (.cells #[.int .u8 k, .int .u64 m.n, .int .i64 m.r, .int .u64 m.first, .int .u64 m.last, .int .u64 m.commit, .slice A6 m.V.length c6, .slice A7 m.B.length c7, .slice A8 m.S.length c8] 29)); have hT8 := HT7.below (bel1 w7 (.cells #[.int .u8 k, .int .u64 m.n, .int .i64 m.r, .int .u64 m.first, .int .u64 m.last, .int .u64 m.commit, .slice A6 m.V.length c6, .slice A7 m.B.length c7, .slice A8 m.S.length c8] 29)); have hX7 := T7.keep hX5.out (Nat.ne_of_lt (Nat.lt_succ_of_lt (blk_lt hX3.out))) (Nat.ne_of_lt (blk_lt hX3.out)); have hX8 := Aside0.mk (blk_alloc hX7 (.cells #[.int .u8 k, .int .u64 m.n, .int .i64 m.r, .int .u64 m.first, .int .u64 m.last, .int .u64 m.commit, .slice A6 m.V.length c6, .slice A7 m.B.length c7, .slice A8 m.S.length c8] 29)); have hB7 := T7.bel hB5.out.size (Nat.le_succ_of_le hB3.out.size) hB3.out.size; have hB8 := Aside0.mk (below_alloc (hB5.out.trans hB7) (.cells #[.int .u8 k, .int .u64 m.n, .int .i64 m.r, .int .u64 m.first, .int .u64 m.last, .int .u64 m.commit, .slice A6 m.V.length c6, .slice A7 m.B.length c7, .slice A8 m.S.length c8] 29)); have hV8 := Aside0.mk (Kd.V_alloc HV (.cells #[.int .u8 k, .int .u64 m.n, .int .i64 m.r, .int .u64 m.first, .int .u64 m.last, .int .u64 m.commit, .slice A6 m.V.length c6, .slice A7 m.B.length c7, .slice A8 m.S.length c8] 29)); have hU8 := Aside0.mk (Kd.V_alloc HB_ (.cells #[.int .u8 k, .int .u64 m.n, .int .i64 m.r, .int .u64 m.first, .int .u64 m.last, .int .u64 m.commit, .slice A6 m.V.length c6, .slice A7 m.B.length c7, .slice A8 m.S.length c8] 29)); have hS8 := Aside0.mk (Kd.V_alloc HS_ (.cells #[.int .u8 k, .int .u64 m.n, .int .i64 m.r, .int .u64 m.first, .int .u64 m.last, .int .u64 m.commit, .slice A6 m.V.length c6, .slice A7 m.B.length c7, .slice A8 m.S.length c8] 29)); have hs7 := Aside0.mk (Nat.le_trans (Nat.le_of_lt (Nat.lt_succ_self _)) (Nat.le_trans (Nat.le_of_eq (by simp)) (Nat.le_trans G5'.out.size T7.size)) : w3.heap.size + 1 ≤ w7.heap.size); have ht1 := (blk_cell hT8.box 1).trans rfl; have ht2 := (blk_cell hT8.box 0).trans rfl; have hT8' := Aside0.mk hT8; rw [hbad.out] at ht1; clear HV HB_ HS_ HT7 T7 hX7 hB7 hT8; (try dsimp only))
    | ((with_reducible refine Calls.mono (done_calls w _ _ ts.r hT8'.out.rd hFts.out.fits) ?_); rintro e w9 ⟨rfl, HR9, G9⟩; rw [hdn.out]; have hBx9 := Aside0.mk (blk_grown hBx.out G9 (fun e => by have := Option.some.inj e; have := hs7.out; omega)); have hX9 := Aside0.mk (blk_grown hX8.out G9 (fun e => by have := Option.some.inj e; have := blk_lt hX3.out; omega)); have hB9 := Aside0.mk (hB8.out.trans (grown_bel G9 hB3.out.size hB8.out.size)); have hok9 : ∀ k, w5.heap.size ≤ k → some k ≠ some w3.heap.size := (fun k hk e => by have := Option.some.inj e; have := G5'.out.size; simp at this; omega); have hV9 := Aside0.mk (Kd.V_grown hV8.out G9 hok9); have hU9 := Aside0.mk (Kd.V_grown hU8.out G9 hok9); have hS9_ := Aside0.mk (Kd.V_grown hS8.out G9 hok9); clear HR9 G9 hok9; have hx0 := (blk_cell hBx9.out 0).trans rfl; have hx1 := (blk_cell hBx9.out 1).trans rfl; have hx2 := (blk_cell hBx9.out 2).trans rfl; have hx3 := (blk_cell hBx9.out 3).trans rfl; have hx4 := (blk_cell hBx9.out 4).trans rfl; have hx5 := (blk_cell hBx9.out 5).trans rfl; have hx6 := (blk_cell hBx9.out 6).trans rfl; have hx7 := (blk_cell hBx9.out 7).trans rfl; have hx8 := (blk_cell hBx9.out 8).trans rfl; (try dsimp only))
    | ((with_reducible refine Calls.mono (hChk.out w9 A6 A7 A8 c6 c7 c8 hB9.out ⟨(Kd.V_reads' hV9.out).2.2, (Kd.V_reads' hU9.out).2.2, (Kd.V_reads' hS9_.out).2.2⟩ (Kd.V_reads' hV9.out).2.1 (Kd.V_reads' hU9.out).2.1 (Kd.V_reads' hS9_.out).2.1) ?_); rintro e w10 ⟨rfl, HB10⟩; rw [hce.out]; have hBx10 := Aside0.mk (blk_below hBx9.out HB10); have hX10 := Aside0.mk (blk_below hX9.out HB10); have hB10 := Aside0.mk (hB9.out.trans (HB10.mono hB9.out.size)); have hV10 := Aside0.mk (Kd.V_below hV9.out HB10); have hU10 := Aside0.mk (Kd.V_below hU9.out HB10); have hS10 := Aside0.mk (Kd.V_below hS9_.out HB10); clear HB10; (try clear hx0 hx1 hx2 hx3 hx4 hx5 hx6 hx7 hx8); have hz0 := (blk_cell hX10.out 0).trans rfl; have hy0 := blk_frozen hX10.out 0; have hz1 := (blk_cell hX10.out 1).trans rfl; have hy1 := blk_frozen hX10.out 1; have hz2 := (blk_cell hX10.out 2).trans rfl; have hy2 := blk_frozen hX10.out 2; have hz3 := (blk_cell hX10.out 3).trans rfl; have hy3 := blk_frozen hX10.out 3; have hz4 := (blk_cell hX10.out 4).trans rfl; have hy4 := blk_frozen hX10.out 4; have hz5 := (blk_cell hX10.out 5).trans rfl; have hy5 := blk_frozen hX10.out 5; have hz6 := (blk_cell hX10.out 6).trans rfl; have hy6 := blk_frozen hX10.out 6; have hz7 := (blk_cell hX10.out 7).trans rfl; have hy7 := blk_frozen hX10.out 7; have hz8 := (blk_cell hX10.out 8).trans rfl; have hy8 := blk_frozen hX10.out 8; (try dsimp only))
    | go_step)
  have hS9 := set9 hX10.out (.int .u8 0) (.int .u64 0) (.int .i64 0) (.int .u64 0) (.int .u64 0) (.int .u64 0) (.slice none 0 0) (.slice none 0 0) (.slice none 0 0)
  refine bodyPost_ret (results_ct rfl _ _ w.heap.size 29 _ (0, 0) _ rfl hS9.1 Tryd.underlying29 rfl (by kernel_rfl)) rfl ?_
  exact takeP_zero (hB10.out.trans (grown_bel hS9.2 (Nat.le_refl _) hB10.out.size)) 11
set_option maxHeartbeats 1000000 in
set_option maxRecDepth 100000 in
theorem Take_ok (A : Option Addr) (n c : Nat) (l : List Int) (hl : l.length = n) (hn : 5 ≤ n) (hc : n ≤ c) (w : World) (T : Tabs w) (hr : Kd.C (Kd.int .u8) w A n l) (hb : Bys l) (hf : Fits n) (hOk : sumOk l = true) (hkk : knownB (nR (rs0 l)).1 = true) (hbd_ : (takenM l).2.bad = false) (hdn_ : (doneR (takenM l).2.r).1 = 0) (hce_ : checkM (takenM l).1 (nR (rs0 l)).1.toNat = true) :
    Calls Tryd.prog 17 #[.slice A n c] w (TakeP w ((takenM l).1, 0)) := by
  have hn1 : (5 : Int) ≤ n := by omega
  have c0 : decide ((n : Int) < 5) = false := decide_eq_false (by omega)
  have hn2 : 4 ≤ n := by omega
  have hn3 : (n : Int) < 140737488355328 := by have := hf; unfold Fits at this; omega
  have hcn : n ≤ c := hc
  have hm1 : (4 ≤ (n : Int)) = True := eq_true (by omega)
  have hm2 : (4 ≤ (c : Int)) = True := eq_true (by omega)
  have hcn4 : 4 ≤ c := by omega
  have e4 : (l.drop 4).length = n - 4 := by rw [List.length_drop, hl]
  have hDr : Kd.C (Kd.int .u8) w (if c = 4 then A else Option.map (fun x => (⟨x.block, x.off + 4, none⟩ : Addr)) A) (l.drop 4).length (l.drop 4) := by
    have := Kd.C_drop (m := 4) (c := c) (by rw [hl]; exact hr) (by omega) (by omega)
    exact this
  have hTk : Kd.C (Kd.int .u8) w A 4 (l.take 4) := by
    have := Kd.C_take (m := 4) (by rw [hl]; exact hr) (by omega)
    rwa [show (l.take 4).length = 4 from by simp; omega] at this
  have hbd : Bys (l.drop 4) := fun x hx => hb x (List.mem_of_mem_drop hx)
  have hfd : Fits (l.drop 4).length := by unfold Fits at *; omega
  have hSum : Aside0 (∀ W, Below w.heap.size w W → Calls Tryd.prog 27 #[.slice (if c = 4 then A else Option.map (fun x => (⟨x.block, x.off + 4, none⟩ : Addr)) A) (n - 4) (c - 4)] W fun e w' => ∃ g, W.heap.size ≤ g ∧ e = .returned (.slice (some ⟨g, 0, none⟩) 4 4) ∧ w'.heap[g]? = some (.cells (nums .u8 (sumB (l.drop 4))).toArray 5 (0, 0)) ∧ Below W.heap.size W w') := by
    refine ⟨fun W hW => ?_⟩
    have := sum_calls (if c = 4 then A else Option.map (fun x => (⟨x.block, x.off + 4, none⟩ : Addr)) A) (c - 4) (l.drop 4) W (T.below hW) (Kd.C_below hDr hW) hbd hfd
    rwa [e4] at this
  have hEq : Aside0 (∀ (g : Nat) (W : World), Below w.heap.size w W → W.heap[g]? = some (.cells (nums .u8 (sumB (l.drop 4))).toArray 5 (0, 0)) → Calls Tryd.prog 35 #[.slice (some ⟨g, 0, none⟩) 4 4, .slice A 4 c] W fun e w' => e = .returned (.bool true) ∧ Below W.heap.size W w') := by
    refine ⟨fun g W hW hg => ?_⟩
    have h1 := (Kd.R_reads' (Kd.R_of_own (enc := Value.int .u8) (h1 := fun _ => rfl) (ok := fun _ => True) (own_four hg (Nat.zero_le g)) (fun _ _ => trivial))).2.2
    have h2 := Kd.C_below hTk hW
    have h3 : (l.take 4).length = 4 := by simp; omega
    have := bytes_Equal.calls (some ⟨g, 0, none⟩) 4 (sumB (l.drop 4)) A c (l.take 4) true W h1 (Nat.le_refl _) (by rw [h3]; exact h2) (by omega) (by unfold bytes_Equal.f; rw [← hOk]; rfl)
    rw [h3] at this
    refine this.mono ?_
    rintro e w' ⟨rfl, hD⟩
    exact ⟨rfl, below_drawn hD⟩
  obtain ⟨kd, s1, hks⟩ : ∃ kd s1, nR (rs0 l) = (kd, s1) := ⟨_, _, rfl⟩
  have hU : U kd := by have := nR_U (s := rs0 l) hbd; rwa [hks] at this
  have hlim : (0 : Int) ≤ (rs0 l).lim ∧ (rs0 l).lim < 9223372036854775808 := by show (0 : Int) ≤ (l.length : Int) ∧ (l.length : Int) < _; unfold Fits at hf; omega
  have hFn1 : Fine s1 := by have := (Fine.mk hfd hbd hlim : Fine (rs0 l)).less (less_nR (rs0 l)); rwa [hks] at this
  rw [hks] at hkk
  obtain ⟨k, rfl⟩ := Int.eq_ofNat_of_zero_le hU.1
  have hkb := of_decide_eq_true hkk
  have hkn : Aside0 (knownB (k : Int) = true) := ⟨hkk⟩
  have hk0 := Aside0.mk hU.1
  have hk9 : k < 9 := by omega
  have hk8 : (k : Int) < 9 := by omega
  obtain ⟨m, ts, hts⟩ : ∃ m ts, takesF (fldI k) (m0 k, ⟨s1, false⟩) = (m, ts) := ⟨_, _, rfl⟩
  have htk : takenM l = (m, ts) := by unfold takenM; rw [hks]; exact hts
  rw [htk] at hbd_ hdn_ hce_ ⊢
  have hmk : Aside0 (m.k = k) := by
    have : ∀ (l : List Int) (p : Mg × TS), (takesF l p).1.k = p.1.k := by
      intro l
      induction l with
      | nil => intro p; rfl
      | cons c l ih => intro p; exact (ih _).trans (k_takeF c p)
    have h3 := this (fldI k) (m0 k, ⟨s1, false⟩)
    rw [hts] at h3
    exact ⟨h3⟩
  have hFts : Aside0 (Fine ts.r) := by
    have : ∀ (l : List Int) (p : Mg × TS), Less p.2.r (takesF l p).2.r := by
      intro l
      induction l with
      | nil => intro p; exact Less.refl _
      | cons c l ih => intro p; exact (less_takeF c p).trans (ih _)
    have h3 := this (fldI k) (m0 k, ⟨s1, false⟩)
    rw [hts] at h3
    exact ⟨hFn1.less h3⟩
  have hTake : Aside0 (∀ (W : World) (t g : Nat), Tk w W t g ⟨s1, false⟩ → Below w.heap.size w W → Calls Tryd.prog 38 #[.pointer (some ⟨t, 0, none⟩), .agg #[.int .u8 k, .int .u64 0, .int .i64 0, .int .u64 0, .int .u64 0, .int .u64 0, .slice none 0 0, .slice none 0 0, .slice none 0 0]] W fun e w' => ∃ vV vB vS, e = .returned (.agg #[.int .u8 k, .int .u64 m.n, .int .i64 m.r, .int .u64 m.first, .int .u64 m.last, .int .u64 m.commit, vV, vB, vS]) ∧ Kd.V k52 52 w' W.heap.size (fun k => W.heap.size ≤ k) vV m.V ∧ Kd.V (Kd.slice 5 (Kd.int .u8)) 27 w' W.heap.size (fun k => W.heap.size ≤ k) vB m.B ∧ Kd.V (Kd.int .u8) 5 w' W.heap.size (fun k => W.heap.size ≤ k) vS m.S ∧ Tk w w' t g ts ∧ Two W w' t g) := by
    refine ⟨fun W t g hT hB => ?_⟩
    have := take_calls w W t g ⟨s1, false⟩ hT hFn1 (T.below hB) k k rfl hk9
    rwa [hts] at this
  have hbad : Aside0 (ts.bad = false) := ⟨hbd_⟩
  have hdn : Aside0 ((doneR ts.r).1 = 0) := ⟨hdn_⟩
  have hce : Aside0 (errI (checkM m k) = 0) := ⟨by rw [show checkM m k = true from by rw [hks] at hce_; exact hce_]; rfl⟩
  have hk256 := Aside0.mk (show k < 256 by omega)
  have hfV : Aside0 (Fits m.V.length) := ⟨by
    have h3 := takes_V (fldI k) (m0 k, ⟨s1, false⟩) (by show ([] : List S52).length ≤ 256; simp)
    rw [hts] at h3
    unfold Fits
    have h4 : m.V.length ≤ 256 := h3
    omega⟩
  have hChk : Aside0 (∀ (W : World) (A6 A7 A8 : Option Addr) (c6 c7 c8 : Nat), Below w.heap.size w W → m.At W A6 A7 A8 → m.V.length ≤ c6 → m.B.length ≤ c7 → m.S.length ≤ c8 → Calls Tryd.prog 10 #[.agg #[.int .u8 k, .int .u64 m.n, .int .i64 m.r, .int .u64 m.first, .int .u64 m.last, .int .u64 m.commit, .slice A6 m.V.length c6, .slice A7 m.B.length c7, .slice A8 m.S.length c8]] W fun e w' => e = .returned (.int .i64 (errI (checkM m k))) ∧ Below W.heap.size W w') := by
    refine ⟨fun W A6 A7 A8 c6 c7 c8 hB hAt h6 h7 h8 => ?_⟩
    have := check_m m k hmk.out hk256.out hfV.out A6 A7 A8 c6 c7 c8 W (T.below hB) hAt h6 h7 h8 W (Below.refl _ _)
    unfold Mg.cells at this
    rwa [hmk.out] at this
  have hDr2 : Kd.C (Kd.int .u8) w (Option.map (fun x => (⟨x.block, x.off + 4, none⟩ : Addr)) A) (l.drop 4).length (l.drop 4) := by
    have := hDr
    rwa [if_neg (by omega)] at this
  have hNum : Aside0 (∀ (g : Nat) (V : World), Rd w V g (rs0 l) → Calls Tryd.prog 37 #[.pointer (some ⟨g, 0, none⟩)] V fun e w' => e = .returned (.int .u64 k) ∧ Rd w w' g s1 ∧ V.grownBy w' (some g)) := ⟨fun g V hV => num_at w g hfd hbd hks V hV⟩
  have hStart : Aside0 (∀ (w3 : World), Below w.heap.size w w3 → Tk w ((w3.alloc (.cells #[.int .i64 0, .slice (Option.map (fun x => (⟨x.block, x.off + 4, none⟩ : Addr)) A) (n - 4) (c - 4), .int .i64 n] 99)).alloc (.cells #[.pointer (some ⟨w3.heap.size, 0, none⟩), .bool false] 73)) (w3.heap.size + 1) w3.heap.size ⟨rs0 l, false⟩) := ⟨fun w3 hB => start_Tk hB e4 hl hc hDr2⟩
  have hTab := Aside0.mk T
  have hX := Aside0.mk (heap_alloc_new w (.cells #[.int .u8 0, .int .u64 0, .int .i64 0, .int .u64 0, .int .u64 0, .int .u64 0, .slice none 0 0, .slice none 0 0, .slice none 0 0] 29))
  clear hr hf hb hOk T hl hn hc hDr hDr2 hTk hbd hfd e4 hks hU hkk hlim hFn1 hkb hk9 hts htk hbd_ hdn_ hce_
  go_enter Tryd.func17, Tryd.ntmps17
  go_wp2
  have hX1 := Aside0.mk (blk_drew hX.out)
  have hW1 := Aside0.mk (below_drew1 (bel1 w (.cells #[.int .u8 0, .int .u64 0, .int .i64 0, .int .u64 0, .int .u64 0, .int .u64 0, .slice none 0 0, .slice none 0 0, .slice none 0 0] 29)))
  refine start_ (n := 8) (S := fun _ => True) (ds := []) #[false, false, false, false, false, false, false, false] (by kernel_rfl) rfl rfl trivial (fun hHeld => ?_)
  refine pure_ (i := 0) (N := some 13) (v := ?_) (a' := ?_) #[true, false, false, false, false, false, false, false] rfl rfl (by kernel_rfl) (fun _ _ _ h => h) (Or.inl ⟨by rfl, ?_⟩) ?_ ?_
  rotate_left
  · intro w'
    go_simp
    with_reducible rfl
  rotate_left
  · simp only [Act.put, List.setIfInBounds_toArray, List.set_cons_zero, List.set_cons_succ, i64_w, i32_w]
    rfl
  refine pure_ (i := 3) (N := some 16) (v := ?_) (a' := ?_) #[true, false, false, true, false, false, false, false] rfl rfl (by kernel_rfl) (fun _ _ _ h => h) (Or.inl ⟨by rfl, ?_⟩) ?_ ?_
  rotate_left
  · intro w'
    go_simp
    with_reducible rfl
  rotate_left
  · simp only [Act.put, List.setIfInBounds_toArray, List.set_cons_zero, List.set_cons_succ, i64_w, i32_w]
    rfl
  refine pure_ (i := 1) (N := some 14) (v := ?_) (a' := ?_) #[true, true, false, true, false, false, false, false] rfl rfl (by kernel_rfl) (fun _ _ _ h => h) (Or.inl ⟨by rfl, ?_⟩) ?_ ?_
  rotate_left
  · intro w'
    go_simp
    with_reducible rfl
  rotate_left
  · simp only [Act.put, List.setIfInBounds_toArray, List.set_cons_zero, List.set_cons_succ, i64_w, i32_w]
    rfl
  refine pure_ (i := 4) (N := some 17) (v := ?_) (a' := ?_) #[true, true, false, true, true, false, false, false] rfl rfl (by kernel_rfl) (fun _ _ _ h => h) (Or.inl ⟨by rfl, ?_⟩) ?_ ?_
  rotate_left
  · intro w'
    go_simp
    with_reducible rfl
  rotate_left
  · simp only [Act.put, List.setIfInBounds_toArray, List.set_cons_zero, List.set_cons_succ, i64_w, i32_w]
    rfl
  refine one_ (i := 2) (N := some 15) #[true, true, true, true, true, false, false, false] rfl rfl (by kernel_rfl) (by decide) (fun K hK => ?_)
  refine goes_ Tryd.func27 (by kernel_rfl) rfl #[.slice (if c = 4 then A else Option.map (fun x => (⟨x.block, x.off + 4, none⟩ : Addr)) A) (n - 4) (c - 4)] (by rfl) rfl rfl (by (try simp only [List.map_toArray, List.map_cons, List.map_nil]); first | done | rfl) ?_
  refine (hSum.out _ hW1.out).mono ?_
  rintro e w2 ⟨g2, hg2, rfl, hh2, hB2⟩
  refine ⟨_, rfl, ?_⟩
  have hB2' := Aside0.mk (hW1.out.trans (hB2.mono hW1.out.size))
  have hX2 := Aside0.mk (blk_below hX1.out hB2)
  have hg2' := Aside0.mk hh2
  clear hB2 hh2
  refine hK.out _ _ trivial (fun hHeld => ?_)
  clear hK K
  refine norm_ (a' := ?_) ?_ ?_
  rotate_left
  · show Act.put _ (some 15) _ = _
    simp only [Act.put, List.setIfInBounds_toArray, List.set_cons_zero, List.set_cons_succ, i64_w, i32_w]
    rfl
  refine one_ (i := 5) (N := some 18) #[true, true, true, true, true, true, false, false] rfl rfl (by kernel_rfl) (by decide) (fun K hK => ?_)
  refine goes_ Tryd.func35 (by kernel_rfl) rfl #[.slice (some ⟨g2, 0, none⟩) 4 4, .slice A 4 c] (by rfl) rfl rfl (by (try simp only [List.map_toArray, List.map_cons, List.map_nil]); first | done | rfl) ?_
  refine (hEq.out g2 w2 hB2'.out hg2'.out).mono ?_
  rintro e w3 ⟨rfl, hD3⟩
  refine ⟨_, rfl, ?_⟩
  have hB3 := Aside0.mk (hB2'.out.trans (hD3.mono hB2'.out.size))
  have hX3 := Aside0.mk (blk_below hX2.out hD3)
  clear hD3 hX2 hB2' hg2'
  refine hK.out _ _ trivial (fun hHeld => ?_)
  clear hK K
  refine norm_ (a' := ?_) ?_ ?_
  rotate_left
  · show Act.put _ (some 18) _ = _
    simp only [Act.put, List.setIfInBounds_toArray, List.set_cons_zero, List.set_cons_succ, i64_w, i32_w]
    rfl
  refine pure_ (i := 6) (N := some 19) (v := ?_) (a' := ?_) #[true, true, true, true, true, true, true, false] rfl rfl (by kernel_rfl) (fun _ _ _ h => h) (Or.inl ⟨by rfl, ?_⟩) ?_ ?_
  rotate_left
  · intro w'
    go_simp
    with_reducible rfl
  rotate_left
  · simp only [Act.put, List.setIfInBounds_toArray, List.set_cons_zero, List.set_cons_succ, i64_w, i32_w]
    rfl
  refine pure_ (i := 7) (N := some 12) (v := ?_) (a' := ?_) #[true, true, true, true, true, true, true, true] rfl rfl (by kernel_rfl) (fun _ _ _ h => h) (Or.inl ⟨by rfl, ?_⟩) ?_ ?_
  rotate_left
  · intro w'
    go_simp
    with_reducible rfl
  rotate_left
  · simp only [Act.put, List.setIfInBounds_toArray, List.set_cons_zero, List.set_cons_succ, i64_w, i32_w]
    rfl
  refine done_ (by kernel_rfl) ?_
  repeat (first
    | ((with_reducible refine gate_callee (f := 36) rfl ?_); (with_reducible refine gate_dst (N := 25) rfl ?_); refine goesL_ (some 25) rfl rfl Tryd.func36 (by kernel_rfl) rfl #[.slice (Option.map (fun x => (⟨x.block, x.off + 4, none⟩ : Addr)) A) (n - 4) (c - 4), .int .i64 n] rfl (by (try simp only [List.map_toArray, List.map_cons, List.map_nil]); first | done | rfl) ?_; refine (newr_calls _ _ _ _ _).mono ?_; rintro e w4 ⟨rfl, rfl⟩; refine ⟨_, rfl, ?_⟩; have hTk5 := hStart.out _ hB3.out; have ht0 := (blk_cell hTk5.box 0).trans rfl; (try dsimp only))
    | ((with_reducible refine gate_callee (f := 37) rfl ?_); (with_reducible refine gate_dst (N := 32) rfl ?_); refine goesL_ (some 32) rfl rfl Tryd.func37 (by kernel_rfl) rfl #[.pointer (some ⟨w3.heap.size, 0, none⟩)] rfl (by (try simp only [List.map_toArray, List.map_cons, List.map_nil]); first | done | rfl) ?_; refine (hNum.out _ _ hTk5.rd).mono ?_; rintro e w5 ⟨rfl, HR5, G5⟩; refine ⟨_, rfl, ?_⟩; have hT5 := Aside0.mk (hTk5.read HR5 G5); have hX5 := Aside0.mk (blk_grown (blk_alloc (blk_alloc hX3.out _) _) G5 (fun e => Nat.lt_irrefl _ (Nat.lt_of_lt_of_le (blk_lt hX3.out) (Nat.le_of_eq (Option.some.inj e).symm)))); have hB5 := Aside0.mk ((below_alloc (below_alloc hB3.out _) _).trans (grown_bel G5 hB3.out.size (Nat.le_trans hB3.out.size (by simp; omega)))); have G5' := Aside0.mk G5; clear HR5 G5 ht0 hTk5; (try dsimp only))
    | ((with_reducible refine gate_callee (f := 20) rfl ?_); (with_reducible refine gate_dst (N := 34) rfl ?_); refine goesL_ (some 34) rfl rfl Tryd.func20 (by kernel_rfl) rfl #[.int .u64 k] rfl (by (try simp only [List.map_toArray, List.map_cons, List.map_nil]); first | done | rfl) ?_; refine (known_calls _ hk0.out _ (hTab.out.below hB5.out)).mono ?_; rintro e w6 ⟨rfl, rfl⟩; refine ⟨_, rfl, ?_⟩; rw [hkn.out]; (try dsimp only))
    | ((with_reducible refine gate_callee (f := 38) rfl ?_); (with_reducible refine gate_dst (N := 41) rfl ?_); refine goesL_ (some 41) rfl rfl Tryd.func38 (by kernel_rfl) rfl #[.pointer (some ⟨w3.heap.size + 1, 0, none⟩), .agg #[.int .u8 k, .int .u64 0, .int .i64 0, .int .u64 0, .int .u64 0, .int .u64 0, .slice none 0 0, .slice none 0 0, .slice none 0 0]] rfl (by (try simp only [List.map_toArray, List.map_cons, List.map_nil]); first | done | rfl) ?_; refine (hTake.out w5 _ _ hT5.out hB5.out).mono ?_; rintro e w7 ⟨vV, vB, vS, rfl, HV, HB_, HS_, HT7, T7⟩; refine ⟨_, rfl, ?_⟩; obtain ⟨A6, c6, rfl⟩ := Kd.V_slice HV; obtain ⟨A7, c7, rfl⟩ := Kd.V_slice HB_; obtain ⟨A8, c8, rfl⟩ := Kd.V_slice HS_; have hBx := Aside0.mk (heap_alloc_new w7 (.cells #[.int .u8 k, .int .u64 m.n, .int .i64 m.r, .int .u64 m.first, .int .u64 m.last, .int .u64 m.commit, .slice A6 m.V.length c6, .slice A7 m.B.length c7, .slice A8 m.S.length c8] 29)); have hT8 := HT7.below (bel1 w7 (.cells #[.int .u8 k, .int .u64 m.n, .int .i64 m.r, .int .u64 m.first, .int .u64 m.last, .int .u64 m.commit, .slice A6 m.V.length c6, .slice A7 m.B.length c7, .slice A8 m.S.length c8] 29)); have hX7 := T7.keep hX5.out (Nat.ne_of_lt (Nat.lt_succ_of_lt (blk_lt hX3.out))) (Nat.ne_of_lt (blk_lt hX3.out)); have hX8 := Aside0.mk (blk_alloc hX7 (.cells #[.int .u8 k, .int .u64 m.n, .int .i64 m.r, .int .u64 m.first, .int .u64 m.last, .int .u64 m.commit, .slice A6 m.V.length c6, .slice A7 m.B.length c7, .slice A8 m.S.length c8] 29)); have hB7 := T7.bel hB5.out.size (Nat.le_succ_of_le hB3.out.size) hB3.out.size; have hB8 := Aside0.mk (below_alloc (hB5.out.trans hB7) (.cells #[.int .u8 k, .int .u64 m.n, .int .i64 m.r, .int .u64 m.first, .int .u64 m.last, .int .u64 m.commit, .slice A6 m.V.length c6, .slice A7 m.B.length c7, .slice A8 m.S.length c8] 29)); have hV8 := Aside0.mk (Kd.V_alloc HV (.cells #[.int .u8 k, .int .u64 m.n, .int .i64 m.r, .int .u64 m.first, .int .u64 m.last, .int .u64 m.commit, .slice A6 m.V.length c6, .slice A7 m.B.length c7, .slice A8 m.S.length c8] 29)); have hU8 := Aside0.mk (Kd.V_alloc HB_ (.cells #[.int .u8 k, .int .u64 m.n, .int .i64 m.r, .int .u64 m.first, .int .u64 m.last, .int .u64 m.commit, .slice A6 m.V.length c6, .slice A7 m.B.length c7, .slice A8 m.S.length c8] 29)); have hS8 := Aside0.mk (Kd.V_alloc HS_ (.cells #[.int .u8 k, .int .u64 m.n, .int .i64 m.r, .int .u64 m.first, .int .u64 m.last, .int .u64 m.commit, .slice A6 m.V.length c6, .slice A7 m.B.length c7, .slice A8 m.S.length c8] 29)); have hs7 := Aside0.mk (Nat.le_trans (Nat.le_of_lt (Nat.lt_succ_self _)) (Nat.le_trans (Nat.le_of_eq (by simp)) (Nat.le_trans G5'.out.size T7.size)) : w3.heap.size + 1 ≤ w7.heap.size); have ht1 := (blk_cell hT8.box 1).trans rfl; have ht2 := (blk_cell hT8.box 0).trans rfl; have hT8' := Aside0.mk hT8; rw [hbad.out] at ht1; clear HV HB_ HS_ HT7 T7 hX7 hB7 hT8; (try dsimp only))
    | ((with_reducible refine Calls.mono (done_calls w _ _ ts.r hT8'.out.rd hFts.out.fits) ?_); rintro e w9 ⟨rfl, HR9, G9⟩; rw [hdn.out]; have hBx9 := Aside0.mk (blk_grown hBx.out G9 (fun e => by have := Option.some.inj e; have := hs7.out; omega)); have hX9 := Aside0.mk (blk_grown hX8.out G9 (fun e => by have := Option.some.inj e; have := blk_lt hX3.out; omega)); have hB9 := Aside0.mk (hB8.out.trans (grown_bel G9 hB3.out.size hB8.out.size)); have hok9 : ∀ k, w5.heap.size ≤ k → some k ≠ some w3.heap.size := (fun k hk e => by have := Option.some.inj e; have := G5'.out.size; simp at this; omega); have hV9 := Aside0.mk (Kd.V_grown hV8.out G9 hok9); have hU9 := Aside0.mk (Kd.V_grown hU8.out G9 hok9); have hS9_ := Aside0.mk (Kd.V_grown hS8.out G9 hok9); clear HR9 G9 hok9; have hx0 := (blk_cell hBx9.out 0).trans rfl; have hx1 := (blk_cell hBx9.out 1).trans rfl; have hx2 := (blk_cell hBx9.out 2).trans rfl; have hx3 := (blk_cell hBx9.out 3).trans rfl; have hx4 := (blk_cell hBx9.out 4).trans rfl; have hx5 := (blk_cell hBx9.out 5).trans rfl; have hx6 := (blk_cell hBx9.out 6).trans rfl; have hx7 := (blk_cell hBx9.out 7).trans rfl; have hx8 := (blk_cell hBx9.out 8).trans rfl; (try dsimp only))
    | ((with_reducible refine Calls.mono (hChk.out w9 A6 A7 A8 c6 c7 c8 hB9.out ⟨(Kd.V_reads' hV9.out).2.2, (Kd.V_reads' hU9.out).2.2, (Kd.V_reads' hS9_.out).2.2⟩ (Kd.V_reads' hV9.out).2.1 (Kd.V_reads' hU9.out).2.1 (Kd.V_reads' hS9_.out).2.1) ?_); rintro e w10 ⟨rfl, HB10⟩; rw [hce.out]; have hBx10 := Aside0.mk (blk_below hBx9.out HB10); have hX10 := Aside0.mk (blk_below hX9.out HB10); have hB10 := Aside0.mk (hB9.out.trans (HB10.mono hB9.out.size)); have hV10 := Aside0.mk (Kd.V_below hV9.out HB10); have hU10 := Aside0.mk (Kd.V_below hU9.out HB10); have hS10 := Aside0.mk (Kd.V_below hS9_.out HB10); clear HB10; (try clear hx0 hx1 hx2 hx3 hx4 hx5 hx6 hx7 hx8); have hx0 := (blk_cell hBx10.out 0).trans rfl; have hx1 := (blk_cell hBx10.out 1).trans rfl; have hx2 := (blk_cell hBx10.out 2).trans rfl; have hx3 := (blk_cell hBx10.out 3).trans rfl; have hx4 := (blk_cell hBx10.out 4).trans rfl; have hx5 := (blk_cell hBx10.out 5).trans rfl; have hx6 := (blk_cell hBx10.out 6).trans rfl; have hx7 := (blk_cell hBx10.out 7).trans rfl; have hx8 := (blk_cell hBx10.out 8).trans rfl; have hz0 := (blk_cell hX10.out 0).trans rfl; have hy0 := blk_frozen hX10.out 0; have hz1 := (blk_cell hX10.out 1).trans rfl; have hy1 := blk_frozen hX10.out 1; have hz2 := (blk_cell hX10.out 2).trans rfl; have hy2 := blk_frozen hX10.out 2; have hz3 := (blk_cell hX10.out 3).trans rfl; have hy3 := blk_frozen hX10.out 3; have hz4 := (blk_cell hX10.out 4).trans rfl; have hy4 := blk_frozen hX10.out 4; have hz5 := (blk_cell hX10.out 5).trans rfl; have hy5 := blk_frozen hX10.out 5; have hz6 := (blk_cell hX10.out 6).trans rfl; have hy6 := blk_frozen hX10.out 6; have hz7 := (blk_cell hX10.out 7).trans rfl; have hy7 := blk_frozen hX10.out 7; have hz8 := (blk_cell hX10.out 8).trans rfl; have hy8 := blk_frozen hX10.out 8; (try dsimp only))
    | go_step)
  have hS9 := set9 hX10.out (.int .u8 k) (.int .u64 m.n) (.int .i64 m.r) (.int .u64 m.first) (.int .u64 m.last) (.int .u64 m.commit) (.slice A6 m.V.length c6) (.slice A7 m.B.length c7) (.slice A8 m.S.length c8)
  refine bodyPost_ret (results_ct rfl _ _ w.heap.size 29 _ (0, 0) _ rfl hS9.1 Tryd.underlying29 rfl (by kernel_rfl)) rfl ?_
  have hlt5 := blk_lt hX5.out
  have hokr : ∀ k, w5.heap.size ≤ k → some k ≠ some w.heap.size := fun k hk e => by have := Option.some.inj e; omega
  refine ⟨_, _, _, by rw [hmk.out]; rfl, Kd.V_map (Kd.V_mono (Kd.V_grown hV10.out hS9.2 hokr) (fun k hk => by omega)) (fun _ hf => hf), Kd.V_map (Kd.V_mono (Kd.V_grown hU10.out hS9.2 hokr) (fun k hk => by omega)) (fun _ hf => hf), Kd.V_map (Kd.V_mono (Kd.V_grown hS10.out hS9.2 hokr) (fun k hk => by omega)) (fun _ hf => hf), hB10.out.trans (grown_bel hS9.2 (Nat.le_refl _) hB10.out.size)⟩
theorem Take_calls (A : Option Addr) (c : Nat) (l : List Int) (hc : l.length ≤ c) (w : World) (T : Tabs w) (hr : Kd.C (Kd.int .u8) w A l.length l) (hb : Bys l) (hf : Fits l.length) :
    Calls Tryd.prog 17 #[.slice A l.length c] w (TakeP w (takeM l)) := by
  by_cases h5 : l.length < 5
  · have e : takeM l = (m0 0, 10) := by unfold takeM; rw [if_pos h5]
    rw [e]
    exact Take_short A _ c h5 w
  have hn : 5 ≤ l.length := by omega
  by_cases hs : sumOk l = false
  · have e : takeM l = (m0 0, 12) := by unfold takeM; rw [if_neg h5, if_pos hs]
    rw [e]
    exact Take_sum A _ c l rfl hn hc w T hr hb hf hs
  have hs1 : sumOk l = true := by simpa using hs
  by_cases hk : knownB (nR (rs0 l)).1 = false
  · have e : takeM l = (m0 0, 11) := by unfold takeM; rw [if_neg h5, if_neg hs, if_pos hk]
    rw [e]
    exact Take_form A _ c l rfl hn hc w T hr hb hf hs1 hk
  have hk1 : knownB (nR (rs0 l)).1 = true := by simpa using hk
  have hno : restOk l = false → takeM l = (m0 0, 11) := fun h => by unfold takeM; rw [if_neg h5, if_neg hs, if_neg hk, if_pos h]
  by_cases hbd : (takenM l).2.bad = true
  · rw [hno (by unfold restOk; rw [hbd]; rfl)]
    exact Take_bad A _ c l rfl hn hc w T hr hb hf hs1 hk1 hbd
  have hbd0 : (takenM l).2.bad = false := by simpa using hbd
  by_cases hd : (doneR (takenM l).2.r).1 = 0
  · by_cases hce : checkM (takenM l).1 (nR (rs0 l)).1.toNat = true
    · have e : takeM l = ((takenM l).1, 0) := by
        unfold takeM
        rw [if_neg h5, if_neg hs, if_neg hk, if_neg (by unfold restOk; rw [hbd0, hd, hce]; decide)]
      rw [e]
      exact Take_ok A _ c l rfl hn hc w T hr hb hf hs1 hk1 hbd0 hd hce
    · have hce0 : checkM (takenM l).1 (nR (rs0 l)).1.toNat = false := by simpa using hce
      rw [hno (by unfold restOk; rw [hce0]; simp)]
      exact Take_check A _ c l rfl hn hc w T hr hb hf hs1 hk1 hbd0 hd hce0
  · rw [hno (by unfold restOk; simp [hd])]
    exact Take_done A _ c l rfl hn hc w T hr hb hf hs1 hk1 hbd0 hd
end Go.Proofs.YtfkfboigkpofkaaDoor.M
end
section
namespace Go.Proofs.YtfkfboigkpofkaaDoor.M
open Go.RowKit Go.Proofs.YtfkfboigkpofkaaDoorW.PrintWords Go.Proofs.YtfkfboigkpofkaaDoorW.PrintLast Go.Proofs.YtfkfboigkpofkaaDoorW.PrintMore Go.Proofs.YtfkfboigkpofkaaDoor.PMsgPuts
set_option linter.unusedVariables false
set_option linter.unusedSimpArgs false
theorem C_cellat {α : Type} {d : Kd α} {w : World} {ad : Addr} {n : Nat} {xs : List α} (h : d.C w (some ad) n xs) {j : Nat} (hj : j < n * d.sz) : ∃ x c u, xs[j / d.sz]? = some x ∧ d.K w x c ∧ c[j % d.sz]? = some u ∧ w.cell? (ad.add j) = some u := by
  have hn : 0 < n := by
    rcases Nat.eq_zero_or_pos n with h0 | h0
    · subst h0; simp at hj
    · exact h0
  have hs : 0 < d.sz := by
    rcases Nat.eq_zero_or_pos d.sz with h0 | h0
    · rw [h0] at hj; simp at hj
    · exact h0
  obtain ⟨ad', e, hc⟩ := h.2.2 hn
  obtain rfl := Option.some.inj e
  have hq : j / d.sz < xs.length := by rw [h.1]; exact Nat.div_lt_of_lt_mul (by rw [Nat.mul_comm]; exact hj)
  obtain ⟨c, h1, h2, h3⟩ := hc (j / d.sz) _ (List.getElem?_eq_getElem hq)
  have hr : j % d.sz < c.length := by rw [h1]; exact Nat.mod_lt _ hs
  have h4 := h3 (j % d.sz) _ (List.getElem?_eq_getElem hr)
  rw [Nat.div_add_mod'] at h4
  exact ⟨_, c, _, List.getElem?_eq_getElem hq, h2, List.getElem?_eq_getElem hr, h4⟩
theorem frozen_block {w w' : World} {a : Addr} (h : w'.heap[a.block]? = w.heap[a.block]?) : w'.frozen? a = w.frozen? a := by unfold World.frozen?; rw [h]
def KF {α : Type} (d : Kd α) : Kd (List α) where
  sz := 1
  E := []
  K := fun w xs cs => ∃ A c, cs = [.slice A xs.length c] ∧ xs.length ≤ c ∧ d.C w A xs.length xs ∧ ∀ ad, A = some ad → ∀ j, j < xs.length * d.sz → w.frozen? (ad.add j) = false
  M := fun _ _ _ _ _ => False
  K_len := by
    rintro w x cs ⟨A, c, rfl, _⟩
    rfl
  K_one := by
    rintro w x cs ⟨A, c, rfl, _⟩ u hu
    rw [List.mem_singleton.1 hu]
    rfl
  K_below := by
    rintro w w1 x cs hb ⟨A, c, rfl, hl, hr, hf⟩
    refine ⟨A, c, rfl, hl, Kd.C_below hr hb, fun ad e j hj => ?_⟩
    subst e
    obtain ⟨_, _, u, _, _, _, hu⟩ := C_cellat hr hj
    rw [frozen_block (hb.block _ (World.block_lt_of_cell? w _ hu))]
    exact hf ad rfl j hj
  K_of_M := fun h => h.elim
  M_mono := fun _ h => h.elim
  M_bound := fun h => h.elim
  M_move := fun _ h => h.elim
  M_lower := fun _ h => h.elim
abbrev KW : Kd (List Int) := KF (Kd.int .u8)
def kvw : Kd S52 := Kd.iso (Kd.pair (Kd.int .u64) (Kd.pair k24 KW)) (fun x : S52 => (x.f0, x.f1, x.f2))
abbrev DV : Kd (List S52) := KF kvw
abbrev DB : Kd (List (List Int)) := KF KW
theorem kw_drop {w : World} {x : List Int} {cs : List Value} (h : KW.K w x cs) : (Kd.slice 5 (Kd.int .u8)).K w x cs := by
  obtain ⟨A, c, e, hl, hC, _⟩ := h
  exact ⟨A, c, e, hl, hC⟩
theorem kvw_drop {w : World} {x : S52} {cs : List Value} (h : kvw.K w x cs) : k52.K w x cs := by
  obtain ⟨c0, c1, e, h0, c2, c3, e1, h1, h2⟩ := h
  exact ⟨c0, c1, e, h0, c2, c3, e1, h1, kw_drop h2⟩
theorem Cb_drop {w : World} {A : Option Addr} {n : Nat} {xs : List (List Int)} (h : Kd.C KW w A n xs) : Kd.C (Kd.slice 5 (Kd.int .u8)) w A n xs :=
  ⟨h.1, h.2.1, fun hp => by
    obtain ⟨ad, e, hc⟩ := h.2.2 hp
    exact ⟨ad, e, fun j p hj => by
      obtain ⟨c, h1, h2, h3⟩ := hc j p hj
      exact ⟨c, h1, kw_drop h2, h3⟩⟩⟩
theorem Cv_drop {w : World} {A : Option Addr} {n : Nat} {xs : List S52} (h : Kd.C kvw w A n xs) : Kd.C k52 w A n xs :=
  ⟨h.1, h.2.1, fun hp => by
    obtain ⟨ad, e, hc⟩ := h.2.2 hp
    exact ⟨ad, e, fun j p hj => by
      obtain ⟨c, h1, h2, h3⟩ := hc j p hj
      exact ⟨c, h1, kvw_drop h2, h3⟩⟩⟩
def V2 {α : Type} (D : Kd (List α)) (W : World) (_base : Nat) (ok : Nat → Prop) (v : Value) (xs : List α) : Prop := (∃ A c, v = .slice A xs.length c) ∧ Kd.FK D W ok xs [v]
section
variable {α : Type} {D : Kd (List α)} {d : Kd α} {W W1 : World} {base base' e : Nat} {ok ok' S : Nat → Prop} {v : Value} {xs : List α}
theorem V2_slice (h : V2 D W base ok v xs) : ∃ A c, v = .slice A xs.length c := h.1
theorem V2_mono (h : V2 D W base ok v xs) (hok : ∀ k, ok k → ok' k) : V2 D W base ok' v xs := ⟨h.1, Kd.FK_mono h.2 hok⟩
theorem V2_map (h : V2 D W base ok v xs) (_ : ∀ A : Unit, True → True) : V2 D W base' ok v xs := h
theorem V2_below (h : V2 D W base ok v xs) (hb : Below W.heap.size W W1) : V2 D W1 base ok v xs := ⟨h.1, Kd.FK_below h.2 hb⟩
theorem V2_alloc (h : V2 D W base ok v xs) (o : Obj) : V2 D (W.alloc o) base ok v xs := V2_below h (bel1 W o)
theorem V2_grown (h : V2 D W base ok v xs) {row : Option Nat} (hg : W.grownBy W1 row) (hok : ∀ k, ok k → some k ≠ row) : V2 D W1 base ok v xs := ⟨h.1, Kd.FK_grown h.2 hg hok⟩
theorem V2_far (h : V2 D W base ok v xs) {p : Addr} (hok : ∀ k, ok k → k ≠ p.block) (u : Value) : V2 D (W.setCell p u) base ok v xs := ⟨h.1, Kd.FK_step h.2 (fun k hk _ => Below.heap_setCell W p u k (hok k hk))⟩
theorem V2_kept (h : V2 D W base ok v xs) (hk : Kept W W1 S) (hok : ∀ k, ok k → ¬ S k) : V2 D W1 base ok v xs := ⟨h.1, Kd.FK_step h.2 (fun k ho hlt => hk.2 k hlt (hok k ho))⟩
theorem V2_nil (d : Kd α) (W : World) (base : Nat) (ok : Nat → Prop) : V2 (KF d) W base ok (.slice none 0 0) [] :=
  ⟨⟨none, 0, rfl⟩, fun W' _ => ⟨none, 0, rfl, Nat.le_refl _, Kd.C_nil d W', fun ad e => by cases e⟩⟩
theorem V2_reads' {A : Option Addr} {n c : Nat} (h : V2 (KF d) W base ok (.slice A n c) xs) : n = xs.length ∧ n ≤ c ∧ d.C W A xs.length xs := by
  obtain ⟨A', c', he, hl, hC, _⟩ := Kd.FK_now h.2
  simp only [List.cons.injEq, and_true, Value.slice.injEq] at he
  obtain ⟨rfl, h1, rfl⟩ := he
  exact ⟨h1, by omega, hC⟩
theorem N_V2 (h : Kd.N d e W base ok v xs) : V2 (KF d) W base' ok v xs := by
  refine ⟨Kd.N_slice h, fun W' hW => ?_⟩
  have h1 : Kd.N d e W' base ok v xs := Kd.N_step h hW
  obtain ⟨A, c, rfl, hl, hC⟩ := Kd.N_reads h1
  refine ⟨A, c, rfl, hl, hC, fun ad e1 j hj => ?_⟩
  subst e1
  have hp : 0 < xs.length := by
    rcases Nat.eq_zero_or_pos xs.length with h0 | h0
    · rw [h0] at hj; simp at hj
    · exact h0
  obtain ⟨g, cap, hv, _, _, cells, hcells⟩ := Kd.N_form h1 hp
  simp only [Value.slice.injEq, Option.some.injEq] at hv
  obtain ⟨rfl, _, _⟩ := hv
  rw [add_plain]
  exact blk_frozen hcells _
end
theorem FK_voteW {W : World} {base : Nat} {ok : Nat → Prop} {v : Value} {x : S52} (h : V2 KW W base ok v x.f2) : Kd.FK kvw W ok x [.int .u64 x.f0, .int .u64 x.f1.f0, .int .i64 x.f1.f1, v] := fun W' hW =>
  ⟨[.int .u64 x.f0], [.int .u64 x.f1.f0, .int .i64 x.f1.f1, v], rfl, rfl, ⟨[.int .u64 x.f1.f0, .int .i64 x.f1.f1], [v], rfl, k24_mk W' x.f1, h.2 W' hW⟩⟩
theorem conv_W (w : World) (s : ByteArray) (hs : Fits s.size) (base : Nat) : ∃ (W : World) (v : Value), (convert 9 27 (.string s)).run Tryd.prog w = .ok v W ∧ Below w.heap.size w W ∧ V2 KW W base (fun k => k = w.heap.size) v (bytesOf s) := by
  obtain ⟨W, v, h1, h2, h3⟩ := conv_V w s hs base
  refine ⟨W, v, h1, h2, Kd.V_slice h3, fun W' hW => ?_⟩
  have h0 := Lib.run_convert_string_bytes w 9 27 5 s Tryd.underlying9 Tryd.underlying27 Tryd.underlying5
  rw [h0] at h1
  simp only [Result.ok.injEq] at h1
  obtain ⟨rfl, rfl⟩ := h1
  obtain ⟨A', c', he, hl, hF⟩ := h3
  refine ⟨A', c', by rw [he], hl, hF W' hW, fun ad e j hj => ?_⟩
  simp only [Value.slice.injEq] at he
  obtain ⟨rfl, _, rfl⟩ := he
  obtain rfl := Option.some.inj e
  have hb := hW w.heap.size rfl (by rw [Lib.bytesWorld_size]; omega)
  have hblk : ((⟨w.heap.size, 0, none⟩ : Addr).add j).block = w.heap.size := by rw [add_plain]
  rw [frozen_block (w := Lib.bytesWorld w 5 s) (by rw [hblk]; exact hb)]
  have hnew := Lib.bytesWorld_at_new w 5 s
  have hj2 : j < (bytesOf s).length := by simpa [Kd.int, Kd.scalar] using hj
  rw [bytesOf_length] at hj2
  have hsz : s.size ≤ (Lib.bytesCells w 5 s).size := by
    unfold Lib.bytesCells
    rw [Array.size_append, Array.size_map]
    exact Nat.le_add_right _ _
  rw [add_plain]
  simp only [World.frozen?, hnew, Nat.zero_add]
  simp
  omega
end Go.Proofs.YtfkfboigkpofkaaDoor.M
end
