/- Parts of a proof, pruned and joined by flat.py out of: MD, ME, MF, MG, MH. -/
import Derived.Test.YtfkfboigkpofkaaDoorCOwn3
import Derived.Lib.AppendStr
import Derived.Lib.ConvBytes
import Derived.Laws.BitsAllLaws
section
namespace Go.Proofs.YtfkfboigkpofkaaDoor.M
open Go.RowKit Go.Proofs.YtfkfboigkpofkaaDoorW.PrintWords Go.Proofs.YtfkfboigkpofkaaDoorW.PrintLast Go.Proofs.YtfkfboigkpofkaaDoorW.PrintMore Go.Proofs.YtfkfboigkpofkaaDoor.PMsgPuts
set_option linter.unusedVariables false
set_option linter.unusedSimpArgs false
def U (a : Int) : Prop := 0 ≤ a ∧ a < 18446744073709551616
def uvI (a : Int) : List Int := uv a.toNat
theorem U.wrap (a : Int) : U (IntKind.u64.wrap a) := by
  unfold U
  simp only [IntKind.wrap]
  constructor
  · exact Int.emod_nonneg _ (by decide)
  · exact Int.emod_lt_of_pos _ (by decide)
structure Gr (w : World) (v : Value) (w' : World) (v' : Value) : Prop where
  g : w.grownBy w' v.ownBlock
  l : v'.ownBlock = v.ownBlock ∨ ∃ b, v'.ownBlock = some b ∧ w.heap.size ≤ b
theorem Gr.refl (w : World) (v : Value) : Gr w v w v := ⟨⟨rfl, rfl, rfl, Nat.le_refl _, fun _ _ _ => rfl⟩, .inl rfl⟩
theorem Gr.trans {w w1 w2 : World} {v v1 v2 : Value} (h : Gr w v w1 v1) (k : Gr w1 v1 w2 v2) : Gr w v w2 v2 := by
  refine ⟨⟨k.g.os.trans h.g.os, k.g.tape.trans h.g.tape, k.g.output.trans h.g.output, Nat.le_trans h.g.size k.g.size, fun i hi hne => ?_⟩, ?_⟩
  · refine (k.g.block i (Nat.lt_of_lt_of_le hi h.g.size) ?_).trans (h.g.block i hi hne)
    intro e
    rcases h.l with h3 | ⟨b, h3, hb⟩
    · exact hne (e.trans h3)
    · rw [h3] at e
      obtain rfl := Option.some.inj e
      omega
  · rcases k.l with e | ⟨b, e, hb⟩
    · rcases h.l with e' | ⟨b, e', hb⟩
      · exact .inl (e.trans e')
      · exact .inr ⟨b, e.trans e', hb⟩
    · exact .inr ⟨b, e, Nat.le_trans h.g.size hb⟩
theorem Gr.below {w w' : World} (h : Below w.heap.size w w') (v : Value) : Gr w v w' v := ⟨grown_of_below h _, .inl rfl⟩
theorem Gr.alloc {w w' : World} {v v' : Value} (h : Gr w v w' v') (o : Obj) : Gr w v (w'.alloc o) v' := h.trans (.below (bel1 _ _) _)
theorem Gr.drew {w w' : World} {v v' : Value} (h : Gr w v w' v') : Gr w v w'.drew v' := h.trans (.below (below_drew1 (Below.refl _ _)) _)
theorem own_base {w : World} {base : Nat} {e : TypeId} {size n : Nat} {v : Value} {xs : List Value} (h : w.ownsRow base e size v n xs) : ∀ k, v.ownBlock = some k → base ≤ k := by
  rcases h.2 with ⟨rfl, _⟩ | ⟨g', cap, cur, rfl, hb, _⟩
  · intro k hk; simp [Value.ownBlock] at hk
  · intro k hk
    have : g' = k := by simpa [Value.ownBlock] using hk
    omega
theorem Gr.bel {w w' : World} {v v' : Value} (h : Gr w v w' v') {base : Nat} {e : TypeId} {size n : Nat} {xs : List Value} (HO : w.ownsRow base e size v n xs) (hbase : base ≤ w.heap.size) : Below base w w' :=
  ⟨h.g.os, h.g.tape, h.g.output, h.g.size, fun k hk => h.g.block k (by omega) (fun he => by have := own_base HO k he.symm; omega)⟩
def Put1 (w : World) (base : Nat) (v : Value) (xs ys : List Int) (e : Ending) (w' : World) : Prop :=
  ∃ v', e = .returned v' ∧ w'.ownsRow base 5 1 v' (xs ++ ys).length (nums .u8 (xs ++ ys)) ∧ Gr w v w' v'
def Fits (n : Nat) : Prop := n < 140737488355328
theorem uintI_calls (base : Nat) (v : Value) (xs : List Int) (a : Int) (w : World) (HO : w.ownsRow base 5 1 v xs.length (nums .u8 xs)) (hbase : base ≤ w.heap.size) (hl : Fits (xs.length + (uvI a).length)) (ha : U a) :
    Calls Tryd.prog 26 #[v, .int .u64 a] w (Put1 w base v xs (uvI a)) := by
  obtain ⟨n, rfl⟩ := Int.eq_ofNat_of_zero_le ha.1
  refine (uint_calls base v xs n w HO hbase hl (by have := ha.2; unfold U64; omega)).mono ?_
  rintro e w' ⟨v', rfl, h1, h2, h3⟩
  exact ⟨v', rfl, h1, h2, h3⟩
theorem fits_l {xs ys zs : List Int} (h : Fits (xs.length + (ys ++ zs).length)) : Fits (xs.length + ys.length) := by
  unfold Fits at *
  rw [List.length_append] at h
  omega
theorem fits_r {xs ys zs : List Int} (h : Fits (xs.length + (ys ++ zs).length)) : Fits ((xs ++ ys).length + zs.length) := by
  unfold Fits at *
  rw [List.length_append] at h ⊢
  omega
theorem own_assoc {w : World} {base : Nat} {v : Value} {xs ys zs : List Int} (h : w.ownsRow base 5 1 v (xs ++ ys ++ zs).length (nums .u8 (xs ++ ys ++ zs))) : w.ownsRow base 5 1 v (xs ++ (ys ++ zs)).length (nums .u8 (xs ++ (ys ++ zs))) := by
  rwa [List.append_assoc] at h
theorem str_at {P : Program} {w w' : World} {base t u ty e : Nat} {i : TypeInfo} (ht : P.underlying t = some (.slice e)) (hu : P.underlying u = some .string) (hi : P.info? e = some i) (hz : i.zero = some (.int .u8 0))
    (hsize : i.size = 1) (hby : i.bytes = 1) {v v' : Value} {n : Nat} {xs : List Value} (hown : w.ownsRow base e 1 v n xs) {s : ByteArray} (h63 : n + s.size ≤ maxLen) (hbytes : n + s.size ≤ 140737488355328)
    (hr : (Builtin.append_ #[t, u] ty #[v, .string s]).run P w = .ok v' w') (hn : v' = .slice none 0 0 ↔ v = .slice none 0 0 ∧ s.size = 0) :
    v'.ownBlock = v.ownBlock ∨ ∃ b, v'.ownBlock = some b ∧ w.heap.size ≤ b := by
  have hxl : xs.length = n := by simpa using hown.1
  have hsmall : n + s.size ≤ 9223372036854775807 := by simp only [maxLen] at h63; omega
  rcases hown.2 with ⟨rfl, rfl⟩ | ⟨g, cap, cur, rfl, hbg, hg, hnc, hcm, hcs, htake⟩
  · by_cases hm : s.size = 0
    · exact .inl (by rw [hn.2 ⟨rfl, hm⟩])
    · rw [run_append_nil_string (P := P) w t u ty e i (.int .u8 0) ht hu hi hz s (by omega) (by omega) (by rw [hby]; omega)] at hr
      cases hr
      exact .inr ⟨_, rfl, Nat.le_refl _⟩
  · have hcs' : cur.size = cap := by simpa using hcs
    by_cases hroom : n + s.size ≤ cap
    · rw [Lib.run_append_room_string (P := P) w t u ty e i ht hu hi hsize g n cap cur hg s hroom (by omega)] at hr
      cases hr
      exact .inl rfl
    · rw [Lib.run_append_grow_string (P := P) w t u ty e i (.int .u8 0) ht hu hi hz ⟨g, 0, none⟩ n cap xs (by rw [hsize]; simpa using hxl) (hown.cells (g := g) rfl) s (by omega) (by omega) (by rw [hby]; exact growslice_fits (by omega) (by omega))] at hr
      cases hr
      exact .inr ⟨_, rfl, Nat.le_refl _⟩
section
variable {P : Program} {ops : Array Oper} {rest : List Oper} {o : Oper} {a : Act} {Q : Exit → Act → World → Prop} {W : World}
theorem put_str (base : Nat) (hgd : o.guard = none) (s x : Operand) (t u e : TypeId)
    (ho : o.op = .call { callee := .builtin .append, args := #[s, x], argTypes := #[t, u] })
    (ht : P.underlying t = some (.slice e)) (hu : P.underlying u = some .string) (hinfo : (P.info? e).map (fun i => (i.zero, i.size, i.bytes)) = some (some (.int .u8 0), 1, 1))
    (v : Value) (xs : List Int) (y : ByteArray) (hs : a.eval s = v) (hx : a.eval x = .string y)
    (HO : W.ownsRow base e 1 v xs.length (nums .u8 xs)) (hbase : base ≤ W.heap.size) (hl : xs.length + y.size ≤ 140737488355328)
    (h : ∀ v1 w1, w1.ownsRow base e 1 v1 (xs ++ bytesOf y).length (nums .u8 (xs ++ bytesOf y)) → Gr W v w1 v1 → wpList P ops Q rest (a.put o.dst v1) w1) :
    wpList P ops Q (o :: rest) a W := by
  obtain ⟨i0, hi, hzz⟩ := Option.map_eq_some_iff.1 hinfo
  simp only [Prod.mk.injEq] at hzz
  obtain ⟨hz0, hz1, hz2⟩ := hzz
  obtain ⟨v', w', hr, h2, h3, h4⟩ := Lib.run_append_own_string (P := P) W base t u o.type e i0 ht hu hi hz0 hz1 hz2 v xs.length (nums .u8 xs) HO y (by simp only [maxLen]; omega) hl hbase
  have h5 := str_at ht hu hi hz0 hz1 hz2 HO (by simp only [maxLen]; omega) hl hr h4
  have hl2 : (xs ++ bytesOf y).length = xs.length + y.size := by rw [List.length_append, bytesOf_length]
  have hc : nums .u8 (xs ++ bytesOf y) = nums .u8 xs ++ Lib.strCells y := by
    simp [nums, bytesOf, Lib.strCells, List.map_map, Function.comp_def]
  refine wpList_plain hgd fun K hK => ?_
  unfold Oper.wp execOp
  simp only [ho, resolve, invoke, builtin, Sem.run_bind, Sem.run_pure, Result.andThen_ok, List.map_toArray, List.map_cons, List.map_nil, hs, hx, hr]
  exact hK _ _ (h v' w' (by rw [hl2, hc]; exact h2) ⟨h3, h5⟩)
end
set_option maxHeartbeats 1000000 in
set_option maxRecDepth 100000 in
theorem bput_calls (base : Nat) (v : Value) (xs : List Int) (n r : Int) (w : World) (HO : w.ownsRow base 5 1 v xs.length (nums .u8 xs)) (hbase : base ≤ w.heap.size) (hl : Fits (xs.length + (uvI n ++ uvI (IntKind.u64.wrap r)).length)) (hn : U n) :
    Calls Tryd.prog 47 #[v, .agg #[.int .u64 n, .int .i64 r]] w (Put1 w base v xs (uvI n ++ uvI (IntKind.u64.wrap r))) := by
    go_enter Tryd.func47, Tryd.ntmps47
    go_wp2
    have BK := blk_drew (heap_alloc_new w (.cells #[.int .u64 n, .int .i64 r] 24))
    have HO1 := (HO.alloc (.cells #[.int .u64 n, .int .i64 r] 24)).drew
    have G0 := ((Gr.refl w v).alloc (.cells #[.int .u64 n, .int .i64 r] 24)).drew
    refine start_ (n := 9) (S := fun w' => w'.cell? ⟨w.heap.size, 0, none⟩ = some (.int .u64 n) ∧ w'.cell? ⟨w.heap.size, 1, none⟩ = some (.int .i64 r)) (ds := []) #[false, false, false, false, false, false, false, false, false] (by kernel_rfl) rfl rfl ⟨(blk_cell BK 0).trans rfl, (blk_cell BK 1).trans rfl⟩ (fun hHeld => ?_)
    refine pure_ (i := 0) (N := some 5) (v := ?_) (a' := ?_) #[true, false, false, false, false, false, false, false, false] rfl rfl (by kernel_rfl) (fun _ _ _ h => h) (Or.inl ⟨by rfl, ?_⟩) ?_ ?_
    rotate_left
    · intro w'
      go_simp
      with_reducible rfl
    rotate_left
    · simp only [Act.put, List.setIfInBounds_toArray, List.set_cons_zero, List.set_cons_succ, i64_w, i32_w]
      rfl
    refine pure_ (i := 1) (N := some 6) (v := ?_) (a' := ?_) #[true, true, false, false, false, false, false, false, false] rfl rfl (by kernel_rfl) (fun _ _ _ h => h) (Or.inl ⟨by rfl, ?_⟩) ?_ ?_
    rotate_left
    · intro w'
      go_simp
      with_reducible rfl
    rotate_left
    · simp only [Act.put, List.setIfInBounds_toArray, List.set_cons_zero, List.set_cons_succ, i64_w, i32_w]
      rfl
    refine pure_ (i := 4) (N := some 9) (v := ?_) (a' := ?_) #[true, true, false, false, true, false, false, false, false] rfl rfl (by kernel_rfl) (fun _ _ _ h => h) (Or.inl ⟨by rfl, ?_⟩) ?_ ?_
    rotate_left
    · intro w'
      go_simp
      with_reducible rfl
    rotate_left
    · simp only [Act.put, List.setIfInBounds_toArray, List.set_cons_zero, List.set_cons_succ, i64_w, i32_w]
      rfl
    refine take_ (i := 2) (N := some 7) (v := ?_) (a' := ?_) #[true, true, true, false, true, false, false, false, false] rfl rfl (by kernel_rfl) (fun _ _ _ h => h) (Or.inl ⟨by rfl, ?_⟩) hHeld ?_ ?_
    rotate_left
    · rintro w' ⟨s0, s1⟩
      go_simp
      with_reducible rfl
    rotate_left
    · simp only [Act.put, List.setIfInBounds_toArray, List.set_cons_zero, List.set_cons_succ, i64_w, i32_w]
      rfl
    refine take_ (i := 5) (N := some 10) (v := ?_) (a' := ?_) #[true, true, true, false, true, true, false, false, false] rfl rfl (by kernel_rfl) (fun _ _ _ h => h) (Or.inl ⟨by rfl, ?_⟩) hHeld ?_ ?_
    rotate_left
    · rintro w' ⟨s0, s1⟩
      go_simp
      with_reducible rfl
    rotate_left
    · simp only [Act.put, List.setIfInBounds_toArray, List.set_cons_zero, List.set_cons_succ, i64_w, i32_w]
      rfl
    refine pure_ (i := 6) (N := some 11) (v := ?_) (a' := ?_) #[true, true, true, false, true, true, true, false, false] rfl rfl (by kernel_rfl) (fun _ _ _ h => h) (Or.inl ⟨by rfl, ?_⟩) ?_ ?_
    rotate_left
    · intro w'
      go_simp
      with_reducible rfl
    rotate_left
    · simp only [Act.put, List.setIfInBounds_toArray, List.set_cons_zero, List.set_cons_succ, i64_w, i32_w]
      rfl
    refine one_ (i := 3) (N := some 8) #[true, true, true, true, true, true, true, false, false] rfl rfl (by kernel_rfl) (by decide) (fun K hK => ?_)
    refine goes_ Tryd.func26 (by kernel_rfl) rfl #[v, .int .u64 n] (by rfl) rfl rfl (by (try simp only [List.map_toArray, List.map_cons, List.map_nil]); first | done | rfl) ?_
    refine (uintI_calls base v xs n _ HO1 (by simp; omega) (fits_l hl) hn).mono ?_
    rintro e w1 ⟨v1, rfl, HO2, G1⟩
    refine ⟨_, rfl, ?_⟩
    replace BK := blk_grown BK G1.g (own_ne HO1 BK (by decide))
    have G2 := G0.trans G1
    clear G0 G1 HO1
    have HO1 := HO2
    refine hK.out _ _ ⟨(blk_cell BK 0).trans rfl, (blk_cell BK 1).trans rfl⟩ (fun hHeld => ?_)
    clear hK K
    refine norm_ (a' := ?_) ?_ ?_
    rotate_left
    · show Act.put _ (some 8) _ = _
      simp only [Act.put, List.setIfInBounds_toArray, List.set_cons_zero, List.set_cons_succ, i64_w, i32_w]
      rfl
    refine one_ (i := 7) (N := some 12) #[true, true, true, true, true, true, true, true, false] rfl rfl (by kernel_rfl) (by decide) (fun K hK => ?_)
    refine goes_ Tryd.func26 (by kernel_rfl) rfl #[v1, .int .u64 (IntKind.u64.wrap r)] (by rfl) rfl rfl (by (try simp only [List.map_toArray, List.map_cons, List.map_nil]); first | done | rfl) ?_
    refine (uintI_calls base v1 (xs ++ uvI n) (IntKind.u64.wrap r) _ HO1 (by have := G2.g.size; omega) (fits_r hl) (U.wrap r)).mono ?_
    rintro e w2 ⟨v2, rfl, HO2, G1⟩
    refine ⟨_, rfl, ?_⟩
    replace BK := blk_grown BK G1.g (own_ne HO1 BK (by decide))
    have G3 := G2.trans G1
    clear G2 G1 HO1
    refine hK.out _ _ ⟨(blk_cell BK 0).trans rfl, (blk_cell BK 1).trans rfl⟩ (fun hHeld => ?_)
    clear hK K
    refine norm_ (a' := ?_) ?_ ?_
    rotate_left
    · show Act.put _ (some 12) _ = _
      simp only [Act.put, List.setIfInBounds_toArray, List.set_cons_zero, List.set_cons_succ, i64_w, i32_w]
      rfl
    refine pure_ (i := 8) (N := some 4) (v := ?_) (a' := ?_) #[true, true, true, true, true, true, true, true, true] rfl rfl (by kernel_rfl) (fun _ _ _ h => h) (Or.inl ⟨by rfl, ?_⟩) ?_ ?_
    rotate_left
    · intro w'
      go_simp
      with_reducible rfl
    rotate_left
    · simp only [Act.put, List.setIfInBounds_toArray, List.set_cons_zero, List.set_cons_succ, i64_w, i32_w]
      rfl
    refine done_ (by kernel_rfl) ?_
    try go_wp2
    go_ret
    exact ⟨_, rfl, own_assoc HO2, G3⟩
def textB (s : ByteArray) : List Int := uvI (s.size : Int) ++ bytesOf s
theorem wrap_size (s : ByteArray) (h : Fits s.size) : U (s.size : Int) := by unfold Fits at h; unfold U; omega
set_option maxHeartbeats 1000000 in
set_option maxRecDepth 100000 in
theorem text_calls (base : Nat) (v : Value) (xs : List Int) (s : ByteArray) (w : World) (HO : w.ownsRow base 5 1 v xs.length (nums .u8 xs)) (hbase : base ≤ w.heap.size) (hl : Fits (xs.length + (textB s).length)) :
    Calls Tryd.prog 48 #[v, .string s] w (Put1 w base v xs (textB s)) := by
  have hl0 := Aside0.mk hl
  have hsz : Fits s.size := by
    unfold textB at hl
    unfold Fits at *
    rw [List.length_append, bytesOf_length] at hl
    omega
  clear hl
  have hU := wrap_size s hsz
  have hsz0 := Aside0.mk hsz
  clear hsz
  have hc : Aside0 (Calls Tryd.prog 26 #[v, .int .u64 s.size] w (Put1 w base v xs (uvI s.size))) := ⟨uintI_calls base v xs s.size w HO hbase (fits_l (zs := bytesOf s) hl0.out) hU⟩
  have hlt : (s.size : Int) < 18446744073709551616 := hU.2
  clear hU
  go_enter Tryd.func48, Tryd.ntmps48
  go_wp2_with (first | ((with_reducible refine gate_callee (f := 26) rfl ?_); refine goesL_ (some 9) rfl rfl Tryd.func26 (by kernel_rfl) rfl #[v, .int .u64 s.size] rfl (by (try simp only [List.map_toArray, List.map_cons, List.map_nil]); first | done | rfl) ?_; refine hc.out.mono ?_; rintro e w1 ⟨v1, rfl, HO1, G1⟩; refine ⟨_, rfl, ?_⟩) | ((with_reducible refine gate_builtin (b := .append) (xs := #[.tmp 9, .tmp 10]) rfl ?_); at_builtin; refine put_str base rfl (.tmp 9) (.tmp 10) 27 9 5 rfl Tryd.underlying27 Tryd.underlying9 info5 v1 (xs ++ uvI s.size) s rfl rfl HO1 (by have := G1.g.size; omega) (by have := hl0.out; unfold textB Fits at this; rw [List.length_append] at this ⊢; rw [bytesOf_length] at this; omega) ?_; intro v2 w2 HO2 G2))
  go_ret
  exact ⟨_, rfl, own_assoc HO2, G1.trans G2⟩
def textL (l : List Int) : List Int := textB (strOfNums l)
set_option maxHeartbeats 1000000 in
set_option maxRecDepth 100000 in
theorem one50_calls (base : Nat) (v : Value) (xs : List Int) (A : Option Addr) (c : Nat) (l : List Int) (w : World) (HO : w.ownsRow base 5 1 v xs.length (nums .u8 xs)) (hbase : base ≤ w.heap.size) (hr : Kd.C (Kd.int .u8) w A l.length l) (hl : Fits (xs.length + (textL l).length)) :
    Calls Tryd.prog 50 #[v, .slice A l.length c] w (Put1 w base v xs (textL l)) := by
  have hc := Aside0.mk (text_calls base v xs (strOfNums l) w HO hbase hl)
  have hcv := Kd.C_string (P := Tryd.prog) (A := A) (c := c) Tryd.underlying27 Tryd.underlying5 Tryd.underlying9 hr
  clear hr
  go_enter Tryd.func50, Tryd.ntmps50
  go_wp2_with (first | ((with_reducible refine gate_callee (f := 48) rfl ?_); refine goesL_ (some 8) rfl rfl Tryd.func48 (by kernel_rfl) rfl #[v, .string (strOfNums l)] rfl (by (try simp only [List.map_toArray, List.map_cons, List.map_nil]); first | done | rfl) ?_; refine hc.out.mono ?_; rintro e w1 ⟨v1, rfl, HO1, G1⟩; refine ⟨_, rfl, ?_⟩))
  go_ret
  exact ⟨_, rfl, HO1, G1⟩
def voteB (x : S52) : List Int := uvI x.f0 ++ ((uvI x.f1.f0 ++ uvI (IntKind.u64.wrap x.f1.f1)) ++ textL x.f2)
set_option maxHeartbeats 1000000 in
set_option maxRecDepth 100000 in
theorem one52_calls (w0 : World) (v : Value) (xs : List Int) (sl n r : Int) (A : Option Addr) (c : Nat) (l : List Int) (w : World) (HO : w.ownsRow w0.heap.size 5 1 v xs.length (nums .u8 xs)) (HB : Below w0.heap.size w0 w) (hr : Kd.C (Kd.int .u8) w0 A l.length l)
    (hl0 : Fits (xs.length + (uvI sl ++ ((uvI n ++ uvI (IntKind.u64.wrap r)) ++ textL l)).length)) (hsl0 : U sl) (hn0 : U n) :
    Calls Tryd.prog 52 #[v, .agg #[.int .u64 sl, .int .u64 n, .int .i64 r, .slice A l.length c]] w (Put1 w w0.heap.size v xs (uvI sl ++ ((uvI n ++ uvI (IntKind.u64.wrap r)) ++ textL l))) := by
    have hl := Aside0.mk hl0
    have hsl := Aside0.mk hsl0
    have hn := Aside0.mk hn0
    clear hl0 hsl0 hn0
    have hbase := HB.size
    go_enter Tryd.func52, Tryd.ntmps52
    go_wp2
    have BK := blk_drew (heap_alloc_new w (.cells #[.int .u64 sl, .int .u64 n, .int .i64 r, .slice A l.length c] 52))
    have HO1 := (HO.alloc (.cells #[.int .u64 sl, .int .u64 n, .int .i64 r, .slice A l.length c] 52)).drew
    have HB1 := below_drew1 (below_alloc HB (.cells #[.int .u64 sl, .int .u64 n, .int .i64 r, .slice A l.length c] 52))
    have G0 := ((Gr.refl w v).alloc (.cells #[.int .u64 sl, .int .u64 n, .int .i64 r, .slice A l.length c] 52)).drew
    refine start_ (n := 12) (S := fun w' => w'.cell? ⟨w.heap.size, 0, none⟩ = some (.int .u64 sl) ∧ w'.cell? ⟨w.heap.size, 1, none⟩ = some (.int .u64 n) ∧ w'.cell? ⟨w.heap.size, 2, none⟩ = some (.int .i64 r) ∧ w'.cell? ⟨w.heap.size, 3, none⟩ = some (.slice A l.length c) ∧ Below w0.heap.size w0 w') (ds := []) #[false, false, false, false, false, false, false, false, false, false, false, false] (by kernel_rfl) rfl rfl ⟨(blk_cell BK 0).trans rfl, (blk_cell BK 1).trans rfl, (blk_cell BK 2).trans rfl, (blk_cell BK 3).trans rfl, HB1⟩ (fun hHeld => ?_)
    refine pure_ (i := 0) (N := some 5) (v := ?_) (a' := ?_) #[true, false, false, false, false, false, false, false, false, false, false, false] rfl rfl (by kernel_rfl) (fun _ _ _ h => h) (Or.inl ⟨by rfl, ?_⟩) ?_ ?_
    rotate_left
    · intro w'
      go_simp
      with_reducible rfl
    rotate_left
    · simp only [Act.put, List.setIfInBounds_toArray, List.set_cons_zero, List.set_cons_succ, i64_w, i32_w]
      rfl
    refine pure_ (i := 1) (N := some 6) (v := ?_) (a' := ?_) #[true, true, false, false, false, false, false, false, false, false, false, false] rfl rfl (by kernel_rfl) (fun _ _ _ h => h) (Or.inl ⟨by rfl, ?_⟩) ?_ ?_
    rotate_left
    · intro w'
      go_simp
      with_reducible rfl
    rotate_left
    · simp only [Act.put, List.setIfInBounds_toArray, List.set_cons_zero, List.set_cons_succ, i64_w, i32_w]
      rfl
    refine pure_ (i := 4) (N := some 9) (v := ?_) (a' := ?_) #[true, true, false, false, true, false, false, false, false, false, false, false] rfl rfl (by kernel_rfl) (fun _ _ _ h => h) (Or.inl ⟨by rfl, ?_⟩) ?_ ?_
    rotate_left
    · intro w'
      go_simp
      with_reducible rfl
    rotate_left
    · simp only [Act.put, List.setIfInBounds_toArray, List.set_cons_zero, List.set_cons_succ, i64_w, i32_w]
      rfl
    refine pure_ (i := 7) (N := some 12) (v := ?_) (a' := ?_) #[true, true, false, false, true, false, false, true, false, false, false, false] rfl rfl (by kernel_rfl) (fun _ _ _ h => h) (Or.inl ⟨by rfl, ?_⟩) ?_ ?_
    rotate_left
    · intro w'
      go_simp
      with_reducible rfl
    rotate_left
    · simp only [Act.put, List.setIfInBounds_toArray, List.set_cons_zero, List.set_cons_succ, i64_w, i32_w]
      rfl
    refine take_ (i := 2) (N := some 7) (v := ?_) (a' := ?_) #[true, true, true, false, true, false, false, true, false, false, false, false] rfl rfl (by kernel_rfl) (fun _ _ _ h => h) (Or.inl ⟨by rfl, ?_⟩) hHeld ?_ ?_
    rotate_left
    · rintro w' ⟨s0, s1, s2, s3, s4⟩
      go_simp
      with_reducible rfl
    rotate_left
    · simp only [Act.put, List.setIfInBounds_toArray, List.set_cons_zero, List.set_cons_succ, i64_w, i32_w]
      rfl
    refine take_ (i := 5) (N := some 10) (v := ?_) (a' := ?_) #[true, true, true, false, true, true, false, true, false, false, false, false] rfl rfl (by kernel_rfl) (fun _ _ _ h => h) (Or.inl ⟨by rfl, ?_⟩) hHeld ?_ ?_
    rotate_left
    · rintro w' ⟨s0, s1, s2, s3, s4⟩
      go_simp
      with_reducible rfl
    rotate_left
    · simp only [Act.put, List.setIfInBounds_toArray, List.set_cons_zero, List.set_cons_succ, i64_w, i32_w]
      rfl
    refine take_ (i := 8) (N := some 13) (v := ?_) (a' := ?_) #[true, true, true, false, true, true, false, true, true, false, false, false] rfl rfl (by kernel_rfl) (fun _ _ _ h => h) (Or.inl ⟨by rfl, ?_⟩) hHeld ?_ ?_
    rotate_left
    · rintro w' ⟨s0, s1, s2, s3, s4⟩
      go_simp
      with_reducible rfl
    rotate_left
    · simp only [Act.put, List.setIfInBounds_toArray, List.set_cons_zero, List.set_cons_succ, i64_w, i32_w]
      rfl
    refine take_ (i := 9) (N := some 14) (v := ?_) (a' := ?_) #[true, true, true, false, true, true, false, true, true, true, false, false] rfl rfl (by kernel_rfl) (fun _ _ _ h => h) (Or.inl ⟨by rfl, ?_⟩) hHeld ?_ ?_
    rotate_left
    · rintro w' ⟨s0, s1, s2, s3, s4⟩
      have hcv := Kd.C_string (P := Tryd.prog) (A := A) (c := c) Tryd.underlying27 Tryd.underlying5 Tryd.underlying9 (Kd.C_below hr s4)
      go_simp
      with_reducible rfl
    rotate_left
    · simp only [Act.put, List.setIfInBounds_toArray, List.set_cons_zero, List.set_cons_succ, i64_w, i32_w]
      rfl
    refine one_ (i := 3) (N := some 8) #[true, true, true, true, true, true, false, true, true, true, false, false] rfl rfl (by kernel_rfl) (by decide) (fun K hK => ?_)
    refine goes_ Tryd.func26 (by kernel_rfl) rfl #[v, .int .u64 sl] (by rfl) rfl rfl (by (try simp only [List.map_toArray, List.map_cons, List.map_nil]); first | done | rfl) ?_
    refine (uintI_calls w0.heap.size v xs sl _ HO1 (by have := G0.g.size; omega) (fits_l hl.out) hsl.out).mono ?_
    rintro e w1 ⟨v1, rfl, HO2, G1⟩
    refine ⟨_, rfl, ?_⟩
    replace BK := blk_grown BK G1.g (own_ne HO1 BK (by decide))
    have HB2 := HB1.trans (G1.bel HO1 (by have := G0.g.size; omega))
    have G2 := G0.trans G1
    clear G0 G1 HO1 HB1
    have HO1 := HO2
    have HB1 := HB2
    have G0 := G2
    clear HO2 HB2 G2
    refine hK.out _ _ ⟨(blk_cell BK 0).trans rfl, (blk_cell BK 1).trans rfl, (blk_cell BK 2).trans rfl, (blk_cell BK 3).trans rfl, HB1⟩ (fun hHeld => ?_)
    clear hK K
    refine norm_ (a' := ?_) ?_ ?_
    rotate_left
    · show Act.put _ (some 8) _ = _
      simp only [Act.put, List.setIfInBounds_toArray, List.set_cons_zero, List.set_cons_succ, i64_w, i32_w]
      rfl
    refine one_ (i := 6) (N := some 11) #[true, true, true, true, true, true, true, true, true, true, false, false] rfl rfl (by kernel_rfl) (by decide) (fun K hK => ?_)
    refine goes_ Tryd.func47 (by kernel_rfl) rfl #[v1, .agg #[.int .u64 n, .int .i64 r]] (by rfl) rfl rfl (by (try simp only [List.map_toArray, List.map_cons, List.map_nil]); first | done | rfl) ?_
    refine (bput_calls w0.heap.size v1 (xs ++ uvI sl) n r _ HO1 (by have := G0.g.size; omega) (fits_l (fits_r hl.out)) hn.out).mono ?_
    rintro e w2 ⟨v2, rfl, HO2, G1⟩
    refine ⟨_, rfl, ?_⟩
    replace BK := blk_grown BK G1.g (own_ne HO1 BK (by decide))
    have HB2 := HB1.trans (G1.bel HO1 (by have := G0.g.size; omega))
    have G2 := G0.trans G1
    clear G0 G1 HO1 HB1
    have HO1 := HO2
    have HB1 := HB2
    have G0 := G2
    clear HO2 HB2 G2
    refine hK.out _ _ ⟨(blk_cell BK 0).trans rfl, (blk_cell BK 1).trans rfl, (blk_cell BK 2).trans rfl, (blk_cell BK 3).trans rfl, HB1⟩ (fun hHeld => ?_)
    clear hK K
    refine norm_ (a' := ?_) ?_ ?_
    rotate_left
    · show Act.put _ (some 11) _ = _
      simp only [Act.put, List.setIfInBounds_toArray, List.set_cons_zero, List.set_cons_succ, i64_w, i32_w]
      rfl
    refine one_ (i := 10) (N := some 15) #[true, true, true, true, true, true, true, true, true, true, true, false] rfl rfl (by kernel_rfl) (by decide) (fun K hK => ?_)
    refine goes_ Tryd.func48 (by kernel_rfl) rfl #[v2, .string (strOfNums l)] (by rfl) rfl rfl (by (try simp only [List.map_toArray, List.map_cons, List.map_nil]); first | done | rfl) ?_
    refine (text_calls w0.heap.size v2 (xs ++ uvI sl ++ (uvI n ++ uvI (IntKind.u64.wrap r))) (strOfNums l) _ HO1 (by have := G0.g.size; omega) (fits_r (fits_r hl.out))).mono ?_
    rintro e w3 ⟨v3, rfl, HO2, G1⟩
    refine ⟨_, rfl, ?_⟩
    replace BK := blk_grown BK G1.g (own_ne HO1 BK (by decide))
    have HB2 := HB1.trans (G1.bel HO1 (by have := G0.g.size; omega))
    have G2 := G0.trans G1
    clear G0 G1 HO1 HB1
    have HO1 := HO2
    have HB1 := HB2
    have G0 := G2
    clear HO2 HB2 G2
    refine hK.out _ _ ⟨(blk_cell BK 0).trans rfl, (blk_cell BK 1).trans rfl, (blk_cell BK 2).trans rfl, (blk_cell BK 3).trans rfl, HB1⟩ (fun hHeld => ?_)
    clear hK K
    refine norm_ (a' := ?_) ?_ ?_
    rotate_left
    · show Act.put _ (some 15) _ = _
      simp only [Act.put, List.setIfInBounds_toArray, List.set_cons_zero, List.set_cons_succ, i64_w, i32_w]
      rfl
    refine pure_ (i := 11) (N := some 4) (v := ?_) (a' := ?_) #[true, true, true, true, true, true, true, true, true, true, true, true] rfl rfl (by kernel_rfl) (fun _ _ _ h => h) (Or.inl ⟨by rfl, ?_⟩) ?_ ?_
    rotate_left
    · intro w'
      go_simp
      with_reducible rfl
    rotate_left
    · simp only [Act.put, List.setIfInBounds_toArray, List.set_cons_zero, List.set_cons_succ, i64_w, i32_w]
      rfl
    refine done_ (by kernel_rfl) ?_
    try go_wp2
    go_ret
    exact ⟨_, rfl, own_assoc (own_assoc HO1), G0⟩
def rowB (l : List (List Int)) : List Int := uvI (l.length : Int) ++ l.flatMap textL
def rowV (l : List S52) : List Int := uvI (l.length : Int) ++ l.flatMap voteB
theorem U.len {n : Nat} (h : Fits n) : U (n : Int) := by unfold Fits at h; unfold U; omega
theorem flat_take {α : Type} (f : α → List Int) (l : List α) (k : Nat) (d : α) (h : k < l.length) : (l.take k).flatMap f ++ f (l.getD k d) = (l.take (k + 1)).flatMap f := by
  rw [List.take_succ_eq_append_getElem h, List.flatMap_append]
  simp [List.getD_eq_getElem?_getD, h]
theorem flat_le {α : Type} (f : α → List Int) (l : List α) (k : Nat) : ((l.take k).flatMap f).length ≤ (l.flatMap f).length := by
  conv => rhs; rw [← List.take_append_drop k l, List.flatMap_append, List.length_append]
  omega
theorem fits_row {α : Type} {f : α → List Int} {l : List α} {xs us : List Int} (d : α) (h : Fits (xs.length + (us ++ l.flatMap f).length)) {k : Nat} (hk : k < l.length) :
    Fits ((xs ++ us ++ (l.take k).flatMap f).length + (f (l.getD k d)).length) := by
  have h1 := flat_take f l k d hk
  have h2 := flat_le f l (k + 1)
  rw [← h1] at h2
  unfold Fits at *
  simp only [List.length_append] at h h2 ⊢
  omega
set_option maxHeartbeats 1000000 in
set_option maxRecDepth 100000 in
theorem row49_calls (w0 : World) (v : Value) (xs : List Int) (A : Option Addr) (c : Nat) (l : List (List Int)) (w : World) (HO : w.ownsRow w0.heap.size 5 1 v xs.length (nums .u8 xs)) (HB : Below w0.heap.size w0 w) (hr0 : Kd.C (Kd.slice 5 (Kd.int .u8)) w0 A l.length l)
    (hl0 : Fits (xs.length + (rowB l).length)) (hn : Fits l.length) :
    Calls Tryd.prog 49 #[v, .slice A l.length c, .func (.func 50) #[] #[]] w (Put1 w w0.heap.size v xs (rowB l)) := by
  have hr := Aside0.mk hr0
  have hl := Aside0.mk hl0
  clear hr0 hl0
  have hbase := HB.size
  have hU := U.len hn
  have hlt : (l.length : Int) < 18446744073709551616 := hU.2
  have hc := Aside0.mk (uintI_calls w0.heap.size v xs l.length w HO hbase (fits_l (zs := l.flatMap textL) hl.out) hU)
  clear hU
  have hn1 : (l.length : Int) < 140737488355328 := by unfold Fits at hn; omega
  clear hn
  go_enter Tryd.func49, Tryd.ntmps49
  go_wp2_with (first | ((with_reducible refine gate_callee (f := 26) rfl ?_); refine goesL_ (some 13) rfl rfl Tryd.func26 (by kernel_rfl) rfl #[v, .int .u64 l.length] rfl (by (try simp only [List.map_toArray, List.map_cons, List.map_nil]); first | done | rfl) ?_; refine hc.out.mono ?_; rintro e w1 ⟨v1, rfl, HO1, G1⟩; refine ⟨_, rfl, ?_⟩; (try dsimp only)))
  have HB1 := HB.trans (G1.bel HO hbase)
  clear hc
  go_loopg [0, 16] (l.length + 1) (fun kq v0 v16 w' => ∃ (k : Int) (u : Value), u = v0 ∧ v16 = .int .i64 k ∧ Aside0 (kq + k.toNat = l.length + 1 ∧ 0 ≤ k ∧ k ≤ l.length) ∧ Aside0 (w'.ownsRow w0.heap.size 5 1 v0 (xs ++ uvI l.length ++ (l.take k.toNat).flatMap textL).length (nums .u8 (xs ++ uvI l.length ++ (l.take k.toNat).flatMap textL))) ∧ Aside0 (Below w0.heap.size w0 w') ∧ Aside0 (Gr w v w' v0))
  case atStart => exact ⟨0, _, rfl, rfl, ⟨rfl, by omega, by omega⟩, ⟨by simpa using HO1⟩, ⟨HB1⟩, ⟨G1⟩⟩
  case round =>
    clear HO HB hbase HO1 G1 HB1
    obtain ⟨k, v0, rfl, rfl, hq, HO, HB, HG⟩ := hrel
    by_cases q0 : k < (l.length : Int)
    · have p0 : 0 ≤ k := hq.out.2.1
      have hk : k.toNat < l.length := by omega
      obtain ⟨ad, A0, c0_, ee, hx, _, hi⟩ := at_L4 hr.out k p0 q0
      cases ee
      replace hx := (HB.out.cell (World.block_lt_of_cell? w0 _ hx)).trans hx
      have c0 : decide (k < (l.length : Int)) = true := decide_eq_true q0
      replace p0 := eq_true p0
      replace q0 := eq_true q0
      have hone : Aside0 (Calls Tryd.prog 50 #[v0, .slice A0 (rd_L4 l k).length c0_] wr (Put1 wr w0.heap.size v0 (xs ++ uvI l.length ++ (l.take k.toNat).flatMap textL) (textL (rd_L4 l k)))) := ⟨one50_calls w0.heap.size v0 _ A0 c0_ _ wr HO.out HB.out.size (Kd.C_below hi HB.out) (fits_row _ hl.out hk)⟩
      clear hk
      go_wp2_with (first | ((with_reducible refine gate_tmp rfl ?_); refine closL_ _ rfl rfl Tryd.func50 (by kernel_rfl) rfl #[v0, .slice A0 (rd_L4 l k).length c0_] rfl rfl (by (try simp only [List.map_toArray, List.map_cons, List.map_nil]); first | done | rfl) ?_; refine hone.out.mono ?_; rintro e w1 ⟨v1, rfl, HO1, G1⟩; refine ⟨_, rfl, ?_⟩; (try dsimp only)))
      have hk := of_eq_true q0
      have hw : k + 1 = wrap64 (k + 1) := by
        unfold wrap64
        have := hq.out
        omega
      have ht : (k + 1).toNat = k.toNat + 1 := by
        have := hq.out
        omega
      have hk2 : k.toNat < l.length := by omega
      go_roundg (gk - 1)
      case measure => have := hq.out; omega
      case rel =>
        refine ⟨k + 1, v1, rfl, by rw [← hw], ⟨?_, by omega, by omega⟩, ⟨?_⟩, ⟨HB.out.trans (G1.bel HO.out HB.out.size)⟩, ⟨HG.out.trans G1⟩⟩
        · have := hq.out
          omega
        · rw [ht, ← flat_take textL l k.toNat [] hk2]
          exact own_assoc HO1
    · have c0 : decide (k < (l.length : Int)) = false := decide_eq_false q0
      have hk : k.toNat = l.length := by have := hq.out; omega
      clear q0
      go_wp2
      go_ret
      refine ⟨_, rfl, ?_, HG.out⟩
      have h := HO.out
      rw [hk, List.take_length] at h
      exact own_assoc h
end Go.Proofs.YtfkfboigkpofkaaDoor.M
end
section
namespace Go.Proofs.YtfkfboigkpofkaaDoor.M
open Go.RowKit Go.Proofs.YtfkfboigkpofkaaDoorW.PrintWords Go.Proofs.YtfkfboigkpofkaaDoorW.PrintLast Go.Proofs.YtfkfboigkpofkaaDoorW.PrintMore Go.Proofs.YtfkfboigkpofkaaDoor.PMsgPuts
set_option linter.unusedVariables false
set_option linter.unusedSimpArgs false
def UV (x : S52) : Prop := U x.f0 ∧ U x.f1.f0
set_option maxHeartbeats 1000000 in
set_option maxRecDepth 100000 in
theorem row51_calls (w0 : World) (v : Value) (xs : List Int) (A : Option Addr) (c : Nat) (l : List S52) (w : World) (HO : w.ownsRow w0.heap.size 5 1 v xs.length (nums .u8 xs)) (HB : Below w0.heap.size w0 w) (hr0 : Kd.C k52 w0 A l.length l)
    (hl0 : Fits (xs.length + (rowV l).length)) (hn : Fits l.length) (hUV0 : ∀ x ∈ l, UV x) :
    Calls Tryd.prog 51 #[v, .slice A l.length c, .func (.func 52) #[] #[]] w (Put1 w w0.heap.size v xs (rowV l)) := by
  have hr := Aside0.mk hr0
  have hl := Aside0.mk hl0
  have hUV := Aside0.mk hUV0
  clear hr0 hl0 hUV0
  have hbase := HB.size
  have hU := U.len hn
  have hlt : (l.length : Int) < 18446744073709551616 := hU.2
  have hc := Aside0.mk (uintI_calls w0.heap.size v xs l.length w HO hbase (fits_l (zs := l.flatMap voteB) hl.out) hU)
  clear hU
  have hn1 : (l.length : Int) < 140737488355328 := by unfold Fits at hn; omega
  clear hn
  go_enter Tryd.func51, Tryd.ntmps51
  go_wp2_with (first | ((with_reducible refine gate_callee (f := 26) rfl ?_); refine goesL_ (some 13) rfl rfl Tryd.func26 (by kernel_rfl) rfl #[v, .int .u64 l.length] rfl (by (try simp only [List.map_toArray, List.map_cons, List.map_nil]); first | done | rfl) ?_; refine hc.out.mono ?_; rintro e w1 ⟨v1, rfl, HO1, G1⟩; refine ⟨_, rfl, ?_⟩; (try dsimp only)))
  have HB1 := HB.trans (G1.bel HO hbase)
  clear hc
  go_loopg [0, 16] (l.length + 1) (fun kq v0 v16 w' => ∃ (k : Int) (u : Value), u = v0 ∧ v16 = .int .i64 k ∧ Aside0 (kq + k.toNat = l.length + 1 ∧ 0 ≤ k ∧ k ≤ l.length) ∧ Aside0 (w'.ownsRow w0.heap.size 5 1 v0 (xs ++ uvI l.length ++ (l.take k.toNat).flatMap voteB).length (nums .u8 (xs ++ uvI l.length ++ (l.take k.toNat).flatMap voteB))) ∧ Aside0 (Below w0.heap.size w0 w') ∧ Aside0 (Gr w v w' v0))
  case atStart => exact ⟨0, _, rfl, rfl, ⟨rfl, by omega, by omega⟩, ⟨by simpa using HO1⟩, ⟨HB1⟩, ⟨G1⟩⟩
  case round =>
    clear HO HB hbase HO1 G1 HB1
    obtain ⟨k, v0, rfl, rfl, hq, HO, HB, HG⟩ := hrel
    by_cases q0 : k < (l.length : Int)
    · have p0 : 0 ≤ k := hq.out.2.1
      have hk : k.toNat < l.length := by omega
      obtain ⟨ad, A0, c0_, ee, hx, hx1, hx2, hx3, _, hi⟩ := at_T52 hr.out k p0 q0
      cases ee
      replace hx := (HB.out.cell (World.block_lt_of_cell? w0 _ hx)).trans hx
      replace hx1 := (HB.out.cell (World.block_lt_of_cell? w0 _ hx1)).trans hx1
      replace hx2 := (HB.out.cell (World.block_lt_of_cell? w0 _ hx2)).trans hx2
      replace hx3 := (HB.out.cell (World.block_lt_of_cell? w0 _ hx3)).trans hx3
      have c0 : decide (k < (l.length : Int)) = true := decide_eq_true q0
      replace p0 := eq_true p0
      replace q0 := eq_true q0
      have hv := hUV.out (rd_T52 l k) (by unfold rd_T52; rw [List.getD_eq_getElem?_getD, List.getElem?_eq_getElem hk]; exact List.getElem_mem hk)
      have hone : Aside0 (∀ W, W.ownsRow w0.heap.size 5 1 v0 (xs ++ uvI l.length ++ (l.take k.toNat).flatMap voteB).length (nums .u8 (xs ++ uvI l.length ++ (l.take k.toNat).flatMap voteB)) → Below w0.heap.size w0 W →
          Calls Tryd.prog 52 #[v0, .agg #[.int .u64 (rd_T52 l k).f0, .int .u64 (rd_T52 l k).f1.f0, .int .i64 (rd_T52 l k).f1.f1, .slice A0 (rd_T52 l k).f2.length c0_]] W (Put1 W w0.heap.size v0 (xs ++ uvI l.length ++ (l.take k.toNat).flatMap voteB) (voteB (rd_T52 l k)))) :=
        ⟨fun W h1 h2 => one52_calls w0 v0 _ _ _ _ A0 c0_ _ W h1 h2 hi (fits_row (f := voteB) _ hl.out hk) hv.1 hv.2⟩
      clear hv
      clear hk
      go_wp2_with (first
        | ((with_reducible refine gate_tmp rfl ?_); refine closL_ _ rfl rfl Tryd.func52 (by kernel_rfl) rfl #[v0, .agg #[.int .u64 (rd_T52 l k).f0, .int .u64 (rd_T52 l k).f1.f0, .int .i64 (rd_T52 l k).f1.f1, .slice A0 (rd_T52 l k).f2.length c0_]] rfl rfl (by (try simp only [List.map_toArray, List.map_cons, List.map_nil]); first | done | rfl) ?_; refine (hone.out _ (own_alloc HO.out _) (below_alloc HB.out _)).mono ?_; rintro e w1 ⟨v1, rfl, HO1, G0⟩; have G1 := ((Gr.refl wr v0).alloc _).trans G0; refine ⟨_, rfl, ?_⟩; (try dsimp only)))
      have hk := of_eq_true q0
      have hw : k + 1 = wrap64 (k + 1) := by
        unfold wrap64
        have := hq.out
        omega
      have ht : (k + 1).toNat = k.toNat + 1 := by
        have := hq.out
        omega
      have hk2 : k.toNat < l.length := by omega
      go_roundg (gk - 1)
      case measure => have := hq.out; omega
      case rel =>
        refine ⟨k + 1, v1, rfl, by rw [← hw], ⟨?_, by omega, by omega⟩, ⟨?_⟩, ⟨HB.out.trans (G1.bel HO.out HB.out.size)⟩, ⟨HG.out.trans G1⟩⟩
        · have := hq.out
          omega
        · rw [ht, ← flat_take voteB l k.toNat z52 hk2]
          exact own_assoc HO1
    · have c0 : decide (k < (l.length : Int)) = false := decide_eq_false q0
      have hk : k.toNat = l.length := by have := hq.out; omega
      clear q0
      go_wp2
      go_ret
      refine ⟨_, rfl, ?_, HG.out⟩
      have h := HO.out
      rw [hk, List.take_length] at h
      exact own_assoc h
end Go.Proofs.YtfkfboigkpofkaaDoor.M
end
section
namespace Go.Proofs.YtfkfboigkpofkaaDoor.M
open Go.RowKit Go.Proofs.YtfkfboigkpofkaaDoorW.PrintWords Go.Proofs.YtfkfboigkpofkaaDoorW.PrintLast Go.Proofs.YtfkfboigkpofkaaDoorW.PrintMore Go.Proofs.YtfkfboigkpofkaaDoor.PMsgPuts
set_option linter.unusedVariables false
set_option linter.unusedSimpArgs false
structure Mg where
  k : Int
  n : Int
  r : Int
  first : Int
  last : Int
  commit : Int
  V : List S52
  B : List (List Int)
  S : List Int
structure Mg.Ok (m : Mg) : Prop where
  n : U m.n
  first : U m.first
  last : U m.last
  commit : U m.commit
  V : ∀ x ∈ m.V, UV x
  fV : Fits m.V.length
  fB : Fits m.B.length
structure Mg.At (m : Mg) (w : World) (A6 A7 A8 : Option Addr) : Prop where
  V : Kd.C k52 w A6 m.V.length m.V
  B : Kd.C (Kd.slice 5 (Kd.int .u8)) w A7 m.B.length m.B
  S : Kd.C (Kd.int .u8) w A8 m.S.length m.S
theorem Mg.At.below {m : Mg} {w w' : World} {A6 A7 A8 : Option Addr} (h : m.At w A6 A7 A8) (hb : Below w.heap.size w w') : m.At w' A6 A7 A8 := ⟨Kd.C_below h.V hb, Kd.C_below h.B hb, Kd.C_below h.S hb⟩
abbrev Mg.cells (m : Mg) (A6 A7 A8 : Option Addr) (c6 c7 c8 : Nat) : Array Value := #[.int .u8 m.k, .int .u64 m.n, .int .i64 m.r, .int .u64 m.first, .int .u64 m.last, .int .u64 m.commit, .slice A6 m.V.length c6, .slice A7 m.B.length c7, .slice A8 m.S.length c8]
def layF (m : Mg) (c : Int) : List Int :=
  if c = 98 then uvI m.n ++ uvI (IntKind.u64.wrap m.r) else if c = 99 then uvI m.commit else if c = 102 then uvI m.first else if c = 108 then uvI m.last
  else if c = 112 then textL m.S else if c = 115 then rowB m.B else if c = 118 then rowV m.V else []
def fldI (k : Nat) : List Int := (fld k).map fun c => (c.toNat : Int)
def layB (m : Mg) (k : Nat) : List Int := (fldI k).flatMap (layF m)
theorem fldI_length (k : Nat) : (fldI k).length = (fldS k).size := by
  simp only [fldI, fldS, List.length_map]
  rfl
theorem fldI_mem {k : Nat} (hk : k < 9) : ∀ c ∈ fldI k, c = 98 ∨ c = 99 ∨ c = 102 ∨ c = 108 ∨ c = 112 ∨ c = 115 ∨ c = 118 := by
  match k, hk with
  | 0, _ => decide
  | 1, _ => decide
  | 2, _ => decide
  | 3, _ => decide
  | 4, _ => decide
  | 5, _ => decide
  | 6, _ => decide
  | 7, _ => decide
  | 8, _ => decide
theorem fldI_get {k : Nat} (hk : k < 9) (i : Nat) (hi : i < (fldI k).length) : (fldI k).getD i 0 = 98 ∨ (fldI k).getD i 0 = 99 ∨ (fldI k).getD i 0 = 102 ∨ (fldI k).getD i 0 = 108 ∨ (fldI k).getD i 0 = 112 ∨ (fldI k).getD i 0 = 115 ∨ (fldI k).getD i 0 = 118 := by
  refine fldI_mem hk _ ?_
  rw [List.getD_eq_getElem?_getD, List.getElem?_eq_getElem hi]
  exact List.getElem_mem hi
theorem own_bel {w w' : World} {base : Nat} {e : TypeId} {size n : Nat} {v : Value} {xs : List Value} (h : w.ownsRow base e size v n xs) (hb : Below w.heap.size w w') : w'.ownsRow base e size v n xs :=
  own_move h fun k hk => hb.block k (by obtain ⟨cs, hc⟩ := own_typed h k hk; exact blk_lt hc)
theorem own_lt {w : World} {base : Nat} {e : TypeId} {size n : Nat} {v : Value} {xs : List Value} (h : w.ownsRow base e size v n xs) {g : Nat} (hg : w.heap.size ≤ g) : some g ≠ v.ownBlock := by
  intro he
  obtain ⟨cs, hc⟩ := own_typed h g he.symm
  have := blk_lt hc
  omega
theorem Gr.ne {w w' : World} {v v' : Value} (h : Gr w v w' v') {g : Nat} (hne : some g ≠ v.ownBlock) (hg : g < w.heap.size) : some g ≠ v'.ownBlock := by
  rcases h.l with e | ⟨b, e, hb⟩
  · rw [e]; exact hne
  · rw [e]
    intro he
    obtain rfl := Option.some.inj he
    omega
theorem conv_bytes (w : World) (k : Nat) : ∃ (W : World) (g c : Nat), (convert 9 27 (.string (fldS k))).run Tryd.prog w = .ok (.slice (some ⟨g, 0, none⟩) (fldI k).length c) W ∧ Below w.heap.size w W ∧
    (∀ j : Nat, j < (fldI k).length → W.cell? ⟨g, j, none⟩ = some (.int .u8 ((fldI k).getD j 0))) ∧ w.heap.size = g := by
  refine ⟨Lib.bytesWorld w 5 (fldS k), w.heap.size, grownCap w (fldS k).size 0 5, ?_, ?_, ?_, rfl⟩
  · rw [Lib.run_convert_string_bytes w 9 27 5 (fldS k) Tryd.underlying9 Tryd.underlying27 Tryd.underlying5, fldI_length]
  · refine ⟨rfl, rfl, rfl, ?_, fun i hi => Lib.bytesWorld_at_old _ _ _ _ hi⟩
    rw [Lib.bytesWorld_size]
    omega
  · intro j hj
    rw [Lib.bytesWorld_cell _ _ _ _ (by rw [← fldI_length]; exact hj)]
    congr 2
    simp only [fldI, fldS, List.getD_eq_getElem?_getD, List.getElem?_map]
    have hj' : j < (fld k).length := by simpa [fldI] using hj
    simp [hj']
theorem fldI_short {k : Nat} (hk : k < 9) : (fldI k).length < 5 := by
  match k, hk with
  | 0, _ => decide
  | 1, _ => decide
  | 2, _ => decide
  | 3, _ => decide
  | 4, _ => decide
  | 5, _ => decide
  | 6, _ => decide
  | 7, _ => decide
  | 8, _ => decide
theorem fits_row0 {α : Type} {f : α → List Int} {l : List α} {xs : List Int} (d : α) (h : Fits (xs.length + (l.flatMap f).length)) {k : Nat} (hk : k < l.length) : Fits ((xs ++ (l.take k).flatMap f).length + (f (l.getD k d)).length) := by
  have h1 := fits_row (us := []) d (by simpa using h) hk
  simpa using h1
theorem row_grown {W W' : World} {v v' : Value} {g k base : Nat} {xs : List Int} (h : ∀ j : Nat, j < (fldI k).length → W.cell? ⟨g, j, none⟩ = some (.int .u8 ((fldI k).getD j 0))) (G : Gr W v W' v') (HO : W.ownsRow base 5 1 v xs.length (nums .u8 xs)) (hne : some g ≠ v.ownBlock) :
    ∀ j : Nat, j < (fldI k).length → W'.cell? ⟨g, j, none⟩ = some (.int .u8 ((fldI k).getD j 0)) := by
  intro j hj
  have h1 := h j hj
  refine (World.cell?_of_block (a := ⟨g, j, none⟩) (G.g.block g (World.block_lt_of_cell? W _ h1) hne)).trans h1
set_option maxHeartbeats 4000000 in
set_option maxRecDepth 100000 in
theorem lay_calls (w0 : World) (v : Value) (xs : List Int) (m : Mg) (hok : m.Ok) (k : Nat) (hkm : m.k = k) (hk : k < 9) (A6 A7 A8 : Option Addr) (c6 c7 c8 : Nat) (w : World) (T : Tabs w) (HO : w.ownsRow w0.heap.size 5 1 v xs.length (nums .u8 xs)) (HB : Below w0.heap.size w0 w) (hm : m.At w0 A6 A7 A8)
    (hl0 : Fits (xs.length + (layB m k).length)) :
    Calls Tryd.prog 25 #[v, .agg (m.cells A6 A7 A8 c6 c7 c8)] w (Put1 w w0.heap.size v xs (layB m k)) := by
  have hl := Aside0.mk hl0
  have hM := Aside0.mk hm
  have hOk := Aside0.mk hok
  have hKm := Aside0.mk hkm
  have hc := (T.al (.cells (m.cells A6 A7 A8 c6 c7 c8) 29)).f k hk
  obtain ⟨W2, g2, cp, hcv, hb2, hrow, hg2⟩ := conv_bytes (w.alloc (.cells (m.cells A6 A7 A8 c6 c7 c8) 29)) k
  have HB2 := (below_alloc HB (.cells (m.cells A6 A7 A8 c6 c7 c8) 29)).trans (hb2.mono (Nat.le_trans HB.size (by simp)))
  have G2 := ((Gr.refl w v).alloc (.cells (m.cells A6 A7 A8 c6 c7 c8) 29)).trans (Gr.below hb2 v)
  have HO2 := own_bel (HO.alloc (.cells (m.cells A6 A7 A8 c6 c7 c8) 29)) hb2
  have HX2 := blk_below (heap_alloc_new w (.cells (m.cells A6 A7 A8 c6 c7 c8) 29)) hb2
  have hcv0 := hcv
  unfold Mg.cells at hc hcv HX2 ⊢
  rw [hkm] at hc hcv HX2 ⊢
  have hne : some g2 ≠ v.ownBlock := own_lt HO (by rw [← hg2]; simp)
  have hne' := Aside0.mk hne
  clear T hg2 HO HB hm hl0 hok hkm hb2 hcv0
  have HX2' := Aside0.mk HX2
  have hrow' := Aside0.mk hrow
  clear HX2 hrow hne
  go_enter Tryd.func25, Tryd.ntmps25
  go_wp2
  go_loopg [0, 13] ((fldI k).length + 1) (fun kq v0 v13 w' => ∃ (x : Int) (u : Value), u = v0 ∧ v13 = .int .i64 x ∧ Aside0 (kq + x.toNat = (fldI k).length + 1 ∧ 0 ≤ x ∧ x ≤ (fldI k).length) ∧ Aside0 (w'.ownsRow w0.heap.size 5 1 u (xs ++ ((fldI k).take x.toNat).flatMap (layF m)).length (nums .u8 (xs ++ ((fldI k).take x.toNat).flatMap (layF m)))) ∧ Aside0 (Below w0.heap.size w0 w') ∧ Aside0 (Gr w v w' u) ∧ Aside0 (w'.heap[w.heap.size]? = some (.cells #[.int .u8 k, .int .u64 m.n, .int .i64 m.r, .int .u64 m.first, .int .u64 m.last, .int .u64 m.commit, .slice A6 m.V.length c6, .slice A7 m.B.length c7, .slice A8 m.S.length c8] 29)) ∧ Aside0 ((∀ j : Nat, j < (fldI k).length → w'.cell? ⟨g2, j, none⟩ = some (.int .u8 ((fldI k).getD j 0))) ∧ some g2 ≠ u.ownBlock))
  case atStart => exact ⟨0, _, rfl, rfl, ⟨rfl, by omega, by omega⟩, ⟨by simpa using HO2⟩, ⟨HB2⟩, ⟨G2⟩, ⟨HX2'.out⟩, ⟨hrow'.out, hne'.out⟩⟩
  case round =>
    clear HB2 G2 HO2 HX2' hrow' hne' hc hcv
    obtain ⟨x, v0, rfl, rfl, hq, HO, HB, HG, HX, HR⟩ := hrel
    by_cases q0 : x < ((fldI k).length : Int)
    · have p0 : 0 ≤ x := hq.out.2.1
      have hx0 : x.toNat < (fldI k).length := by omega
      have hx := HR.out.1 x.toNat hx0
      have hbase := HB.out.size
      have hf := Aside0.mk (fits_row0 (f := layF m) 0 hl.out hx0)
      have hb0 := (blk_cell HX.out 0).trans rfl
      have hb1 := (blk_cell HX.out 1).trans rfl
      have hb2 := (blk_cell HX.out 2).trans rfl
      have hb3 := (blk_cell HX.out 3).trans rfl
      have hb4 := (blk_cell HX.out 4).trans rfl
      have hb5 := (blk_cell HX.out 5).trans rfl
      have hb6 := (blk_cell HX.out 6).trans rfl
      have hb7 := (blk_cell HX.out 7).trans rfl
      have hb8 := (blk_cell HX.out 8).trans rfl
      have c0 : decide (x < ((fldI k).length : Int)) = true := decide_eq_true q0
      replace p0 := eq_true p0
      replace q0 := eq_true q0
      have hLn := Aside0.mk (fldI_short hk)
      rcases fldI_get hk x.toNat hx0 with hcc0 | hcc0 | hcc0 | hcc0 | hcc0 | hcc0 | hcc0
      · have hx1 : wr.cell? ⟨g2, x.toNat, none⟩ = some (.int .u8 98) := by rw [hx, hcc0]
        have hcc := Aside0.mk hcc0
        have hf98 : Aside0 (Fits ((xs ++ ((fldI k).take x.toNat).flatMap (layF m)).length + (layF m 98).length)) := ⟨by rw [← hcc0]; exact hf.out⟩
        clear hx hcc0 hf
        -- no more
        have hone : Aside0 (Calls Tryd.prog 47 #[v0, .agg #[.int .u64 m.n, .int .i64 m.r]] wr (Put1 wr w0.heap.size v0 (xs ++ ((fldI k).take x.toNat).flatMap (layF m)) (layF m 98))) := ⟨bput_calls w0.heap.size v0 _ m.n m.r wr HO.out HB.out.size hf98.out hOk.out.n⟩
        clear hx0 hbase hk
        go_wp2_with (first | ((with_reducible refine gate_callee (f := 47) rfl ?_); refine goesL_ (some 23) rfl rfl Tryd.func47 (by kernel_rfl) rfl #[v0, .agg #[.int .u64 m.n, .int .i64 m.r]] rfl (by (try simp only [List.map_toArray, List.map_cons, List.map_nil]); first | done | rfl) ?_; refine hone.out.mono ?_; rintro e w1 ⟨v1, rfl, HO1, G1⟩; refine ⟨_, rfl, ?_⟩; (try dsimp only)))
        have hk := of_eq_true q0
        have hw : x + 1 = wrap64 (x + 1) := by
          unfold wrap64
          have := hq.out
          have := hLn.out
          omega
        have ht : (x + 1).toNat = x.toNat + 1 := by
          have := hq.out
          omega
        have hx2 : x.toNat < (fldI k).length := by omega
        go_roundg (gk - 1)
        case measure => have := hq.out; omega
        case rel =>
          refine ⟨x + 1, v1, rfl, by rw [← hw], ⟨?_, by omega, by omega⟩, ⟨?_⟩, ⟨HB.out.trans (G1.bel HO.out HB.out.size)⟩, ⟨HG.out.trans G1⟩, ⟨blk_grown HX.out G1.g (own_ne HO.out HX.out (by decide))⟩, ⟨?_⟩⟩
          · have := hq.out
            omega
          · rw [ht, ← flat_take (layF m) (fldI k) x.toNat 0 hx2, hcc.out]
            exact own_assoc HO1
          · exact ⟨row_grown HR.out.1 G1 HO.out HR.out.2, G1.ne HR.out.2 (World.block_lt_of_cell? wr _ hx1)⟩
      · have hx1 : wr.cell? ⟨g2, x.toNat, none⟩ = some (.int .u8 99) := by rw [hx, hcc0]
        have hcc := Aside0.mk hcc0
        have hf98 : Aside0 (Fits ((xs ++ ((fldI k).take x.toNat).flatMap (layF m)).length + (layF m 99).length)) := ⟨by rw [← hcc0]; exact hf.out⟩
        clear hx hcc0 hf
        -- no more
        have hone : Aside0 (Calls Tryd.prog 26 #[v0, .int .u64 m.commit] wr (Put1 wr w0.heap.size v0 (xs ++ ((fldI k).take x.toNat).flatMap (layF m)) (layF m 99))) := ⟨uintI_calls w0.heap.size v0 _ m.commit wr HO.out HB.out.size hf98.out hOk.out.commit⟩
        clear hx0 hbase hk
        go_wp2_with (first | ((with_reducible refine gate_callee (f := 26) rfl ?_); refine goesL_ (some 29) rfl rfl Tryd.func26 (by kernel_rfl) rfl #[v0, .int .u64 m.commit] rfl (by (try simp only [List.map_toArray, List.map_cons, List.map_nil]); first | done | rfl) ?_; refine hone.out.mono ?_; rintro e w1 ⟨v1, rfl, HO1, G1⟩; refine ⟨_, rfl, ?_⟩; (try dsimp only)))
        have hk := of_eq_true q0
        have hw : x + 1 = wrap64 (x + 1) := by
          unfold wrap64
          have := hq.out
          have := hLn.out
          omega
        have ht : (x + 1).toNat = x.toNat + 1 := by
          have := hq.out
          omega
        have hx2 : x.toNat < (fldI k).length := by omega
        go_roundg (gk - 1)
        case measure => have := hq.out; omega
        case rel =>
          refine ⟨x + 1, v1, rfl, by rw [← hw], ⟨?_, by omega, by omega⟩, ⟨?_⟩, ⟨HB.out.trans (G1.bel HO.out HB.out.size)⟩, ⟨HG.out.trans G1⟩, ⟨blk_grown HX.out G1.g (own_ne HO.out HX.out (by decide))⟩, ⟨?_⟩⟩
          · have := hq.out
            omega
          · rw [ht, ← flat_take (layF m) (fldI k) x.toNat 0 hx2, hcc.out]
            exact own_assoc HO1
          · exact ⟨row_grown HR.out.1 G1 HO.out HR.out.2, G1.ne HR.out.2 (World.block_lt_of_cell? wr _ hx1)⟩
      · have hx1 : wr.cell? ⟨g2, x.toNat, none⟩ = some (.int .u8 102) := by rw [hx, hcc0]
        have hcc := Aside0.mk hcc0
        have hf98 : Aside0 (Fits ((xs ++ ((fldI k).take x.toNat).flatMap (layF m)).length + (layF m 102).length)) := ⟨by rw [← hcc0]; exact hf.out⟩
        clear hx hcc0 hf
        -- no more
        have hone : Aside0 (Calls Tryd.prog 26 #[v0, .int .u64 m.first] wr (Put1 wr w0.heap.size v0 (xs ++ ((fldI k).take x.toNat).flatMap (layF m)) (layF m 102))) := ⟨uintI_calls w0.heap.size v0 _ m.first wr HO.out HB.out.size hf98.out hOk.out.first⟩
        clear hx0 hbase hk
        go_wp2_with (first | ((with_reducible refine gate_callee (f := 26) rfl ?_); refine goesL_ (some 35) rfl rfl Tryd.func26 (by kernel_rfl) rfl #[v0, .int .u64 m.first] rfl (by (try simp only [List.map_toArray, List.map_cons, List.map_nil]); first | done | rfl) ?_; refine hone.out.mono ?_; rintro e w1 ⟨v1, rfl, HO1, G1⟩; refine ⟨_, rfl, ?_⟩; (try dsimp only)))
        have hk := of_eq_true q0
        have hw : x + 1 = wrap64 (x + 1) := by
          unfold wrap64
          have := hq.out
          have := hLn.out
          omega
        have ht : (x + 1).toNat = x.toNat + 1 := by
          have := hq.out
          omega
        have hx2 : x.toNat < (fldI k).length := by omega
        go_roundg (gk - 1)
        case measure => have := hq.out; omega
        case rel =>
          refine ⟨x + 1, v1, rfl, by rw [← hw], ⟨?_, by omega, by omega⟩, ⟨?_⟩, ⟨HB.out.trans (G1.bel HO.out HB.out.size)⟩, ⟨HG.out.trans G1⟩, ⟨blk_grown HX.out G1.g (own_ne HO.out HX.out (by decide))⟩, ⟨?_⟩⟩
          · have := hq.out
            omega
          · rw [ht, ← flat_take (layF m) (fldI k) x.toNat 0 hx2, hcc.out]
            exact own_assoc HO1
          · exact ⟨row_grown HR.out.1 G1 HO.out HR.out.2, G1.ne HR.out.2 (World.block_lt_of_cell? wr _ hx1)⟩
      · have hx1 : wr.cell? ⟨g2, x.toNat, none⟩ = some (.int .u8 108) := by rw [hx, hcc0]
        have hcc := Aside0.mk hcc0
        have hf98 : Aside0 (Fits ((xs ++ ((fldI k).take x.toNat).flatMap (layF m)).length + (layF m 108).length)) := ⟨by rw [← hcc0]; exact hf.out⟩
        clear hx hcc0 hf
        -- no more
        have hone : Aside0 (Calls Tryd.prog 26 #[v0, .int .u64 m.last] wr (Put1 wr w0.heap.size v0 (xs ++ ((fldI k).take x.toNat).flatMap (layF m)) (layF m 108))) := ⟨uintI_calls w0.heap.size v0 _ m.last wr HO.out HB.out.size hf98.out hOk.out.last⟩
        clear hx0 hbase hk
        go_wp2_with (first | ((with_reducible refine gate_callee (f := 26) rfl ?_); refine goesL_ (some 41) rfl rfl Tryd.func26 (by kernel_rfl) rfl #[v0, .int .u64 m.last] rfl (by (try simp only [List.map_toArray, List.map_cons, List.map_nil]); first | done | rfl) ?_; refine hone.out.mono ?_; rintro e w1 ⟨v1, rfl, HO1, G1⟩; refine ⟨_, rfl, ?_⟩; (try dsimp only)))
        have hk := of_eq_true q0
        have hw : x + 1 = wrap64 (x + 1) := by
          unfold wrap64
          have := hq.out
          have := hLn.out
          omega
        have ht : (x + 1).toNat = x.toNat + 1 := by
          have := hq.out
          omega
        have hx2 : x.toNat < (fldI k).length := by omega
        go_roundg (gk - 1)
        case measure => have := hq.out; omega
        case rel =>
          refine ⟨x + 1, v1, rfl, by rw [← hw], ⟨?_, by omega, by omega⟩, ⟨?_⟩, ⟨HB.out.trans (G1.bel HO.out HB.out.size)⟩, ⟨HG.out.trans G1⟩, ⟨blk_grown HX.out G1.g (own_ne HO.out HX.out (by decide))⟩, ⟨?_⟩⟩
          · have := hq.out
            omega
          · rw [ht, ← flat_take (layF m) (fldI k) x.toNat 0 hx2, hcc.out]
            exact own_assoc HO1
          · exact ⟨row_grown HR.out.1 G1 HO.out HR.out.2, G1.ne HR.out.2 (World.block_lt_of_cell? wr _ hx1)⟩
      · have hx1 : wr.cell? ⟨g2, x.toNat, none⟩ = some (.int .u8 112) := by rw [hx, hcc0]
        have hcc := Aside0.mk hcc0
        have hf98 : Aside0 (Fits ((xs ++ ((fldI k).take x.toNat).flatMap (layF m)).length + (layF m 112).length)) := ⟨by rw [← hcc0]; exact hf.out⟩
        clear hx hcc0 hf
        have hcv := Kd.C_string (P := Tryd.prog) (A := A8) (c := c8) Tryd.underlying27 Tryd.underlying5 Tryd.underlying9 (Kd.C_below hM.out.S HB.out)

        have hone : Aside0 (Calls Tryd.prog 48 #[v0, .string (strOfNums m.S)] wr (Put1 wr w0.heap.size v0 (xs ++ ((fldI k).take x.toNat).flatMap (layF m)) (layF m 112))) := ⟨text_calls w0.heap.size v0 _ (strOfNums m.S) wr HO.out HB.out.size hf98.out⟩
        clear hx0 hbase hk
        go_wp2_with (first | ((with_reducible refine gate_callee (f := 48) rfl ?_); refine goesL_ (some 48) rfl rfl Tryd.func48 (by kernel_rfl) rfl #[v0, .string (strOfNums m.S)] rfl (by (try simp only [List.map_toArray, List.map_cons, List.map_nil]); first | done | rfl) ?_; refine hone.out.mono ?_; rintro e w1 ⟨v1, rfl, HO1, G1⟩; refine ⟨_, rfl, ?_⟩; (try dsimp only)))
        have hk := of_eq_true q0
        have hw : x + 1 = wrap64 (x + 1) := by
          unfold wrap64
          have := hq.out
          have := hLn.out
          omega
        have ht : (x + 1).toNat = x.toNat + 1 := by
          have := hq.out
          omega
        have hx2 : x.toNat < (fldI k).length := by omega
        go_roundg (gk - 1)
        case measure => have := hq.out; omega
        case rel =>
          refine ⟨x + 1, v1, rfl, by rw [← hw], ⟨?_, by omega, by omega⟩, ⟨?_⟩, ⟨HB.out.trans (G1.bel HO.out HB.out.size)⟩, ⟨HG.out.trans G1⟩, ⟨blk_grown HX.out G1.g (own_ne HO.out HX.out (by decide))⟩, ⟨?_⟩⟩
          · have := hq.out
            omega
          · rw [ht, ← flat_take (layF m) (fldI k) x.toNat 0 hx2, hcc.out]
            exact own_assoc HO1
          · exact ⟨row_grown HR.out.1 G1 HO.out HR.out.2, G1.ne HR.out.2 (World.block_lt_of_cell? wr _ hx1)⟩
      · have hx1 : wr.cell? ⟨g2, x.toNat, none⟩ = some (.int .u8 115) := by rw [hx, hcc0]
        have hcc := Aside0.mk hcc0
        have hf98 : Aside0 (Fits ((xs ++ ((fldI k).take x.toNat).flatMap (layF m)).length + (layF m 115).length)) := ⟨by rw [← hcc0]; exact hf.out⟩
        clear hx hcc0 hf
        -- no more
        have hone : Aside0 (Calls Tryd.prog 49 #[v0, .slice A7 m.B.length c7, .func (.func 50) #[] #[]] wr (Put1 wr w0.heap.size v0 (xs ++ ((fldI k).take x.toNat).flatMap (layF m)) (layF m 115))) := ⟨row49_calls w0 v0 _ A7 c7 m.B wr HO.out HB.out hM.out.B hf98.out hOk.out.fB⟩
        clear hx0 hbase hk
        go_wp2_with (first | ((with_reducible refine gate_callee (f := 49) rfl ?_); refine goesL_ (some 54) rfl rfl Tryd.func49 (by kernel_rfl) rfl #[v0, .slice A7 m.B.length c7, .func (.func 50) #[] #[]] rfl (by (try simp only [List.map_toArray, List.map_cons, List.map_nil]); first | done | rfl) ?_; refine hone.out.mono ?_; rintro e w1 ⟨v1, rfl, HO1, G1⟩; refine ⟨_, rfl, ?_⟩; (try dsimp only)))
        have hk := of_eq_true q0
        have hw : x + 1 = wrap64 (x + 1) := by
          unfold wrap64
          have := hq.out
          have := hLn.out
          omega
        have ht : (x + 1).toNat = x.toNat + 1 := by
          have := hq.out
          omega
        have hx2 : x.toNat < (fldI k).length := by omega
        go_roundg (gk - 1)
        case measure => have := hq.out; omega
        case rel =>
          refine ⟨x + 1, v1, rfl, by rw [← hw], ⟨?_, by omega, by omega⟩, ⟨?_⟩, ⟨HB.out.trans (G1.bel HO.out HB.out.size)⟩, ⟨HG.out.trans G1⟩, ⟨blk_grown HX.out G1.g (own_ne HO.out HX.out (by decide))⟩, ⟨?_⟩⟩
          · have := hq.out
            omega
          · rw [ht, ← flat_take (layF m) (fldI k) x.toNat 0 hx2, hcc.out]
            exact own_assoc HO1
          · exact ⟨row_grown HR.out.1 G1 HO.out HR.out.2, G1.ne HR.out.2 (World.block_lt_of_cell? wr _ hx1)⟩
      · have hx1 : wr.cell? ⟨g2, x.toNat, none⟩ = some (.int .u8 118) := by rw [hx, hcc0]
        have hcc := Aside0.mk hcc0
        have hf98 : Aside0 (Fits ((xs ++ ((fldI k).take x.toNat).flatMap (layF m)).length + (layF m 118).length)) := ⟨by rw [← hcc0]; exact hf.out⟩
        clear hx hcc0 hf
        -- no more
        have hone : Aside0 (Calls Tryd.prog 51 #[v0, .slice A6 m.V.length c6, .func (.func 52) #[] #[]] wr (Put1 wr w0.heap.size v0 (xs ++ ((fldI k).take x.toNat).flatMap (layF m)) (layF m 118))) := ⟨row51_calls w0 v0 _ A6 c6 m.V wr HO.out HB.out hM.out.V hf98.out hOk.out.fV hOk.out.V⟩
        clear hx0 hbase hk
        go_wp2_with (first | ((with_reducible refine gate_callee (f := 51) rfl ?_); refine goesL_ (some 60) rfl rfl Tryd.func51 (by kernel_rfl) rfl #[v0, .slice A6 m.V.length c6, .func (.func 52) #[] #[]] rfl (by (try simp only [List.map_toArray, List.map_cons, List.map_nil]); first | done | rfl) ?_; refine hone.out.mono ?_; rintro e w1 ⟨v1, rfl, HO1, G1⟩; refine ⟨_, rfl, ?_⟩; (try dsimp only)))
        have hk := of_eq_true q0
        have hw : x + 1 = wrap64 (x + 1) := by
          unfold wrap64
          have := hq.out
          have := hLn.out
          omega
        have ht : (x + 1).toNat = x.toNat + 1 := by
          have := hq.out
          omega
        have hx2 : x.toNat < (fldI k).length := by omega
        go_roundg (gk - 1)
        case measure => have := hq.out; omega
        case rel =>
          refine ⟨x + 1, v1, rfl, by rw [← hw], ⟨?_, by omega, by omega⟩, ⟨?_⟩, ⟨HB.out.trans (G1.bel HO.out HB.out.size)⟩, ⟨HG.out.trans G1⟩, ⟨blk_grown HX.out G1.g (own_ne HO.out HX.out (by decide))⟩, ⟨?_⟩⟩
          · have := hq.out
            omega
          · rw [ht, ← flat_take (layF m) (fldI k) x.toNat 0 hx2, hcc.out]
            exact own_assoc HO1
          · exact ⟨row_grown HR.out.1 G1 HO.out HR.out.2, G1.ne HR.out.2 (World.block_lt_of_cell? wr _ hx1)⟩
    · have c0 : decide (x < ((fldI k).length : Int)) = false := decide_eq_false q0
      have hk2 : x.toNat = (fldI k).length := by have := hq.out; omega
      clear q0 hk
      go_wp2
      go_ret
      refine ⟨_, rfl, ?_, HG.out⟩
      have h := HO.out
      rw [hk2, List.take_length] at h
      exact h
end Go.Proofs.YtfkfboigkpofkaaDoor.M
end
section
namespace Go.Proofs.YtfkfboigkpofkaaDoor.M
open Go.RowKit Go.Proofs.YtfkfboigkpofkaaDoorW.PrintWords Go.Proofs.YtfkfboigkpofkaaDoorW.PrintLast Go.Proofs.YtfkfboigkpofkaaDoorW.PrintMore Go.Proofs.YtfkfboigkpofkaaDoor.PMsgPuts
set_option linter.unusedVariables false
set_option linter.unusedSimpArgs false
def stpN (i : Nat) : Nat := (stp i).toNat
theorem stp_nat {i : Nat} (h : i < 16) : stp i = (stpN i : Int) := by
  match i, h with
  | 0, _ => rfl
  | 1, _ => rfl
  | 2, _ => rfl
  | 3, _ => rfl
  | 4, _ => rfl
  | 5, _ => rfl
  | 6, _ => rfl
  | 7, _ => rfl
  | 8, _ => rfl
  | 9, _ => rfl
  | 10, _ => rfl
  | 11, _ => rfl
  | 12, _ => rfl
  | 13, _ => rfl
  | 14, _ => rfl
  | 15, _ => rfl
  | n + 16, h => exact absurd h (by omega)
theorem stpN_lt {i : Nat} (h : i < 16) : stpN i < 4294967296 := by
  match i, h with
  | 0, _ => decide
  | 1, _ => decide
  | 2, _ => decide
  | 3, _ => decide
  | 4, _ => decide
  | 5, _ => decide
  | 6, _ => decide
  | 7, _ => decide
  | 8, _ => decide
  | 9, _ => decide
  | 10, _ => decide
  | 11, _ => decide
  | 12, _ => decide
  | 13, _ => decide
  | 14, _ => decide
  | 15, _ => decide
  | n + 16, h => exact absurd h (by omega)
def nibN (c x : Nat) : Nat := (c / 16) ^^^ stpN ((c ^^^ x) % 16)
theorem nibN_lt {c x : Nat} (hc : c < 4294967296) : nibN c x < 4294967296 := by
  unfold nibN
  exact Nat.xor_lt_two_pow (n := 32) (by omega) (stpN_lt (by omega))
theorem u32_at {c x : Nat} (hc : c < 4294967296) (hx : x < 256) : bits .and .u32 (bits .xor .u32 (c : Int) (IntKind.u32.wrap (x : Int))) 15 = (((c ^^^ x) % 16 : Nat) : Int) := by
  have hw : IntKind.u32.wrap (x : Int) = (x : Int) := by rw [IntKind.wrap_u32]; omega
  have h2 : c ^^^ x < 4294967296 := Nat.xor_lt_two_pow (n := 32) (by omega) (by omega)
  rw [hw, u32_xor_nat c x (by omega) (by omega), show (15 : Int) = ((15 : Nat) : Int) from rfl, u32_and_nat _ 15 (by omega) (by omega)]
  congr 1
  exact Nat.and_two_pow_sub_one_eq_mod _ 4
set_option maxHeartbeats 1000000 in
set_option maxRecDepth 100000 in
theorem four_calls (x c g : Nat) (hx : x < 256) (hc : c < 4294967296) (w : World) (T : Tabs w) (hb : w.heap[g]? = some (.cells #[.int .u32 c] 64 (0, 0))) :
    Calls Tryd.prog 75 #[.int .u8 x, .pointer (some ⟨g, 0, none⟩)] w fun e w' => (∃ v, e = .returned v) ∧ w'.heap[g]? = some (.cells #[.int .u32 (nibN c x)] 64 (0, 0)) ∧ w.grownBy w' (some g) := by
    have BK := blk_drew hb
    have ht : w.drew.cell? ⟨2, ((c ^^^ x) % 16 : Nat), none⟩ = some (.int .u32 (stpN ((c ^^^ x) % 16))) := by
      rw [← stp_nat (by omega)]
      exact T.s _ (by omega)
    have hat := u32_at hc hx
    obtain ⟨j, hj⟩ : ∃ j, (c ^^^ x) % 16 = j := ⟨_, rfl⟩
    have hj16 : j < 16 := by omega
    have hni : nibN c x = (c / 16) ^^^ stpN j := by unfold nibN; rw [hj]
    have hsl := stpN_lt hj16
    rw [hj] at hat ht
    have hxx : bits .xor .u32 ((c : Int) / 16) (stpN j : Int) = ((nibN c x : Nat) : Int) := by rw [hni, show (c : Int) / 16 = ((c / 16 : Nat) : Int) from by omega, u32_xor_nat _ _ (by omega) hsl]
    have hj0 : (0 ≤ (j : Int)) = True := eq_true (by omega)
    have hj1 : ((j : Int) < 16) = True := eq_true (by omega)
    clear hj hni hsl
    clear T
    go_enter Tryd.func75, Tryd.ntmps75
    go_wp2
    refine start_ (n := 11) (S := fun w' => w'.cell? ⟨g, 0, none⟩ = some (.int .u32 c) ∧ w'.cell? ⟨2, j, none⟩ = some (.int .u32 (stpN j))) (ds := [10]) #[false, false, false, false, false, false, false, false, false, false, false] (by kernel_rfl) rfl rfl ⟨(blk_cell BK 0).trans rfl, ht⟩ (fun hHeld => ?_)
    refine pure_ (i := 3) (N := some 6) (v := ?_) (a' := ?_) #[false, false, false, true, false, false, false, false, false, false, false] rfl rfl (by kernel_rfl) (fun _ _ _ h => h) (Or.inl ⟨by rfl, ?_⟩) ?_ ?_
    rotate_left
    · intro w'
      go_simp
      with_reducible rfl
    rotate_left
    · simp only [Act.put, List.setIfInBounds_toArray, List.set_cons_zero, List.set_cons_succ, i64_w, i32_w]
      rfl
    refine pure_ (i := 4) (N := some 7) (v := ?_) (a' := ?_) #[false, false, false, true, true, false, false, false, false, false, false] rfl rfl (by kernel_rfl) (fun _ _ _ h => h) (Or.inl ⟨by rfl, ?_⟩) ?_ ?_
    rotate_left
    · intro w'
      go_simp
      with_reducible rfl
    rotate_left
    · simp only [Act.put, List.setIfInBounds_toArray, List.set_cons_zero, List.set_cons_succ, i64_w, i32_w]
      rfl
    refine take_ (i := 0) (N := some 3) (v := ?_) (a' := ?_) #[true, false, false, true, true, false, false, false, false, false, false] rfl rfl (by kernel_rfl) (fun _ _ _ h => h) (Or.inl ⟨by rfl, ?_⟩) hHeld ?_ ?_
    rotate_left
    · rintro w' ⟨s0, s1⟩
      go_simp
      with_reducible rfl
    rotate_left
    · simp only [Act.put, List.setIfInBounds_toArray, List.set_cons_zero, List.set_cons_succ, i64_w, i32_w]
      rfl
    refine pure_ (i := 1) (N := some 4) (v := ?_) (a' := ?_) #[true, true, false, true, true, false, false, false, false, false, false] rfl rfl (by kernel_rfl) (fun _ _ _ h => h) (Or.inl ⟨by rfl, ?_⟩) ?_ ?_
    rotate_left
    · intro w'
      go_simp
      with_reducible rfl
    rotate_left
    · simp only [Act.put, List.setIfInBounds_toArray, List.set_cons_zero, List.set_cons_succ, i64_w, i32_w]
      rfl
    refine take_ (i := 2) (N := some 5) (v := ?_) (a' := ?_) #[true, true, true, true, true, false, false, false, false, false, false] rfl rfl (by kernel_rfl) (fun _ _ _ h => h) (Or.inl ⟨by rfl, ?_⟩) hHeld ?_ ?_
    rotate_left
    · rintro w' ⟨s0, s1⟩
      go_simp
      with_reducible rfl
    rotate_left
    · simp only [Act.put, List.setIfInBounds_toArray, List.set_cons_zero, List.set_cons_succ, i64_w, i32_w]
      rfl
    refine pure_ (i := 5) (N := some 8) (v := ?_) (a' := ?_) #[true, true, true, true, true, true, false, false, false, false, false] rfl rfl (by kernel_rfl) (fun _ _ _ h => h) (Or.inl ⟨by rfl, ?_⟩) ?_ ?_
    rotate_left
    · intro w'
      go_simp
      with_reducible rfl
    rotate_left
    · simp only [Act.put, List.setIfInBounds_toArray, List.set_cons_zero, List.set_cons_succ, i64_w, i32_w]
      rfl
    refine pure_ (i := 6) (N := some 9) (v := ?_) (a' := ?_) #[true, true, true, true, true, true, true, false, false, false, false] rfl rfl (by kernel_rfl) (fun _ _ _ h => h) (Or.inl ⟨by rfl, ?_⟩) ?_ ?_
    rotate_left
    · intro w'
      go_simp
      with_reducible rfl
    rotate_left
    · simp only [Act.put, List.setIfInBounds_toArray, List.set_cons_zero, List.set_cons_succ, i64_w, i32_w]
      rfl
    refine pure_ (i := 7) (N := some 10) (v := ?_) (a' := ?_) #[true, true, true, true, true, true, true, true, false, false, false] rfl rfl (by kernel_rfl) (fun _ _ _ h => h) (Or.inl ⟨by rfl, ?_⟩) ?_ ?_
    rotate_left
    · intro w'
      go_simp
      with_reducible rfl
    rotate_left
    · simp only [Act.put, List.setIfInBounds_toArray, List.set_cons_zero, List.set_cons_succ, i64_w, i32_w]
      rfl
    refine take_ (i := 8) (N := some 11) (v := ?_) (a' := ?_) #[true, true, true, true, true, true, true, true, true, false, false] rfl rfl (by kernel_rfl) (fun _ _ _ h => h) (Or.inl ⟨by rfl, ?_⟩) hHeld ?_ ?_
    rotate_left
    · rintro w' ⟨s0, s1⟩
      go_simp
      with_reducible rfl
    rotate_left
    · simp only [Act.put, List.setIfInBounds_toArray, List.set_cons_zero, List.set_cons_succ, i64_w, i32_w]
      rfl
    refine pure_ (i := 9) (N := some 12) (v := ?_) (a' := ?_) #[true, true, true, true, true, true, true, true, true, true, false] rfl rfl (by kernel_rfl) (fun _ _ _ h => h) (Or.inl ⟨by rfl, ?_⟩) ?_ ?_
    rotate_left
    · intro w'
      go_simp
      with_reducible rfl
    rotate_left
    · simp only [Act.put, List.setIfInBounds_toArray, List.set_cons_zero, List.set_cons_succ, i64_w, i32_w]
      rfl
    refine last_ (i := 10) (N := none) #[true, true, true, true, true, true, true, true, true, true, true] rfl rfl (by kernel_rfl) (by decide) (fun K hK => ?_)
    have hs := (blk_cell BK 0).trans rfl
    have hfs := blk_frozen BK 0
    refine skip_ (w1 := ?_) (by rfl) rfl ?_ ?_
    rotate_left
    · go_simp
      rfl
    refine hK.out _ _ ?_
    clear hK K
    refine done_ (by kernel_rfl) ?_
    try go_wp2
    go_end0
    exact ⟨⟨_, rfl⟩, blk_drew (by simpa using blk_set hb 0 (.int .u32 (nibN c x : Nat))), ⟨rfl, rfl, rfl, by simp [World.setCell], fun i hi hne => Below.heap_setCell _ _ _ _ (fun e => hne (by rw [e]))⟩⟩
def byteN (c b : Nat) : Nat := nibN (nibN c (b % 16)) (b / 16)
def crcN (c : Nat) (l : List Int) : Nat := l.foldl (fun c b => byteN c b.toNat) c
theorem byteN_lt {c b : Nat} (hc : c < 4294967296) : byteN c b < 4294967296 := nibN_lt (nibN_lt hc)
theorem crcN_lt (l : List Int) : ∀ {c : Nat}, c < 4294967296 → crcN c l < 4294967296 := by
  induction l with
  | nil => intro c h; exact h
  | cons b l ih => intro c h; exact ih (byteN_lt h)
theorem crcN_take (l : List Int) (c k : Nat) (h : k < l.length) : byteN (crcN c (l.take k)) (l.getD k 0).toNat = crcN c (l.take (k + 1)) := by
  unfold crcN
  rw [List.take_succ_eq_append_getElem h, List.foldl_append]
  simp [List.getD_eq_getElem?_getD, h]
def crcQ (l : List Int) : Nat := crcN 4294967295 l
def crcS (l : List Int) : Int := ((4294967295 - crcQ l : Nat) : Int)
theorem crcQ_lt (l : List Int) : crcQ l < 4294967296 := crcN_lt l (by decide)
theorem crcQ_take (l : List Int) (k : Nat) (h : k < l.length) : byteN (crcQ (l.take k)) (l.getD k 0).toNat = crcQ (l.take (k + 1)) := crcN_take l _ k h
theorem not_u32 {x : Nat} (h : x < 4294967296) : bits .xor .u32 (if IntKind.u32.signed = true then -1 else IntKind.u32.max) (x : Int) = ((4294967295 - x : Nat) : Int) := by
  have e : (if IntKind.u32.signed = true then -1 else IntKind.u32.max) = ((4294967295 : Nat) : Int) := rfl
  rw [e, u32_xor_nat 4294967295 x (by decide) h]
  congr 1
  have h1 := Nat.xor_lt_two_pow (n := 32) (x := 4294967295) (y := x) (by decide) (by omega)
  apply Nat.eq_of_testBit_eq
  intro i
  rw [Nat.testBit_xor, show (4294967295 : Nat) = 2 ^ 32 - 1 from rfl, Nat.testBit_two_pow_sub_one, show 2 ^ 32 - 1 - x = 2 ^ 32 - (x + 1) from by omega, Nat.testBit_two_pow_sub_succ (by omega)]
  by_cases hi : i < 32
  · simp [hi]
  · have hz : x.testBit i = false := Nat.testBit_lt_two_pow (Nat.lt_of_lt_of_le h (Nat.le_trans (by decide : 4294967296 ≤ 2 ^ 32) (Nat.pow_le_pow_right (by decide) (by omega))))
    simp [hi, hz]
theorem not_u32_0 : bits .xor .u32 (if IntKind.u32.signed = true then -1 else IntKind.u32.max) 0 = 4294967295 := not_u32 (x := 0) (by decide)
def Bys (l : List Int) : Prop := ∀ b ∈ l, 0 ≤ b ∧ b < 256
theorem Bys.get {l : List Int} (h : Bys l) (k : Nat) (hk : k < l.length) : 0 ≤ l.getD k 0 ∧ l.getD k 0 < 256 := by
  refine h _ ?_
  rw [List.getD_eq_getElem?_getD, List.getElem?_eq_getElem hk]
  exact List.getElem_mem hk
set_option maxHeartbeats 1000000 in
set_option maxRecDepth 100000 in
attribute [local go_sem] not_u32_0 in
theorem more_calls (A : Option Addr) (c : Nat) (l : List Int) (w : World) (T : Tabs w) (hr0 : Kd.C (Kd.int .u8) w A l.length l) (hb0 : Bys l) (hf : Fits l.length) :
    Calls Tryd.prog 67 #[.int .u32 0, .slice A l.length c] w fun e w' => e = .returned (.int .u32 (crcS l)) ∧ Below w.heap.size w w' := by
  have hr := Aside0.mk hr0
  have hby := Aside0.mk hb0
  have hT := Aside0.mk T
  clear hr0 hb0 T
  have hn1 : (l.length : Int) < 140737488355328 := by unfold Fits at hf; omega
  clear hf
  go_enter Tryd.func67, Tryd.ntmps67
  go_wp2
  go_loopg [14] (l.length + 1) (fun kq v14 w' => ∃ (x : Int), v14 = .int .i64 x ∧ Aside0 (kq + x.toNat = l.length + 1 ∧ 0 ≤ x ∧ x ≤ l.length) ∧ Aside0 (Below w.heap.size w w') ∧ Aside0 (w'.heap[w.heap.size]? = some (.cells #[.int .u32 (crcQ (l.take x.toNat) : Nat)] 64 (0, 0))))
  case atStart => exact ⟨0, rfl, ⟨rfl, by omega, by omega⟩, ⟨bel1 _ _⟩, ⟨heap_alloc_new w _⟩⟩
  case round =>
    obtain ⟨x, rfl, hq, HB, HX⟩ := hrel
    by_cases q0 : x < (l.length : Int)
    · have p0 : 0 ≤ x := hq.out.2.1
      obtain ⟨ad, ee, hx⟩ := Kd.at_int hr.out x p0 q0
      cases ee
      replace hx := (HB.out.cell (World.block_lt_of_cell? w _ hx)).trans hx
      have hk : x.toNat < l.length := by omega
      obtain ⟨b, hb⟩ : ∃ b : Nat, rd l x = b := ⟨(rd l x).toNat, by have := hby.out.get x.toNat hk; exact (Int.toNat_of_nonneg this.1).symm⟩
      have hb1 : b < 256 := by have := hby.out.get x.toNat hk; unfold rd at hb; omega
      have hb2 := Aside0.mk (show b = (l.getD x.toNat 0).toNat from by unfold rd at hb; rw [hb]; rfl)
      rw [hb] at hx
      clear hb
      have hA : Aside0 (∀ (c x : Nat), c < 4294967296 → x < 256 → ∀ W, Below w.heap.size w W → W.heap[w.heap.size]? = some (.cells #[.int .u32 c] 64 (0, 0)) →
          Calls Tryd.prog 75 #[.int .u8 x, .pointer (some ⟨w.heap.size, 0, none⟩)] W fun e w' => (∃ v, e = .returned v) ∧ Below w.heap.size w w' ∧ w'.heap[w.heap.size]? = some (.cells #[.int .u32 (nibN c x)] 64 (0, 0))) :=
        ⟨fun c x hc hx W hB hX => (four_calls x c w.heap.size hx hc W (hT.out.below hB) hX).mono fun e w' h => ⟨h.1, hB.trans ⟨h.2.2.os, h.2.2.tape, h.2.2.output, h.2.2.size, fun i hi => h.2.2.block i (Nat.lt_of_lt_of_le hi hB.size) (by intro he; have := Option.some.inj he; omega)⟩, h.2.1⟩⟩
      have hcr := Aside0.mk (crcQ_lt (l.take x.toNat))
      have e1 : bits .and .u8 (b : Int) 15 = ((b % 16 : Nat) : Int) := by
        rw [show (15 : Int) = ((15 : Nat) : Int) from rfl, u8_and_nat b 15 hb1 (by omega)]
        congr 1
        exact Nat.and_two_pow_sub_one_eq_mod _ 4
      have e2 : (b : Int) / 16 = ((b / 16 : Nat) : Int) := by omega
      obtain ⟨x1, hx1⟩ : ∃ x1, b % 16 = x1 := ⟨_, rfl⟩
      obtain ⟨x2, hx2⟩ : ∃ x2, b / 16 = x2 := ⟨_, rfl⟩
      rw [hx1] at e1
      rw [hx2] at e2
      have h1 := Aside0.mk (show x1 < 256 by omega)
      have h2 := Aside0.mk (show x2 < 256 by omega)
      have hx1' := Aside0.mk hx1
      have hx2' := Aside0.mk hx2
      clear hx1 hx2
      have c0 : decide (x < (l.length : Int)) = true := decide_eq_true q0
      replace p0 := eq_true p0
      replace q0 := eq_true q0
      have hb3 := Aside0.mk hb1
      clear hb1 hk
      go_wp2_with (first | ((with_reducible refine gate_dst (N := 21) rfl ?_); (with_reducible refine gate_tmp rfl ?_); refine closL_ _ rfl rfl Tryd.func75 (by kernel_rfl) rfl #[.int .u8 x1, .pointer (some ⟨w.heap.size, 0, none⟩)] rfl rfl (by (try simp only [List.map_toArray, List.map_cons, List.map_nil]); first | done | rfl) ?_; refine (hA.out (crcQ (l.take x.toNat)) x1 hcr.out h1.out _ HB.out HX.out).mono ?_; rintro e w1 ⟨⟨u1, rfl⟩, HB1, HX1⟩; refine ⟨_, rfl, ?_⟩; have HB1' := Aside0.mk HB1; have HX1' := Aside0.mk HX1; clear HB1 HX1; (try dsimp only)) | ((with_reducible refine gate_dst (N := 25) rfl ?_); (with_reducible refine gate_tmp rfl ?_); refine closL_ _ rfl rfl Tryd.func75 (by kernel_rfl) rfl #[.int .u8 x2, .pointer (some ⟨w.heap.size, 0, none⟩)] rfl rfl (by (try simp only [List.map_toArray, List.map_cons, List.map_nil]); first | done | rfl) ?_; refine (hA.out (nibN (crcQ (l.take x.toNat)) x1) x2 (nibN_lt hcr.out) h2.out _ HB1'.out HX1'.out).mono ?_; rintro e w2 ⟨⟨u2, rfl⟩, HB2, HX2⟩; refine ⟨_, rfl, ?_⟩; have HB2' := Aside0.mk HB2; have HX2' := Aside0.mk HX2; clear HB2 HX2; (try dsimp only)))
      have hk := of_eq_true q0
      have hw : x + 1 = wrap64 (x + 1) := by
        unfold wrap64
        have := hq.out
        omega
      have ht : (x + 1).toNat = x.toNat + 1 := by
        have := hq.out
        omega
      have hk2 : x.toNat < l.length := by omega
      go_roundg (gk - 1)
      case measure => have := hq.out; omega
      case rel =>
        refine ⟨x + 1, by rw [← hw], ⟨?_, by omega, by omega⟩, ⟨HB2'.out⟩, ⟨?_⟩⟩
        · have := hq.out
          omega
        · rw [ht, ← crcQ_take l x.toNat hk2, ← hb2.out, byteN, hx1'.out, hx2'.out]
          exact HX2'.out
    · have c0 : decide (x < (l.length : Int)) = false := decide_eq_false q0
      have hk : x.toNat = l.length := by have := hq.out; omega
      have hX := HX.out
      rw [hk, List.take_length] at hX
      have hnot := not_u32 (crcQ_lt l)
      have hcc := (blk_cell hX 0).trans rfl
      clear q0 hX
      go_wp2
      go_ret
      exact ⟨rfl, HB.out⟩
set_option maxHeartbeats 1000000 in
theorem sum32_calls (A : Option Addr) (c : Nat) (l : List Int) (w : World) (T : Tabs w) (hr : Kd.C (Kd.int .u8) w A l.length l) (hb : Bys l) (hf : Fits l.length) :
    Calls Tryd.prog 54 #[.slice A l.length c] w fun e w' => e = .returned (.int .u32 (crcS l)) ∧ Below w.heap.size w w' := by
  have hc := Aside0.mk (more_calls A c l w T hr hb hf)
  clear T hr hb hf
  go_enter Tryd.func54, Tryd.ntmps54
  go_wp2_with (first | ((with_reducible refine gate_callee (f := 67) rfl ?_); refine goesL_ (some 4) rfl rfl Tryd.func67 (by kernel_rfl) rfl #[.int .u32 0, .slice A l.length c] rfl (by (try simp only [List.map_toArray, List.map_cons, List.map_nil]); first | done | rfl) ?_; refine hc.out.mono ?_; rintro e w1 ⟨rfl, HB1⟩; refine ⟨_, rfl, ?_⟩))
  go_ret
  exact ⟨rfl, HB1⟩
def sumB (l : List Int) : List Int := [crcS l % 256, crcS l / 256 % 256, crcS l / 65536 % 256, crcS l / 16777216 % 256]
set_option maxHeartbeats 1000000 in
set_option maxRecDepth 100000 in
theorem sum_calls (A : Option Addr) (c : Nat) (l : List Int) (w : World) (T : Tabs w) (hr : Kd.C (Kd.int .u8) w A l.length l) (hb : Bys l) (hf : Fits l.length) :
    Calls Tryd.prog 27 #[.slice A l.length c] w fun e w' => ∃ g, w.heap.size ≤ g ∧ e = .returned (.slice (some ⟨g, 0, none⟩) 4 4) ∧ w'.heap[g]? = some (.cells (nums .u8 (sumB l)).toArray 5 (0, 0)) ∧ Below w.heap.size w w' := by
  have hc := Aside0.mk (sum32_calls A c l w T hr hb hf)
  clear T hr hb hf
  go_enter Tryd.func27, Tryd.ntmps27
  go_wp2_with (first | ((with_reducible refine gate_callee (f := 54) rfl ?_); refine goesL_ (some 5) rfl rfl Tryd.func54 (by kernel_rfl) rfl #[.slice A l.length c] rfl (by (try simp only [List.map_toArray, List.map_cons, List.map_nil]); first | done | rfl) ?_; refine hc.out.mono ?_; rintro e w1 ⟨rfl, HB1⟩; refine ⟨_, rfl, ?_⟩))
  go_ret
  exact ⟨w1.heap.size, HB1.size, rfl, heap_alloc_new w1 _, below_alloc HB1 _⟩
end Go.Proofs.YtfkfboigkpofkaaDoor.M
end
section
namespace Go.Proofs.YtfkfboigkpofkaaDoor.M
open Go.RowKit Go.Proofs.YtfkfboigkpofkaaDoorW.PrintWords Go.Proofs.YtfkfboigkpofkaaDoorW.PrintLast Go.Proofs.YtfkfboigkpofkaaDoorW.PrintMore Go.Proofs.YtfkfboigkpofkaaDoor.PMsgPuts
set_option linter.unusedVariables false
set_option linter.unusedSimpArgs false
theorem bys_app {a b : List Int} (ha : Bys a) (hb : Bys b) : Bys (a ++ b) := fun x hx => (List.mem_append.1 hx).elim (ha x) (hb x)
theorem bys_uv : ∀ n : Nat, Bys (uv n) := by
  intro n
  induction n using Nat.strongRecOn with
  | _ n ih =>
    rw [uv]
    split
    · intro x hx
      rw [List.mem_singleton.1 hx]
      omega
    · intro x hx
      rcases List.mem_cons.1 hx with rfl | hx
      · omega
      · exact ih (n / 128) (by omega) x hx
theorem bys_uvI (n : Int) : Bys (uvI n) := bys_uv _
theorem bys_bytes (s : ByteArray) : Bys (bytesOf s) := by
  intro x hx
  obtain ⟨b, _, rfl⟩ := List.mem_map.1 hx
  have := b.toNat_lt
  omega
theorem bys_text (s : ByteArray) : Bys (textB s) := bys_app (bys_uvI _) (bys_bytes _)
theorem bys_flat {α : Type} (f : α → List Int) (l : List α) (h : ∀ x, Bys (f x)) : Bys (l.flatMap f) := by
  intro x hx
  obtain ⟨y, _, hy⟩ := List.mem_flatMap.1 hx
  exact h y x hy
theorem bys_lay (m : Mg) (c : Int) : Bys (layF m c) := by
  unfold layF
  repeat' split
  · exact bys_app (bys_uvI _) (bys_uvI _)
  · exact bys_uvI _
  · exact bys_uvI _
  · exact bys_uvI _
  · exact bys_text _
  · exact bys_app (bys_uvI _) (bys_flat _ _ fun _ => bys_text _)
  · exact bys_app (bys_uvI _) (bys_flat _ _ fun _ => bys_app (bys_uvI _) (bys_app (bys_app (bys_uvI _) (bys_uvI _)) (bys_text _)))
  · exact fun x hx => by cases hx
def bodyB (m : Mg) (k : Nat) : List Int := uvI (k : Int) ++ layB m k
def putB (m : Mg) (k : Nat) : List Int := sumB (bodyB m k) ++ bodyB m k
theorem bys_body (m : Mg) (k : Nat) : Bys (bodyB m k) := bys_app (bys_uvI _) (bys_flat _ _ fun _ => bys_lay _ _)
theorem own_four {w : World} {g base : Nat} {l : List Int} (h : w.heap[g]? = some (.cells (nums .u8 (sumB l)).toArray 5 (0, 0))) (hb : base ≤ g) : w.ownsRow base 5 1 (.slice (some ⟨g, 0, none⟩) 4 4) (sumB l).length (nums .u8 (sumB l)) :=
  ⟨rfl, .inr ⟨g, 4, _, rfl, hb, h, Nat.le_refl _, by decide, rfl, rfl⟩⟩
def Checks (w : World) (args : Array Value) (b : Bool) : Prop := ∀ W : World, Below w.heap.size w W → Calls Tryd.prog 10 args W fun e w' => e = .returned (.int .i64 (errI b)) ∧ Below W.heap.size W w'
theorem Checks.no {w : World} {args : Array Value} (h : Checks w args false) : Aside0 (∀ W : World, Below w.heap.size w W → Calls Tryd.prog 10 args W fun e w' => e = .returned (.int .i64 1) ∧ Below W.heap.size W w') := ⟨h⟩
theorem Checks.yes {w : World} {args : Array Value} (h : Checks w args true) : Aside0 (∀ W : World, Below w.heap.size w W → Calls Tryd.prog 10 args W fun e w' => e = .returned (.int .i64 0) ∧ Below W.heap.size W w') := ⟨h⟩
set_option maxHeartbeats 1000000 in
set_option maxRecDepth 100000 in
theorem put_no (m : Mg) (k : Nat) (hkm : m.k = k) (A6 A7 A8 : Option Addr) (c6 c7 c8 : Nat) (w : World) (hC0 : Checks w #[.agg (m.cells A6 A7 A8 c6 c7 c8)] false) :
    Calls Tryd.prog 11 #[.agg (m.cells A6 A7 A8 c6 c7 c8)] w fun e w' => e = .returned (.tuple #[.slice none 0 0, .int .i64 1]) ∧ Below w.heap.size w w' := by
  have hC := hC0.no
  clear hC0
  unfold Mg.cells at hC ⊢
  rw [hkm] at hC ⊢
  clear hkm
  go_enter Tryd.func11, Tryd.ntmps11
  go_wp2_with (first | ((with_reducible refine gate_callee (f := 10) rfl ?_); refine goesL_ (some 7) rfl rfl Tryd.func10 (by kernel_rfl) rfl #[.agg #[.int .u8 k, .int .u64 m.n, .int .i64 m.r, .int .u64 m.first, .int .u64 m.last, .int .u64 m.commit, .slice A6 m.V.length c6, .slice A7 m.B.length c7, .slice A8 m.S.length c8]] rfl (by (try simp only [List.map_toArray, List.map_cons, List.map_nil]); first | done | rfl) ?_; refine (hC.out _ (bel1 _ _)).mono ?_; rintro e w1 ⟨rfl, HB1⟩; refine ⟨_, rfl, ?_⟩; have HB2 := below_step (bel1 _ _) HB1; clear HB1; (try dsimp only)))
  go_ret2
  exact ⟨rfl, HB2⟩
set_option maxHeartbeats 1000000 in
set_option maxRecDepth 100000 in
theorem put_yes (m : Mg) (hok : m.Ok) (k : Nat) (hkm : m.k = k) (hk : k < 9) (A6 A7 A8 : Option Addr) (c6 c7 c8 : Nat) (w : World) (T : Tabs w) (hm : m.At w A6 A7 A8) (hC0 : Checks w #[.agg (m.cells A6 A7 A8 c6 c7 c8)] true) (hf : Fits (putB m k).length) :
    Calls Tryd.prog 11 #[.agg (m.cells A6 A7 A8 c6 c7 c8)] w fun e w' => ∃ v, e = .returned (.tuple #[v, .int .i64 0]) ∧ Kd.R (Kd.int .u8) 5 w' w.heap.size (fun _ => True) v (putB m k) ∧ Below w.heap.size w w' := by
  have hC := hC0.yes
  have hfit := Aside0.mk hf
  have hk9 := Aside0.mk hk
  have hfb : Fits (bodyB m k).length := by
    unfold putB at hf
    unfold Fits at *
    rw [List.length_append] at hf
    omega
  have hfl := Aside0.mk hfb
  have hU : Aside0 (∀ W, w.heap.size ≤ W.heap.size → Calls Tryd.prog 26 #[.slice none 0 0, .int .u64 k] W (Put1 W w.heap.size (.slice none 0 0) [] (uvI k))) :=
    ⟨fun W hW => uintI_calls w.heap.size (.slice none 0 0) [] k W (World.ownsRow_nil W w.heap.size 5 1) hW (by unfold bodyB at hfb; unfold Fits at *; rw [List.length_append] at hfb; simp; omega) (by unfold U; omega)⟩
  have hLay : Aside0 (∀ (v : Value) (W : World), Below w.heap.size w W → W.ownsRow w.heap.size 5 1 v (([] : List Int) ++ uvI k).length (nums .u8 (([] : List Int) ++ uvI k)) →
      Calls Tryd.prog 25 #[v, .agg #[.int .u8 k, .int .u64 m.n, .int .i64 m.r, .int .u64 m.first, .int .u64 m.last, .int .u64 m.commit, .slice A6 m.V.length c6, .slice A7 m.B.length c7, .slice A8 m.S.length c8]] W (Put1 W w.heap.size v (([] : List Int) ++ uvI k) (layB m k))) := by
    refine ⟨fun v W hB HO => ?_⟩
    have := lay_calls w v _ m hok k hkm hk A6 A7 A8 c6 c7 c8 W (T.below hB) HO hB hm (by unfold bodyB at hfb; simpa using hfb)
    unfold Mg.cells at this
    rwa [hkm] at this
  have hSum : Aside0 (∀ (A : Option Addr) (c : Nat) (W : World), Below w.heap.size w W → Kd.C (Kd.int .u8) W A (bodyB m k).length (bodyB m k) → Calls Tryd.prog 27 #[.slice A (bodyB m k).length c] W fun e w' => ∃ g, W.heap.size ≤ g ∧ e = .returned (.slice (some ⟨g, 0, none⟩) 4 4) ∧ w'.heap[g]? = some (.cells (nums .u8 (sumB (bodyB m k))).toArray 5 (0, 0)) ∧ Below W.heap.size W w') :=
    ⟨fun A c W hB hC => sum_calls A c (bodyB m k) W (T.below hB) hC (bys_body m k) hfb⟩
  clear hC0 hm T hf hfb hok hk
  unfold Mg.cells at hC ⊢
  rw [hkm] at hC ⊢
  clear hkm
  have hwk : IntKind.u64.wrap (k : Int) = k := by rw [IntKind.wrap_u64]; have := hk9.out; omega
  go_enter Tryd.func11, Tryd.ntmps11
  go_wp2_with (first | ((with_reducible refine gate_callee (f := 10) rfl ?_); refine goesL_ (some 7) rfl rfl Tryd.func10 (by kernel_rfl) rfl #[.agg #[.int .u8 k, .int .u64 m.n, .int .i64 m.r, .int .u64 m.first, .int .u64 m.last, .int .u64 m.commit, .slice A6 m.V.length c6, .slice A7 m.B.length c7, .slice A8 m.S.length c8]] rfl (by (try simp only [List.map_toArray, List.map_cons, List.map_nil]); first | done | rfl) ?_; refine (hC.out _ (bel1 _ _)).mono ?_; rintro e w1 ⟨rfl, HB1⟩; refine ⟨_, rfl, ?_⟩; have BK := Aside0.mk (blk_below (heap_alloc_new w (.cells #[.int .u8 k, .int .u64 m.n, .int .i64 m.r, .int .u64 m.first, .int .u64 m.last, .int .u64 m.commit, .slice A6 m.V.length c6, .slice A7 m.B.length c7, .slice A8 m.S.length c8] 29)) HB1); have HB2 := Aside0.mk (below_step (bel1 _ _) HB1); clear HB1; (try dsimp only)))
  have BK := Aside0.mk (blk_drew BK.out)
  have HB2 := Aside0.mk (below_drew1 HB2.out)
  refine start_ (n := 7) (S := fun w' => w'.cell? ⟨w.heap.size, 0, none⟩ = some (.int .u8 k) ∧ w'.cell? ⟨w.heap.size, 1, none⟩ = some (.int .u64 m.n) ∧ w'.cell? ⟨w.heap.size, 2, none⟩ = some (.int .i64 m.r) ∧ w'.cell? ⟨w.heap.size, 3, none⟩ = some (.int .u64 m.first) ∧ w'.cell? ⟨w.heap.size, 4, none⟩ = some (.int .u64 m.last) ∧ w'.cell? ⟨w.heap.size, 5, none⟩ = some (.int .u64 m.commit) ∧ w'.cell? ⟨w.heap.size, 6, none⟩ = some (.slice A6 m.V.length c6) ∧ w'.cell? ⟨w.heap.size, 7, none⟩ = some (.slice A7 m.B.length c7) ∧ w'.cell? ⟨w.heap.size, 8, none⟩ = some (.slice A8 m.S.length c8)) (ds := []) #[false, false, false, false, false, false, false] (by kernel_rfl) rfl rfl ⟨(blk_cell BK.out 0).trans rfl, (blk_cell BK.out 1).trans rfl, (blk_cell BK.out 2).trans rfl, (blk_cell BK.out 3).trans rfl, (blk_cell BK.out 4).trans rfl, (blk_cell BK.out 5).trans rfl, (blk_cell BK.out 6).trans rfl, (blk_cell BK.out 7).trans rfl, (blk_cell BK.out 8).trans rfl⟩ (fun hHeld => ?_)
  refine pure_ (i := 0) (N := some 11) (v := ?_) (a' := ?_) #[true, false, false, false, false, false, false] rfl rfl (by kernel_rfl) (fun _ _ _ h => h) (Or.inl ⟨by rfl, ?_⟩) ?_ ?_
  rotate_left
  · intro w'
    go_simp
    with_reducible rfl
  rotate_left
  · simp only [Act.put, List.setIfInBounds_toArray, List.set_cons_zero, List.set_cons_succ, i64_w, i32_w]
    rfl
  refine take_ (i := 1) (N := some 12) (v := ?_) (a' := ?_) #[true, true, false, false, false, false, false] rfl rfl (by kernel_rfl) (fun _ _ _ h => h) (Or.inl ⟨by rfl, ?_⟩) hHeld ?_ ?_
  rotate_left
  · rintro w' ⟨s0, s1, s2, s3, s4, s5, s6, s7, s8⟩
    go_simp
    with_reducible rfl
  rotate_left
  · simp only [Act.put, List.setIfInBounds_toArray, List.set_cons_zero, List.set_cons_succ, i64_w, i32_w]
    rfl
  refine take_ (i := 4) (N := some 15) (v := ?_) (a' := ?_) #[true, true, false, false, true, false, false] rfl rfl (by kernel_rfl) (fun _ _ _ h => h) (Or.inl ⟨by rfl, ?_⟩) hHeld ?_ ?_
  rotate_left
  · rintro w' ⟨s0, s1, s2, s3, s4, s5, s6, s7, s8⟩
    go_simp
    with_reducible rfl
  rotate_left
  · simp only [Act.put, List.setIfInBounds_toArray, List.set_cons_zero, List.set_cons_succ, i64_w, i32_w]
    rfl
  refine pure_ (i := 2) (N := some 13) (v := ?_) (a' := ?_) #[true, true, true, false, true, false, false] rfl rfl (by kernel_rfl) (fun _ _ _ h => h) (Or.inl ⟨by rfl, ?_⟩) ?_ ?_
  rotate_left
  · intro w'
    go_simp
    with_reducible rfl
  rotate_left
  · simp only [Act.put, List.setIfInBounds_toArray, List.set_cons_zero, List.set_cons_succ, i64_w, i32_w]
    rfl
  refine one_ (i := 3) (N := some 14) #[true, true, true, true, true, false, false] rfl rfl (by kernel_rfl) (by decide) (fun K hK => ?_)
  refine goes_ Tryd.func26 (by kernel_rfl) rfl #[.slice none 0 0, .int .u64 k] (by rfl) rfl rfl (by (try simp only [List.map_toArray, List.map_cons, List.map_nil]); first | done | rfl) ?_
  refine (hU.out _ HB2.out.size).mono ?_
  rintro e w2 ⟨v2, rfl, HO2, G2⟩
  refine ⟨_, rfl, ?_⟩
  have HO3 := Aside0.mk HO2
  have HB3 := Aside0.mk (HB2.out.trans (G2.bel (World.ownsRow_nil _ w.heap.size 5 1) HB2.out.size))
  have BK2 := Aside0.mk (blk_grown BK.out G2.g (by simp [Value.ownBlock]))
  clear HO2 G2 HB2 BK
  have BK := BK2
  refine hK.out _ _ ⟨(blk_cell BK.out 0).trans rfl, (blk_cell BK.out 1).trans rfl, (blk_cell BK.out 2).trans rfl, (blk_cell BK.out 3).trans rfl, (blk_cell BK.out 4).trans rfl, (blk_cell BK.out 5).trans rfl, (blk_cell BK.out 6).trans rfl, (blk_cell BK.out 7).trans rfl, (blk_cell BK.out 8).trans rfl⟩ (fun hHeld => ?_)
  clear hK K
  refine norm_ (a' := ?_) ?_ ?_
  rotate_left
  · show Act.put _ (some 14) _ = _
    simp only [Act.put, List.setIfInBounds_toArray, List.set_cons_zero, List.set_cons_succ, i64_w, i32_w]
    rfl
  refine one_ (i := 5) (N := some 16) #[true, true, true, true, true, true, false] rfl rfl (by kernel_rfl) (by decide) (fun K hK => ?_)
  refine goes_ Tryd.func25 (by kernel_rfl) rfl #[v2, .agg #[.int .u8 k, .int .u64 m.n, .int .i64 m.r, .int .u64 m.first, .int .u64 m.last, .int .u64 m.commit, .slice A6 m.V.length c6, .slice A7 m.B.length c7, .slice A8 m.S.length c8]] (by rfl) rfl rfl (by (try simp only [List.map_toArray, List.map_cons, List.map_nil]); first | done | rfl) ?_
  refine (hLay.out v2 _ HB3.out HO3.out).mono ?_
  rintro e w3 ⟨v3, rfl, HO4, G3⟩
  refine ⟨_, rfl, ?_⟩
  have BK3 := Aside0.mk (blk_grown BK.out G3.g (own_ne HO3.out BK.out (by decide)))
  have HB4 := Aside0.mk (HB3.out.trans (G3.bel HO3.out HB3.out.size))
  have HO5 := Aside0.mk HO4
  clear HO3 HB3 BK HO4 G3
  have BK := BK3
  refine hK.out _ _ ⟨(blk_cell BK.out 0).trans rfl, (blk_cell BK.out 1).trans rfl, (blk_cell BK.out 2).trans rfl, (blk_cell BK.out 3).trans rfl, (blk_cell BK.out 4).trans rfl, (blk_cell BK.out 5).trans rfl, (blk_cell BK.out 6).trans rfl, (blk_cell BK.out 7).trans rfl, (blk_cell BK.out 8).trans rfl⟩ (fun hHeld => ?_)
  clear hK K
  refine norm_ (a' := ?_) ?_ ?_
  rotate_left
  · show Act.put _ (some 16) _ = _
    simp only [Act.put, List.setIfInBounds_toArray, List.set_cons_zero, List.set_cons_succ, i64_w, i32_w]
    rfl
  refine pure_ (i := 6) (N := some 5) (v := ?_) (a' := ?_) #[true, true, true, true, true, true, true] rfl rfl (by kernel_rfl) (fun _ _ _ h => h) (Or.inl ⟨by rfl, ?_⟩) ?_ ?_
  rotate_left
  · intro w'
    go_simp
    with_reducible rfl
  rotate_left
  · simp only [Act.put, List.setIfInBounds_toArray, List.set_cons_zero, List.set_cons_succ, i64_w, i32_w]
    rfl
  refine done_ (by kernel_rfl) ?_
  obtain ⟨Ab, cb, rfl⟩ := own_slice HO5.out
  have HO6 : Aside0 (w3.ownsRow w.heap.size 5 1 (.slice Ab (([] : List Int) ++ uvI k ++ layB m k).length cb) (bodyB m k).length (nums .u8 (bodyB m k))) := ⟨HO5.out⟩
  have hlen : (([] : List Int) ++ uvI k ++ layB m k).length = (bodyB m k).length := rfl
  rw [hlen]
  rw [hlen] at HO6
  clear HO5 hlen
  have HR := Aside0.mk (Kd.R_of_own (enc := Value.int .u8) (h1 := fun _ => rfl) (ok := fun _ => True) HO6.out (fun _ _ => trivial))
  have HC := Aside0.mk (Kd.R_reads' HR.out).2.2
  go_wp2_with (first | ((with_reducible refine gate_callee (f := 27) rfl ?_); refine goesL_ (some 18) rfl rfl Tryd.func27 (by kernel_rfl) rfl #[.slice Ab (bodyB m k).length cb] rfl (by (try simp only [List.map_toArray, List.map_cons, List.map_nil]); first | done | rfl) ?_; refine (hSum.out Ab cb _ HB4.out HC.out).mono ?_; rintro e w1 ⟨g, hg, rfl, hgh, HB⟩; refine ⟨_, rfl, ?_⟩; have HB5 := Aside0.mk (HB4.out.trans (HB.mono HB4.out.size)); have HC2 := Aside0.mk (Kd.C_below HC.out HB); have HS := Aside0.mk (Kd.R_of_own (enc := Value.int .u8) (h1 := fun _ => rfl) (ok := fun _ => True) (own_four hgh (Nat.le_trans HB4.out.size hg)) (fun _ _ => trivial)); clear HB hgh hg; (try dsimp only)) | ((with_reducible refine gate_builtin (b := .append) (xs := #[.tmp 18, .tmp 19]) rfl ?_); at_builtin; refine Kd.R_append_rows (Kd.int .u8) (w0 := w) w.heap.size rfl (.tmp 18) (.tmp 19) 27 5 (.int .u8 0) 1 rfl Tryd.underlying27 info5 rfl (by decide) (by omega) _ (sumB (bodyB m k)) (bodyB m k) _ _ _ (fun _ => True) (fun _ => False) rfl rfl HS.out HC2.out (fun _ _ h => h) (fun _ h => h.elim) (fun _ _ => trivial) HB5.out HB5.out.size (by have := hfit.out; unfold putB Fits at this; rw [List.length_append] at this; omega) ?_; intro v5 w5 HR5 HB6 _ _))
  go_ret2
  exact ⟨_, rfl, HR5, HB6⟩
end Go.Proofs.YtfkfboigkpofkaaDoor.M
end
