/- Parts of a proof, pruned and joined by flat.py out of: OD, MXd, MY. -/
import Derived.Test.YtfkfboigkpofkaaDoorCOwn11
section
namespace Go.Proofs.YtfkfboigkpofkaaDoor.M
open Go.RowKit Go.Proofs.YtfkfboigkpofkaaDoorW.PrintWords Go.Proofs.YtfkfboigkpofkaaDoorW.PrintLast Go.Proofs.YtfkfboigkpofkaaDoorW.PrintMore Go.Proofs.YtfkfboigkpofkaaDoor.PMsgPuts
set_option linter.unusedVariables false
set_option linter.unusedSimpArgs false
theorem nR_put {a : Int} (ha : U a) (rest : List Int) (hb : Bys rest) (lim : Int) : nR ⟨0, uvI a ++ rest, lim⟩ = (a, ⟨0, rest, lim⟩) := by
  have h1 := nR_some (l := uvI a ++ rest) lim (bys_app (bys_uvI a) hb) (dU_put (n := a.toNat) (by unfold U at ha; omega) rest)
  rw [h1, Int.toNat_of_nonneg ha.1]
theorem wrap_place {r : Int} (h : 0 ≤ r ∧ r < 7) : IntKind.u64.wrap r = r := by rw [IntKind.wrap_u64]; omega
theorem balT_put {n r : Int} (hn : U n) (hr : 0 ≤ r ∧ r < 7) (rest : List Int) (hb : Bys rest) (lim : Int) : balT ⟨⟨0, uvI n ++ uvI (IntKind.u64.wrap r) ++ rest, lim⟩, false⟩ = ((n, r), ⟨⟨0, rest, lim⟩, false⟩) := by
  have hU : U r := by unfold U; omega
  rw [wrap_place hr, List.append_assoc]
  have h1 := nR_put hn (uvI r ++ rest) (bys_app (bys_uvI r) hb) lim
  have h2 := nR_put hU rest hb lim
  have h3 : balR ⟨0, uvI n ++ (uvI r ++ rest), lim⟩ = ((n, r, 0), ⟨0, rest, lim⟩) := by
    unfold balR
    rw [h1]
    dsimp only
    rw [h2]
    dsimp only
    rw [if_neg (by decide), if_neg (by omega)]
  unfold balT
  dsimp only
  rw [h3]
  rfl
theorem back_bysO (l : List Int) (h : Bys l) : bytesOf (strOfNums l) = l := by
  show (l.map fun n => UInt8.ofNat n.toNat).map (fun b => (b.toNat : Int)) = l
  rw [List.map_map]
  conv => rhs; rw [← List.map_id l]
  refine List.map_congr_left fun x hx => ?_
  obtain ⟨h0, h1⟩ := h x hx
  show ((UInt8.ofNat x.toNat).toNat : Int) = x
  rw [UInt8.toNat_ofNat', Nat.mod_eq_of_lt (by omega)]
  omega
theorem textL_eq (l : List Int) (hb : Bys l) : textL l = uvI (l.length : Int) ++ l := by
  unfold textL textB
  rw [back_bysO l hb, sON_size]
theorem textT_put (l : List Int) (hl : Bys l) (rest : List Int) (hb : Bys rest) (lim : Int) (hlen : (l.length : Int) ≤ lim) (hf : Fits l.length) : textT ⟨⟨0, textL l ++ rest, lim⟩, false⟩ = (l, ⟨⟨0, rest, lim⟩, false⟩) := by
  rw [textL_eq l hl, List.append_assoc]
  have h1 := nR_put (a := (l.length : Int)) (U.len hf) (l ++ rest) (bys_app hl hb) lim
  have h3 : textR ⟨0, uvI (l.length : Int) ++ (l ++ rest), lim⟩ = (strOfNums l, ⟨0, rest, lim⟩) := by
    unfold textR
    rw [h1]
    dsimp only
    rw [if_neg (by decide), if_neg (by omega), if_neg (by rw [List.length_append]; omega), Int.toNat_natCast, List.take_left, List.drop_left]
  unfold textT
  dsimp only
  rw [h3]
  dsimp only
  rw [back_bysO l hl]
theorem many_put {α : Type} (one : TS → α × TS) (put : α → List Int) (lim : Int) (good : α → Prop) (hone : ∀ x rest, good x → Bys rest → one ⟨⟨0, put x ++ rest, lim⟩, false⟩ = (x, ⟨⟨0, rest, lim⟩, false⟩)) (hput : ∀ x, Bys (put x)) :
    ∀ (l : List α) (rest : List Int), (∀ x ∈ l, good x) → Bys rest → manyT one l.length ⟨⟨0, l.flatMap put ++ rest, lim⟩, false⟩ = (l, ⟨⟨0, rest, lim⟩, false⟩)
  | [], rest, _, _ => rfl
  | x :: l, rest, hg, hb => by
    rw [List.flatMap_cons, List.append_assoc, List.length_cons, manyT]
    have hbl : Bys (l.flatMap put ++ rest) := bys_app (bys_flat _ _ (fun x => hput x)) hb
    rw [hone x _ (hg x List.mem_cons_self) hbl]
    dsimp only
    rw [many_put one put lim good hone hput l rest (fun y hy => hg y (List.mem_cons_of_mem _ hy)) hb]
theorem rows_put {α : Type} (one : TS → α × TS) (put : α → List Int) (lim : Int) (good : α → Prop) (hone : ∀ x rest, good x → Bys rest → one ⟨⟨0, put x ++ rest, lim⟩, false⟩ = (x, ⟨⟨0, rest, lim⟩, false⟩)) (hput : ∀ x, Bys (put x))
    (most : Int) (hmost : most ≤ 1000) (l : List α) (rest : List Int) (hg : ∀ x ∈ l, good x) (hl : (l.length : Int) ≤ most) (hb : Bys rest) : rowsT one most ⟨⟨0, uvI (l.length : Int) ++ l.flatMap put ++ rest, lim⟩, false⟩ = (l, ⟨⟨0, rest, lim⟩, false⟩) := by
  rw [List.append_assoc]
  have h1 := nR_put (a := (l.length : Int)) (by unfold U; omega) (l.flatMap put ++ rest) (bys_app (bys_flat _ _ (fun x => hput x)) hb) lim
  unfold rowsT
  dsimp only
  rw [h1]
  dsimp only
  rw [if_neg (by omega), Int.toNat_natCast]
  exact many_put one put lim good hone hput l rest hg hb
structure GoodV (lim : Int) (x : S52) : Prop where
  uv : UV x
  pl : 0 ≤ x.f1.f1 ∧ x.f1.f1 < 7
  bys : Bys x.f2
  len : (x.f2.length : Int) ≤ lim
  fits : Fits x.f2.length
theorem voteT_put (lim : Int) (x : S52) (rest : List Int) (h : GoodV lim x) (hb : Bys rest) : voteT ⟨⟨0, voteB x ++ rest, lim⟩, false⟩ = (x, ⟨⟨0, rest, lim⟩, false⟩) := by
  obtain ⟨f0, ⟨n, r⟩, f2⟩ := x
  have hbt : Bys (textL f2 ++ rest) := bys_app (by rw [textL_eq _ h.bys]; exact bys_app (bys_uvI _) h.bys) hb
  have e : voteB ⟨f0, ⟨n, r⟩, f2⟩ ++ rest = uvI f0 ++ ((uvI n ++ uvI (IntKind.u64.wrap r)) ++ (textL f2 ++ rest)) := by
    unfold voteB
    simp only [List.append_assoc]
  rw [e]
  have h1 := nR_put (a := f0) h.uv.1 ((uvI n ++ uvI (IntKind.u64.wrap r)) ++ (textL f2 ++ rest)) (bys_app (bys_app (bys_uvI _) (bys_uvI _)) hbt) lim
  have h2 := balT_put (n := n) (r := r) h.uv.2 h.pl (textL f2 ++ rest) hbt lim
  have h3 := textT_put f2 h.bys rest hb lim h.len h.fits
  unfold voteT
  dsimp only
  rw [h1]
  dsimp only
  rw [h2]
  dsimp only
  rw [h3]
theorem bys_textL (l : List Int) : Bys (textL l) := bys_text _
theorem bys_voteB (x : S52) : Bys (voteB x) := bys_app (bys_uvI _) (bys_app (bys_app (bys_uvI _) (bys_uvI _)) (bys_textL _))
structure GoodF (lim : Int) (m : Mg) (c : Int) : Prop where
  S : c = 112 → Bys m.S ∧ (m.S.length : Int) ≤ lim ∧ Fits m.S.length
  B : c = 115 → m.B.length ≤ 16 ∧ ∀ x ∈ m.B, Bys x ∧ (x.length : Int) ≤ lim ∧ Fits x.length
  V : c = 118 → m.V.length ≤ 256 ∧ ∀ x ∈ m.V, GoodV lim x
structure GoodN (m : Mg) : Prop where
  n : U m.n
  r : 0 ≤ m.r ∧ m.r < 7
  first : U m.first
  last : U m.last
  commit : U m.commit
def setF (c : Int) (m p : Mg) : Mg :=
  if c = 98 then { p with n := m.n, r := m.r } else if c = 99 then { p with commit := m.commit } else if c = 102 then { p with first := m.first } else if c = 108 then { p with last := m.last }
  else if c = 112 then { p with S := m.S } else if c = 115 then { p with B := m.B } else if c = 118 then { p with V := m.V } else p
theorem takeF_put (m : Mg) (lim : Int) (hN : GoodN m) (c : Int) (hc : c = 98 ∨ c = 99 ∨ c = 102 ∨ c = 108 ∨ c = 112 ∨ c = 115 ∨ c = 118) (hF : GoodF lim m c) (p : Mg) (rest : List Int) (hb : Bys rest) :
    takeF c (p, ⟨⟨0, layF m c ++ rest, lim⟩, false⟩) = (setF c m p, ⟨⟨0, rest, lim⟩, false⟩) := by
  rcases hc with rfl | rfl | rfl | rfl | rfl | rfl | rfl
  · have h := balT_put hN.n hN.r rest hb lim
    show ({ p with n := (balT ⟨⟨0, uvI m.n ++ uvI (IntKind.u64.wrap m.r) ++ rest, lim⟩, false⟩).1.1, r := (balT ⟨⟨0, uvI m.n ++ uvI (IntKind.u64.wrap m.r) ++ rest, lim⟩, false⟩).1.2 }, (balT ⟨⟨0, uvI m.n ++ uvI (IntKind.u64.wrap m.r) ++ rest, lim⟩, false⟩).2) = _
    rw [h]
    rfl
  · have h := nR_put hN.commit rest hb lim
    show ({ p with commit := (nR ⟨0, uvI m.commit ++ rest, lim⟩).1 }, (⟨(nR ⟨0, uvI m.commit ++ rest, lim⟩).2, false⟩ : TS)) = _
    rw [h]
    rfl
  · have h := nR_put hN.first rest hb lim
    show ({ p with first := (nR ⟨0, uvI m.first ++ rest, lim⟩).1 }, (⟨(nR ⟨0, uvI m.first ++ rest, lim⟩).2, false⟩ : TS)) = _
    rw [h]
    rfl
  · have h := nR_put hN.last rest hb lim
    show ({ p with last := (nR ⟨0, uvI m.last ++ rest, lim⟩).1 }, (⟨(nR ⟨0, uvI m.last ++ rest, lim⟩).2, false⟩ : TS)) = _
    rw [h]
    rfl
  · obtain ⟨h1, h2, h3⟩ := hF.S rfl
    have h := textT_put m.S h1 rest hb lim h2 h3
    show ({ p with S := (textT ⟨⟨0, textL m.S ++ rest, lim⟩, false⟩).1 }, (textT ⟨⟨0, textL m.S ++ rest, lim⟩, false⟩).2) = _
    rw [h]
    rfl
  · obtain ⟨h1, h2⟩ := hF.B rfl
    have h := rows_put textT textL lim (fun x => Bys x ∧ (x.length : Int) ≤ lim ∧ Fits x.length) (fun x rest hx hb => textT_put x hx.1 rest hb lim hx.2.1 hx.2.2) (fun x => bys_textL x) 16 (by decide) m.B rest h2 (by omega) hb
    show ({ p with B := (rowsT textT 16 ⟨⟨0, uvI (m.B.length : Int) ++ m.B.flatMap textL ++ rest, lim⟩, false⟩).1 }, (rowsT textT 16 ⟨⟨0, uvI (m.B.length : Int) ++ m.B.flatMap textL ++ rest, lim⟩, false⟩).2) = _
    rw [h]
    rfl
  · obtain ⟨h1, h2⟩ := hF.V rfl
    have h := rows_put voteT voteB lim (GoodV lim) (fun x rest hx hb => voteT_put lim x rest hx hb) (fun x => bys_voteB x) 256 (by decide) m.V rest h2 (by omega) hb
    show ({ p with V := (rowsT voteT 256 ⟨⟨0, uvI (m.V.length : Int) ++ m.V.flatMap voteB ++ rest, lim⟩, false⟩).1 }, (rowsT voteT 256 ⟨⟨0, uvI (m.V.length : Int) ++ m.V.flatMap voteB ++ rest, lim⟩, false⟩).2) = _
    rw [h]
    rfl
theorem takesF_put (m : Mg) (lim : Int) (hN : GoodN m) : ∀ (cs : List Int) (p : Mg) (rest : List Int), (∀ c ∈ cs, (c = 98 ∨ c = 99 ∨ c = 102 ∨ c = 108 ∨ c = 112 ∨ c = 115 ∨ c = 118) ∧ GoodF lim m c) → Bys rest →
    takesF cs (p, ⟨⟨0, cs.flatMap (layF m) ++ rest, lim⟩, false⟩) = (cs.foldl (fun p c => setF c m p) p, ⟨⟨0, rest, lim⟩, false⟩)
  | [], p, rest, _, _ => rfl
  | c :: cs, p, rest, hc, hb => by
    obtain ⟨h1, h2⟩ := hc c List.mem_cons_self
    have hbl : Bys (cs.flatMap (layF m) ++ rest) := bys_app (bys_flat _ _ (fun x => bys_lay m x)) hb
    have h3 := takeF_put m lim hN c h1 h2 p (cs.flatMap (layF m) ++ rest) hbl
    have h4 := takesF_put m lim hN cs (setF c m p) rest (fun x hx => hc x (List.mem_cons_of_mem _ hx)) hb
    rw [List.flatMap_cons, List.append_assoc]
    unfold takesF at h4 ⊢
    rw [List.foldl_cons, h3, h4]
    rfl
theorem check_all {m : Mg} {k : Nat} (hc : checkM m k = true) : (1 ≤ k ∧ k ≤ 8) ∧ (0 ≤ m.r ∧ m.r < 7) ∧ (hasB k 98 = false → m.n = 0 ∧ m.r = 0) ∧ (hasB k 99 = false → m.commit = 0) ∧ (hasB k 102 = false → m.first = 0) ∧ (hasB k 108 = false → m.last = 0) ∧ (hasB k 112 = false → m.S = []) ∧ (hasB k 115 = false → m.B = []) ∧ (hasB k 118 = false → m.V = []) ∧ listsB m = true := by
  unfold checkM checkB at hc
  simp only [Bool.and_eq_true] at hc
  obtain ⟨⟨⟨⟨⟨⟨⟨⟨⟨⟨h1, h2⟩, h3⟩, h4⟩, h5⟩, h6⟩, h7⟩, h8⟩, h9⟩, h10⟩, h11⟩ := hc
  have hk := of_decide_eq_true h1
  refine ⟨by omega, of_decide_eq_true h3, fun h => ?_, fun h => ?_, fun h => ?_, fun h => ?_, fun h => ?_, fun h => ?_, fun h => ?_, h11⟩
  · rw [h] at h2; simpa using h2
  · rw [h] at h4; simpa using h4
  · rw [h] at h5; simpa using h5
  · rw [h] at h6; simpa using h6
  · rw [h] at h8
    have : m.S.length = 0 := by simpa using h8
    exact List.length_eq_zero_iff.1 this
  · rw [h] at h9
    have : m.B.length = 0 := by simpa using h9
    exact List.length_eq_zero_iff.1 this
  · rw [h] at h10
    have : m.V.length = 0 := by simpa using h10
    exact List.length_eq_zero_iff.1 this
theorem fold_set {m : Mg} {k : Nat} (hk : m.k = k) (hc : checkM m k = true) : (fldI k).foldl (fun p c => setF c m p) (m0 (k : Int)) = m := by
  obtain ⟨h1, _, h98, h99, h102, h108, h112, h115, h118, _⟩ := check_all hc
  clear hc
  obtain ⟨k', n, r, f, l, c, V, B, S⟩ := m
  dsimp only at hk h98 h99 h102 h108 h112 h115 h118
  subst hk
  have h0 : ¬ k < 1 := by omega
  have h8 : k < 9 := by omega
  clear h1
  match k, h8, h0 with
  | 0, _, h0 => exact absurd (by decide) h0
  | 1, _, _ =>
    have e99 := h99 (by kernel_rfl)
    subst e99
    have e102 := h102 (by kernel_rfl)
    subst e102
    have e108 := h108 (by kernel_rfl)
    subst e108
    have e112 := h112 (by kernel_rfl)
    subst e112
    have e115 := h115 (by kernel_rfl)
    subst e115
    have e118 := h118 (by kernel_rfl)
    subst e118
    rfl
  | 2, _, _ =>
    have e102 := h102 (by kernel_rfl)
    subst e102
    have e108 := h108 (by kernel_rfl)
    subst e108
    have e112 := h112 (by kernel_rfl)
    subst e112
    have e115 := h115 (by kernel_rfl)
    subst e115
    rfl
  | 3, _, _ =>
    have e99 := h99 (by kernel_rfl)
    subst e99
    have e102 := h102 (by kernel_rfl)
    subst e102
    have e108 := h108 (by kernel_rfl)
    subst e108
    have e112 := h112 (by kernel_rfl)
    subst e112
    have e115 := h115 (by kernel_rfl)
    subst e115
    have e118 := h118 (by kernel_rfl)
    subst e118
    rfl
  | 4, _, _ =>
    have e108 := h108 (by kernel_rfl)
    subst e108
    have e112 := h112 (by kernel_rfl)
    subst e112
    have e118 := h118 (by kernel_rfl)
    subst e118
    rfl
  | 5, _, _ =>
    have e99 := h99 (by kernel_rfl)
    subst e99
    have e112 := h112 (by kernel_rfl)
    subst e112
    have e115 := h115 (by kernel_rfl)
    subst e115
    have e118 := h118 (by kernel_rfl)
    subst e118
    rfl
  | 6, _, _ =>
    obtain ⟨e1, e2⟩ := h98 (by kernel_rfl)
    subst e1 e2
    have e99 := h99 (by kernel_rfl)
    subst e99
    have e108 := h108 (by kernel_rfl)
    subst e108
    have e112 := h112 (by kernel_rfl)
    subst e112
    have e115 := h115 (by kernel_rfl)
    subst e115
    have e118 := h118 (by kernel_rfl)
    subst e118
    rfl
  | 7, _, _ =>
    obtain ⟨e1, e2⟩ := h98 (by kernel_rfl)
    subst e1 e2
    have e99 := h99 (by kernel_rfl)
    subst e99
    have e108 := h108 (by kernel_rfl)
    subst e108
    have e112 := h112 (by kernel_rfl)
    subst e112
    have e118 := h118 (by kernel_rfl)
    subst e118
    rfl
  | 8, _, _ =>
    obtain ⟨e1, e2⟩ := h98 (by kernel_rfl)
    subst e1 e2
    have e99 := h99 (by kernel_rfl)
    subst e99
    have e108 := h108 (by kernel_rfl)
    subst e108
    have e115 := h115 (by kernel_rfl)
    subst e115
    have e118 := h118 (by kernel_rfl)
    subst e118
    rfl
  | n + 9, h, _ => exact absurd h (by omega)
theorem votes_place : ∀ (V : List S52) (a : Int), votesB a V = true → ∀ x ∈ V, 0 ≤ x.f1.f1 ∧ x.f1.f1 < 7
  | [], _, _, x, hx => by cases hx
  | y :: V, a, h, x, hx => by
    unfold votesB at h
    simp only [Bool.and_eq_true] at h
    rcases List.mem_cons.1 hx with rfl | hx
    · exact of_decide_eq_true h.1.2
    · exact votes_place V _ h.2 x hx
theorem flat_mem {α : Type} (f : α → List Int) : ∀ (l : List α) (x : α), x ∈ l → (f x).length ≤ (l.flatMap f).length
  | [], x, hx => by cases hx
  | y :: l, x, hx => by
    rw [List.flatMap_cons, List.length_append]
    rcases List.mem_cons.1 hx with rfl | hx
    · omega
    · have := flat_mem f l x hx
      omega
theorem textL_ge (l : List Int) (hb : Bys l) : l.length ≤ (textL l).length := by
  rw [textL_eq l hb, List.length_append]
  omega
theorem good_field {m : Mg} {k : Nat} (hV : ∀ x ∈ m.V, UV x ∧ Bys x.f2) (hB : ∀ x ∈ m.B, Bys x) (hS : Bys m.S) (hs : Small m) (hl : listsB m = true) (lim : Int) (c : Int) (hlim : ((layF m c).length : Int) ≤ lim) : GoodF lim m c := by
  have hlaw := lists_law m (by have := hs.nV; unfold Fits; omega) (by have := hs.nB; omega)
  rw [hl] at hlaw
  have hlaw := hlaw.symm
  simp only [Bool.and_eq_true, decide_eq_true_eq] at hlaw
  obtain ⟨⟨⟨⟨l1, l2⟩, _⟩, _⟩, l5⟩ := hlaw
  refine ⟨fun e => ?_, fun e => ?_, fun e => ?_⟩
  · subst e
    have h1 : (layF m 112) = textL m.S := rfl
    rw [h1] at hlim
    have h2 := textL_ge m.S hS
    exact ⟨hS, by omega, by have := hs.nS; unfold Fits; omega⟩
  · subst e
    have h1 : (layF m 115) = uvI (m.B.length : Int) ++ m.B.flatMap textL := rfl
    rw [h1, List.length_append] at hlim
    refine ⟨l1, fun x hx => ⟨hB x hx, ?_, by have := hs.B x hx; unfold Fits; omega⟩⟩
    have h2 := flat_mem textL m.B x hx
    have h3 := textL_ge x (hB x hx)
    omega
  · subst e
    have h1 : (layF m 118) = uvI (m.V.length : Int) ++ m.V.flatMap voteB := rfl
    rw [h1, List.length_append] at hlim
    refine ⟨l2, fun x hx => ⟨(hV x hx).1, votes_place _ _ l5 x hx, (hV x hx).2, ?_, by have := hs.V x hx; unfold Fits; omega⟩⟩
    have h2 := flat_mem voteB m.V x hx
    have h3 := textL_ge x.f2 (hV x hx).2
    have h4 : (textL x.f2).length ≤ (voteB x).length := by
      unfold voteB
      simp only [List.length_append]
      omega
    omega
theorem put_back {m : Mg} {k : Nat} (hk : m.k = k) (hn : U m.n) (hf : U m.first) (hla : U m.last) (hco : U m.commit) (hV : ∀ x ∈ m.V, UV x ∧ Bys x.f2) (hB : ∀ x ∈ m.B, Bys x) (hS : Bys m.S) (hs : Small m) (hc : checkM m k = true) :
    sumOk (putB m k) = true ∧ (nR (rs0 (putB m k))).1 = k ∧ takenM (putB m k) = (m, ⟨⟨0, [], (putB m k).length⟩, false⟩) := by
  obtain ⟨h1, hr, _, _, _, _, _, _, _, hl⟩ := check_all hc
  have hd : (putB m k).drop 4 = bodyB m k := rfl
  have ht : (putB m k).take 4 = sumB (bodyB m k) := rfl
  have hU : U (k : Int) := by unfold U; omega
  have hn1 : nR (rs0 (putB m k)) = ((k : Int), ⟨0, layB m k, (putB m k).length⟩) := by
    unfold rs0
    rw [hd]
    exact nR_put hU (layB m k) (bys_flat _ _ fun _ => bys_lay _ _) _
  have hlay : (layB m k).length ≤ (putB m k).length := by
    unfold putB bodyB
    simp only [List.length_append]
    omega
  refine ⟨?_, by rw [hn1], ?_⟩
  · unfold sumOk
    rw [hd, ht]
    exact beq_self_eq_true _
  · unfold takenM
    rw [hn1]
    dsimp only
    rw [Int.toNat_natCast]
    have h2 := takesF_put m ((putB m k).length : Int) ⟨hn, hr, hf, hla, hco⟩ (fldI k) (m0 (k : Int)) [] (fun c hc' => ⟨fldI_mem (by omega) c hc', good_field (k := k) hV hB hS hs hl _ c (by
      have h3 := flat_mem (layF m) (fldI k) c hc'
      have h4 : ((fldI k).flatMap (layF m)).length = (layB m k).length := rfl
      omega)⟩) (fun x hx => by cases hx)
    rw [List.append_nil] at h2
    rw [fold_set hk hc] at h2
    exact h2
end Go.Proofs.YtfkfboigkpofkaaDoor.M
end
section
namespace Go.Proofs.YtfkfboigkpofkaaDoor.M
open Go.RowKit Go.Proofs.YtfkfboigkpofkaaDoorW.PrintWords Go.Proofs.YtfkfboigkpofkaaDoorW.PrintLast Go.Proofs.YtfkfboigkpofkaaDoorW.PrintMore Go.Proofs.YtfkfboigkpofkaaDoor.PMsgPuts
set_option linter.unusedVariables false
set_option linter.unusedSimpArgs false
theorem great_l1 (m : Mg) (hB : m.B.length ≤ 30) : ∀ (d i k : Nat), i + d = m.B.length → d + 1 ≤ k → ∃ r, quoratelaw17_Great.l1 k (i : Int) m.k m.n m.r m.first m.last m.commit m.V m.B m.S = some r ∧ (r = false → ∀ x ∈ m.B.drop i, x.length ≤ 300)
  | 0, i, k, hi, hk => by
    obtain ⟨k', rfl⟩ : ∃ k', k = k' + 1 := ⟨k - 1, by omega⟩
    rw [quoratelaw17_Great.l1, if_neg (by omega), List.drop_of_length_le (by omega)]
    exact ⟨false, rfl, fun _ x hx => by cases hx⟩
  | d + 1, i, k, hi, hk => by
    obtain ⟨k', rfl⟩ : ∃ k', k = k' + 1 := ⟨k - 1, by omega⟩
    have hil : i < m.B.length := by omega
    have hw : wrap64 ((i : Int) + 1) = ((i + 1 : Nat) : Int) := by unfold wrap64; omega
    rw [quoratelaw17_Great.l1, if_pos (by omega), if_pos (by omega), rdL_at _ _ hil, hw, List.drop_eq_getElem_cons hil]
    by_cases h : ((m.B[i].length : Int) > 300)
    · rw [if_pos h]
      exact ⟨true, rfl, fun e => by cases e⟩
    · rw [if_neg h]
      obtain ⟨r, h1, h2⟩ := great_l1 m hB d (i + 1) k' (by omega) (by omega)
      refine ⟨r, h1, fun e x hx => ?_⟩
      rcases List.mem_cons.1 hx with rfl | hx
      · omega
      · exact h2 e x hx
theorem great_l0 (m : Mg) (hV : m.V.length ≤ 300) (hB : m.B.length ≤ 30) : ∀ (d i k : Nat), i + d = m.V.length → d + m.B.length + 3 ≤ k → ∃ r, quoratelaw17_Great.l0 k (i : Int) m.k m.n m.r m.first m.last m.commit m.V m.B m.S = some r ∧ (r = false → (∀ x ∈ m.V.drop i, x.f2.length ≤ 300) ∧ ∀ x ∈ m.B, x.length ≤ 300)
  | 0, i, k, hi, hk => by
    obtain ⟨k', rfl⟩ : ∃ k', k = k' + 1 := ⟨k - 1, by omega⟩
    obtain ⟨r, h1, h2⟩ := great_l1 m hB m.B.length 0 k' (by omega) (by omega)
    rw [quoratelaw17_Great.l0, if_neg (by omega), List.drop_of_length_le (by omega)]
    exact ⟨r, h1, fun e => ⟨(fun x hx => (by cases hx)), h2 e⟩⟩
  | d + 1, i, k, hi, hk => by
    obtain ⟨k', rfl⟩ : ∃ k', k = k' + 1 := ⟨k - 1, by omega⟩
    have hil : i < m.V.length := by omega
    have hw : wrap64 ((i : Int) + 1) = ((i + 1 : Nat) : Int) := by unfold wrap64; omega
    rw [quoratelaw17_Great.l0, if_pos (by omega), if_pos (by omega), rdT_at _ _ hil, hw, List.drop_eq_getElem_cons hil]
    by_cases h : ((m.V[i].f2.length : Int) > 300)
    · rw [if_pos h]
      exact ⟨true, rfl, fun e => by cases e⟩
    · rw [if_neg h]
      obtain ⟨r, h1, h2⟩ := great_l0 m hV hB d (i + 1) k' (by omega) (by omega)
      refine ⟨r, h1, fun e => ⟨fun x hx => ?_, (h2 e).2⟩⟩
      rcases List.mem_cons.1 hx with rfl | hx
      · omega
      · exact (h2 e).1 x hx
structure Small3 (m : Mg) : Prop where
  nV : m.V.length ≤ 300
  nB : m.B.length ≤ 30
  nS : m.S.length ≤ 300
  V : ∀ x ∈ m.V, x.f2.length ≤ 300
  B : ∀ x ∈ m.B, x.length ≤ 300
theorem Small3.small {m : Mg} (h : Small3 m) : Small m :=
  ⟨Nat.le_trans h.nV (by decide), Nat.le_trans h.nB (by decide), Nat.le_trans h.nS (by decide), fun x hx => Nat.le_trans (h.V x hx) (by decide), fun x hx => Nat.le_trans (h.B x hx) (by decide)⟩
theorem great_law (m : Mg) : ∃ r, quoratelaw17_Great.f 400 m.k m.n m.r m.first m.last m.commit m.V m.B m.S = some r ∧ (r = false → Small3 m) := by
  have ht : ∀ b, b = true → quoratelaw17_Great.j0 400 b m.k m.n m.r m.first m.last m.commit m.V m.B m.S = some true := by
    rintro b rfl
    rw [quoratelaw17_Great.j0, if_pos rfl]
  unfold quoratelaw17_Great.f
  by_cases c1 : (m.V.length : Int) > 300
  · rw [if_pos c1, ht _ rfl]
    exact ⟨true, rfl, fun e => by cases e⟩
  rw [if_neg c1]
  by_cases c2 : (m.B.length : Int) > 30
  · rw [if_pos c2, ht _ rfl]
    exact ⟨true, rfl, fun e => by cases e⟩
  rw [if_neg c2]
  by_cases c3 : (m.S.length : Int) > 300
  · rw [ht _ (decide_eq_true c3)]
    exact ⟨true, rfl, fun e => by cases e⟩
  rw [decide_eq_false c3, quoratelaw17_Great.j0, if_neg (by decide)]
  obtain ⟨r, h1, h2⟩ := great_l0 m (by omega) (by omega) m.V.length 0 399 (by omega) (by omega)
  exact ⟨r, h1, fun e => ⟨by omega, by omega, by omega, (h2 e).1, (h2 e).2⟩⟩
def greatB (m : Mg) : Bool := (quoratelaw17_Great.f 400 m.k m.n m.r m.first m.last m.commit m.V m.B m.S).getD false
theorem great_eq (m : Mg) : quoratelaw17_Great.f 400 m.k m.n m.r m.first m.last m.commit m.V m.B m.S = some (greatB m) := by
  obtain ⟨r, h, _⟩ := great_law m
  unfold greatB
  rw [h]
  rfl
theorem great_no {m : Mg} (h : greatB m = false) : Small3 m := by
  obtain ⟨r, h1, h2⟩ := great_law m
  unfold greatB at h
  rw [h1] at h
  exact h2 h
end Go.Proofs.YtfkfboigkpofkaaDoor.M
end
section
namespace Go.Proofs.YtfkfboigkpofkaaDoor.M
open Go.RowKit Go.Proofs.YtfkfboigkpofkaaDoorW.PrintWords Go.Proofs.YtfkfboigkpofkaaDoorW.PrintLast Go.Proofs.YtfkfboigkpofkaaDoorW.PrintMore Go.Proofs.YtfkfboigkpofkaaDoor.PMsgPuts
set_option linter.unusedVariables false
set_option linter.unusedSimpArgs false
structure Lies (m : Mg) (W : World) (A6 A7 A8 : Option Addr) (c6 c7 c8 : Nat) : Prop where
  at_ : m.At W A6 A7 A8
  h6 : m.V.length ≤ c6
  h7 : m.B.length ≤ c7
  h8 : m.S.length ≤ c8
theorem Lies.below {m : Mg} {W W' : World} {A6 A7 A8 : Option Addr} {c6 c7 c8 : Nat} (h : Lies m W A6 A7 A8 c6 c7 c8) (hb : Below W.heap.size W W') : Lies m W' A6 A7 A8 c6 c7 c8 := ⟨h.at_.below hb, h.h6, h.h7, h.h8⟩
theorem great_at (m : Mg) (A6 A7 A8 : Option Addr) (c6 c7 c8 : Nat) (W : World) (h : Lies m W A6 A7 A8 c6 c7 c8) : Calls Tryd.prog 7 #[.agg (m.cells A6 A7 A8 c6 c7 c8)] W fun e w' => e = .returned (.bool (greatB m)) ∧ Below W.heap.size W w' :=
  quoratelaw17_Great.calls 400 m.k m.n m.r m.first m.last m.commit A6 c6 m.V A7 c7 m.B A8 c8 m.S (greatB m) W h.at_.V h.h6 h.at_.B h.h7 h.at_.S h.h8 (great_eq m)
structure Whole (m : Mg) (k : Nat) : Prop where
  ok : m.Ok
  hk : m.k = k
  k8 : k < 256
theorem checks_at (m : Mg) (k : Nat) (hw : Whole m k) (A6 A7 A8 : Option Addr) (c6 c7 c8 : Nat) (W : World) (T : Tabs W) (h : Lies m W A6 A7 A8 c6 c7 c8) : Checks W #[.agg (m.cells A6 A7 A8 c6 c7 c8)] (checkM m k) :=
  check_m m k hw.hk hw.k8 hw.ok.fV A6 A7 A8 c6 c7 c8 W T h.at_ h.h6 h.h7 h.h8
theorem put_at_no (m : Mg) (k : Nat) (hw : Whole m k) (hc : checkM m k = false) (A6 A7 A8 : Option Addr) (c6 c7 c8 : Nat) (W : World) (T : Tabs W) (h : Lies m W A6 A7 A8 c6 c7 c8) : Calls Tryd.prog 11 #[.agg (m.cells A6 A7 A8 c6 c7 c8)] W fun e w' => e = .returned (.tuple #[.slice none 0 0, .int .i64 1]) ∧ Below W.heap.size W w' := by
  have hC := checks_at m k hw A6 A7 A8 c6 c7 c8 W T h
  rw [hc] at hC
  exact put_no m k hw.hk A6 A7 A8 c6 c7 c8 W hC
theorem known_of_check {m : Mg} {k : Nat} (hc : checkM m k = true) : 1 ≤ k ∧ k < 9 := by
  have h : knownB k = true := by
    unfold checkM checkB at hc
    simp only [Bool.and_eq_true] at hc
    exact hc.1.1.1.1.1.1.1.1.1.1
  have := of_decide_eq_true h
  omega
theorem body_len (m : Mg) (hs : Small m) (hok : m.Ok) (k : Nat) (hk : k < 9) : (bodyB m k).length < 200000000 := by
  unfold bodyB layB
  have h1 := flat_len (layF m) 30000000 (fldI k) (fun c _ => lay_len m hs hok c)
  have hl4 : (fldI k).length ≤ 4 := by unfold fldI; rw [List.length_map]; unfold fld; split <;> decide
  have h2 := Nat.mul_le_mul_right 30000000 hl4
  have h3 := uvI_len (a := (k : Int)) (by unfold U; omega)
  rw [List.length_append]
  omega
theorem putB_len (m : Mg) (hs : Small m) (hok : m.Ok) (k : Nat) (hk : k < 9) : (putB m k).length < 200000010 := by
  have := body_len m hs hok k hk
  unfold putB
  rw [List.length_append]
  show 4 + _ < _
  omega
theorem wakes_at (w W : World) (T : Tabs w) (hb : Below w.heap.size w W) : Calls Tryd.prog 8 #[] W fun e w' => e = .returned (.bool true) ∧ Below W.heap.size W w' := wakes_calls W (T.below hb)
end Go.Proofs.YtfkfboigkpofkaaDoor.M
end
