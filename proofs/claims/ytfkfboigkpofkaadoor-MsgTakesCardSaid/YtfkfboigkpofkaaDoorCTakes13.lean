/- Parts of a proof, pruned and joined by flat.py out of: MXc, TD, TE, TF, MXb, TG. -/
import Derived.Test.YtfkfboigkpofkaaDoorCTakes12
section
namespace Go.Proofs.YtfkfboigkpofkaaDoor.M
open Go.RowKit Go.Proofs.YtfkfboigkpofkaaDoorW.PrintWords Go.Proofs.YtfkfboigkpofkaaDoorW.PrintLast Go.Proofs.YtfkfboigkpofkaaDoorW.PrintMore Go.Proofs.YtfkfboigkpofkaaDoor.PMsgPuts
set_option linter.unusedVariables false
set_option linter.unusedSimpArgs false
theorem lists_l0v (V : List S52) (hV : V.length < 9223372036854775807) : ∀ (d i k : Nat) (a : Int), i + d = V.length → d + 1 ≤ k → msg_lists.l0 k a V (V.length : Int) (i : Int) = some (votesB a (V.drop i))
  | 0, i, k, a, hi, hk => by
    obtain ⟨k', rfl⟩ : ∃ k', k = k' + 1 := ⟨k - 1, by omega⟩
    rw [msg_lists.l0, if_neg (by omega), List.drop_of_length_le (by omega)]
    rfl
  | d + 1, i, k, a, hi, hk => by
    obtain ⟨k', rfl⟩ : ∃ k', k = k' + 1 := ⟨k - 1, by omega⟩
    have hil : i < V.length := by omega
    have hw : wrap64 ((i : Int) + 1) = ((i + 1 : Nat) : Int) := by unfold wrap64; omega
    have hp : ∀ x y : Int, msg_place.f x y = some (placeB y) := by
      intro x y
      unfold msg_place.f placeB
      by_cases h : y ≥ 0
      · rw [if_pos h]
        congr 1
        simp [h]
      · rw [if_neg h]
        congr 1
        simp
        omega
    rw [msg_lists.l0, if_pos (by omega), if_pos (by omega), if_pos (by omega), rdT_at _ _ hil, hp, hw, List.drop_eq_getElem_cons hil]
    show _ = some (decide (a < V[i].f0) && placeB V[i].f1.f1 && votesB V[i].f0 (V.drop (i + 1)))
    by_cases h1 : V[i].f0 ≤ a
    · rw [if_pos h1, decide_eq_false (by omega)]
      rfl
    · rw [if_neg h1, decide_eq_true (by omega), Option.bind_some]
      by_cases h2 : placeB V[i].f1.f1 = true
      · rw [if_pos h2, h2, lists_l0v V hV d (i + 1) k' V[i].f0 (by omega) (by omega)]
        rfl
      · rw [if_neg h2, Bool.eq_false_iff.mpr h2]
        rfl
def overB (first : Int) (nb : Nat) : Bool := nb == 0 || !decide (IntKind.u64.wrap (IntKind.u64.wrap (first + IntKind.u64.wrap (nb : Int)) - 1) < first)
theorem lists_law (m : Mg) (hf : Fits m.V.length) (hfB : m.B.length < 9223372036854775807) : listsB m = (decide (m.B.length ≤ 16) && decide (m.V.length ≤ 256) && (!(m.k == 7) || !(m.B.length == 0)) && overB m.first m.B.length && votesB m.commit m.V) := by
  have h0 := lists_l0v m.V (by unfold Fits at hf; omega) m.V.length 0 (m.V.length + 1) m.commit (by omega) (by omega)
  rw [List.drop_zero] at h0
  have h1 : ∀ b, msg_lists.j1 (m.V.length + 2) b m.k m.n m.r m.first m.last m.commit m.V m.B m.S = some (!b && votesB m.commit m.V) := by
    intro b
    cases b
    · rw [msg_lists.j1, if_neg (by decide)]
      exact h0
    · rw [msg_lists.j1, if_pos rfl]
      rfl
  have hw : IntKind.u64.wrap (m.B.length : Int) = m.B.length := by rw [IntKind.wrap_u64]; omega
  have h2 : ∀ b, msg_lists.j0 (m.V.length + 3) b m.k m.n m.r m.first m.last m.commit m.V m.B m.S = some (!b && (overB m.first m.B.length && votesB m.commit m.V)) := by
    intro b
    cases b
    · rw [msg_lists.j0, if_neg (by decide), hw]
      unfold overB
      by_cases hn : m.B.length = 0
      · rw [if_neg (by omega), h1, hn]
        rfl
      · rw [if_pos (by omega), h1, beq_eq_false_iff_ne.mpr hn, hw]
        rfl
    · rw [msg_lists.j0, if_pos rfl]
      rfl
  have hl := lists_eq m hf
  apply Option.some.inj
  rw [← hl]
  unfold msg_lists.f
  by_cases c1 : m.B.length ≤ 16
  · rw [if_neg (by omega), decide_eq_true c1]
    by_cases c2 : m.V.length ≤ 256
    · rw [if_neg (by omega), decide_eq_true c2]
      by_cases c3 : m.k = 7
      · rw [if_pos c3, h2, c3]
        have e : ((m.B.length : Int) == 0) = (m.B.length == 0) := by
          by_cases hn : m.B.length = 0
          · rw [hn]; rfl
          · rw [beq_eq_false_iff_ne.mpr hn, beq_eq_false_iff_ne.mpr (by omega)]
        rw [e]
        generalize (m.B.length == 0) = b
        cases b <;> simp
      · rw [if_neg c3, h2, beq_eq_false_iff_ne.mpr c3]
        simp
    · rw [if_pos (by omega), h2, decide_eq_false c2]
      simp
  · rw [if_pos (by omega), h2, decide_eq_false c1]
    simp
theorem has_same : ∀ k : Nat, k < 9 → hasB k 98 = hasI k 98 ∧ hasB k 99 = hasI k 99 ∧ hasB k 102 = hasI k 102 ∧ hasB k 108 = hasI k 108 ∧ hasB k 112 = hasI k 112 ∧ hasB k 115 = hasI k 115 ∧ hasB k 118 = hasI k 118 := by
  intro k hk
  match k, hk with
  | 0, _ | 1, _ | 2, _ | 3, _ | 4, _ | 5, _ | 6, _ | 7, _ | 8, _ => decide
theorem over_eq (first : Int) (nb : Nat) (hu : U first) (h : nb ≤ 16) : overB first nb = (decide (nb ≤ 1) || decide (first ≤ topU - ((nb : Int) - 1))) := by
  have h1 := hu.1
  have h2 := hu.2
  unfold overB topU
  simp only [IntKind.wrap_u64]
  by_cases e0 : nb = 0
  · subst e0; rfl
  · rw [beq_eq_false_iff_ne.mpr e0]
    by_cases e1 : nb ≤ 1
    · rw [decide_eq_true e1, decide_eq_false (by omega)]
      rfl
    · rw [decide_eq_false e1]
      by_cases e2 : first ≤ 18446744073709551615 - ((nb : Int) - 1)
      · rw [decide_eq_true e2, decide_eq_false (by omega)]
        rfl
      · rw [decide_eq_false e2, decide_eq_true (by omega)]
        rfl
theorem may_eq (m : Mg) (k : Nat) (hk : m.k = k) (hok : m.Ok) (hfB : m.B.length < 9223372036854775807) : mayM m k = checkM m k := by
  unfold mayM checkM mayB checkB
  by_cases hkn : knownB k = true
  · have h1 : 1 ≤ k ∧ k ≤ 8 := by
      have := of_decide_eq_true hkn
      omega
    obtain ⟨e1, e2, e3, e4, e5, e6, e7⟩ := has_same k (by omega)
    rw [lists_law m hok.fV hfB, e1, e2, e3, e4, e5, e6, e7]
    by_cases hnb : m.B.length ≤ 16
    · rw [over_eq m.first m.B.length hok.first hnb]
      have e8 : (m.k == 7) = (k == 7) := by
        rw [hk]
        by_cases h : k = 7
        · subst h; rfl
        · rw [beq_eq_false_iff_ne.mpr h, beq_eq_false_iff_ne.mpr (by omega)]
      have e9 : (hasI k 102 == !(m.first == 0)) = ((hasI k 102 || m.first == 0) && (!hasI k 102 || !(m.first == 0))) := by
        generalize hasI k 102 = a
        generalize (m.first == 0) = b
        cases a <;> cases b <;> rfl
      rw [e8, e9]
      simp only [Bool.and_assoc, Bool.and_comm, Bool.and_left_comm]
    · rw [decide_eq_false hnb]
      simp only [Bool.and_false, Bool.false_and]
  · rw [Bool.eq_false_iff.mpr hkn]
    simp only [Bool.and_false, Bool.false_and]
end Go.Proofs.YtfkfboigkpofkaaDoor.M
end
section
namespace Go.Proofs.YtfkfboigkpofkaaDoor.M
open Go.RowKit Go.Proofs.YtfkfboigkpofkaaDoorW.PrintWords Go.Proofs.YtfkfboigkpofkaaDoorW.PrintLast Go.Proofs.YtfkfboigkpofkaaDoorW.PrintMore Go.Proofs.YtfkfboigkpofkaaDoor.PMsgPuts
set_option linter.unusedVariables false
set_option linter.unusedSimpArgs false
def manyD {α : Type} (one : DS → α × DS) : Nat → DS → List α × DS
  | 0, s => ([], s)
  | n + 1, s => if s.ok = true then ((one s).1 :: (manyD one n (one s).2).1, (manyD one n (one s).2).2) else ([], s)
def voteD (s : DS) : S52 × DS :=
  (⟨(numD s).1, ⟨(balD (numD s).2).1.1, (balD (numD s).2).1.2⟩, (textD (balD (numD s).2).2).1⟩, (textD (balD (numD s).2).2).2)
def fieldD (c : Int) (p : Mg × DS) : Mg × DS :=
  if c = 98 then ({ p.1 with n := (balD p.2).1.1, r := (balD p.2).1.2 }, (balD p.2).2)
  else if c = 99 then ({ p.1 with commit := (numD p.2).1 }, (numD p.2).2)
  else if c = 102 then ({ p.1 with first := (numD p.2).1 }, (numD p.2).2)
  else if c = 108 then ({ p.1 with last := (numD p.2).1 }, (numD p.2).2)
  else if c = 112 then ({ p.1 with S := (textD p.2).1 }, (textD p.2).2)
  else if c = 115 then ({ p.1 with B := p.1.B ++ (manyD textD (numD p.2).1.toNat (numD p.2).2).1 }, (manyD textD (numD p.2).1.toNat (numD p.2).2).2)
  else if c = 118 then ({ p.1 with V := p.1.V ++ (manyD voteD (numD p.2).1.toNat (numD p.2).2).1 }, (manyD voteD (numD p.2).1.toNat (numD p.2).2).2)
  else p
def takesD (l : List Int) (p : Mg × DS) : Mg × DS := l.foldl (fun p c => fieldD c p) p
structure Sim (t : TS) (s : DS) : Prop where
  yes : s.ok = true → t.r.e = 0 ∧ t.bad = false ∧ t.r.l = s.l
  no : s.ok = false → t.r.e ≠ 0 ∨ t.bad = true
  bys : Bys s.l
  lim : (s.l.length : Int) ≤ t.r.lim
theorem nR_lim (s : RS) : (nR s).2.lim = s.lim := (less_nR s).lim
theorem nR_stay {s : RS} (h : s.e ≠ 0) : (nR s).2.e ≠ 0 := by
  have hb : byteR s = (0, s) := by unfold byteR; rw [if_neg h]
  unfold nR
  rw [uR_err hb h]
  exact h
theorem sim_num {t : TS} {s : DS} (h : Sim t s) : Sim ⟨(nR t.r).2, t.bad⟩ (numD s).2 ∧ ((numD s).2.ok = true → (nR t.r).1 = (numD s).1) := by
  have hlim := nR_lim t.r
  have hls := less_numD s
  have hbys := hls.bys h.bys
  have hlen := hls.len
  have hl2 : (((numD s).2.l.length : Nat) : Int) ≤ t.r.lim := by have := h.lim; omega
  cases ho : s.ok with
  | false =>
    have hn := numD_off ho
    rw [hn] at hbys hl2 ⊢
    refine ⟨⟨(fun h => (by cases h)), fun _ => ?_, hbys, by show _ ≤ (nR t.r).2.lim; rw [hlim]; exact hl2⟩, fun h => by cases h⟩
    rcases h.no ho with h1 | h1
    · exact .inl (nR_stay h1)
    · exact .inr h1
  | true =>
    obtain ⟨he, hb, hl⟩ := h.yes ho
    have hr : t.r = ⟨0, s.l, t.r.lim⟩ := by rw [← he, ← hl]
    cases hd : dU 10 s.l with
    | none =>
      have hn := numD_none hd
      rw [hn] at hbys hl2 ⊢
      refine ⟨⟨(fun h => (by cases h)), fun _ => .inl ?_, hbys, by show _ ≤ (nR t.r).2.lim; rw [hlim]; exact hl2⟩, fun h => by cases h⟩
      show (nR t.r).2.e ≠ 0
      rw [hr]
      exact (nR_none _ h.bys hd).2
    | some p =>
      have hn : numD s = ((p.1 : Int), ⟨p.2, true⟩) := numD_yes hd ho
      have hr2 : nR t.r = ((p.1 : Int), ⟨0, p.2, t.r.lim⟩) := by rw [hr]; exact nR_some _ h.bys hd
      rw [hn] at hbys hl2 ⊢
      rw [hr2]
      exact ⟨⟨fun _ => ⟨rfl, hb, rfl⟩, (fun h => (by cases h)), hbys, hl2⟩, fun _ => rfl⟩
theorem sim_bal {t : TS} {s : DS} (h : Sim t s) : Sim (balT t).2 (balD s).2 ∧ ((balD s).2.ok = true → (balT t).1 = (balD s).1) := by
  obtain ⟨h1, e1⟩ := sim_num h
  obtain ⟨h2, e2⟩ := sim_num h1
  have hb := (less_balD s).bys h.bys
  have hlen := (less_balD s).len
  have hlim : (balT t).2.r.lim = t.r.lim := (less_balT t).lim
  have hl2 : ((balD s).2.l.length : Int) ≤ (balT t).2.r.lim := by rw [hlim]; have := h.lim; omega
  cases ho : (numD (numD s).2).2.ok with
  | false =>
    have hoff : (balD s).2.ok = false := by unfold balD; split; · rfl
                                            · exact ho
    refine ⟨⟨(fun h => by rw [hoff] at h; cases h), fun _ => ?_, hb, hl2⟩, fun h => by rw [hoff] at h; cases h⟩
    unfold balT balR
    rcases h2.no ho with h3 | h3
    · have h4 : (nR (nR t.r).2).2.e ≠ 0 := h3
      rw [if_pos h4]
      exact .inl h4
    · right
      have h4 : t.bad = true := h3
      rw [h4]
      rfl
  | true =>
    obtain ⟨he, hbad, hl⟩ := h2.yes ho
    have he' : (nR (nR t.r).2).2.e = 0 := he
    have hbad' : t.bad = false := hbad
    have e3 : (nR (nR t.r).2).1 = (numD (numD s).2).1 := e2 ho
    have ho1 : (numD s).2.ok = true := by
      cases h5 : (numD s).2.ok with
      | true => rfl
      | false => have := (less_numD (numD s).2).off h5; rw [ho] at this; cases this
    have e4 : (nR t.r).1 = (numD s).1 := e1 ho1
    by_cases h6 : 6 < (numD (numD s).2).1
    · have eD : balD s = ((0, 0), ⟨(numD (numD s).2).2.l, false⟩) := by unfold balD; rw [if_pos h6]
      have eT : balR t.r = ((0, 0, 11), (nR (nR t.r).2).2) := by unfold balR; rw [if_neg (by rw [he']; decide), if_pos (by rw [e3]; omega)]
      rw [eD] at hb hl2 ⊢
      refine ⟨⟨(fun h => by cases h), fun _ => .inr ?_, hb, hl2⟩, fun h => by cases h⟩
      unfold balT
      rw [eT, hbad']
      rfl
    · have eD : balD s = (((numD s).1, (numD (numD s).2).1), (numD (numD s).2).2) := by unfold balD; rw [if_neg h6]
      have eT : balR t.r = (((nR t.r).1, (nR (nR t.r).2).1, 0), (nR (nR t.r).2).2) := by unfold balR; rw [if_neg (by rw [he']; decide), if_neg (by rw [e3]; omega)]
      rw [eD] at hb hl2 ⊢
      refine ⟨⟨fun _ => ?_, (fun h => by rw [ho] at h; cases h), hb, hl2⟩, fun _ => ?_⟩
      · unfold balT
        rw [eT, hbad']
        exact ⟨he', rfl, hl⟩
      · unfold balT
        rw [eT, e3, e4]
theorem bytes_str (l : List Int) (h : Bys l) : bytesOf (strOfNums l) = l := back_bys l h
theorem sim_text {t : TS} {s : DS} (h : Sim t s) : Sim (textT t).2 (textD s).2 ∧ ((textD s).2.ok = true → (textT t).1 = (textD s).1) := by
  obtain ⟨h1, e1⟩ := sim_num h
  have hb := (less_textD s).bys h.bys
  have hlen := (less_textD s).len
  have hlim : (textT t).2.r.lim = t.r.lim := (less_textT t).lim
  have hl2 : ((textD s).2.l.length : Int) ≤ (textT t).2.r.lim := by rw [hlim]; have := h.lim; omega
  have hbb : (textT t).2.bad = t.bad := rfl
  cases ho : (numD s).2.ok with
  | false =>
    have eD : textD s = ([], ⟨(numD s).2.l, false⟩) := by unfold textD; rw [if_pos (Or.inl ho)]
    rw [eD] at hb hl2 ⊢
    refine ⟨⟨(fun h => by cases h), fun _ => ?_, hb, hl2⟩, fun h => by cases h⟩
    rcases h1.no ho with h3 | h3
    · left
      have h4 : (nR t.r).2.e ≠ 0 := h3
      show (textR t.r).2.e ≠ 0
      unfold textR
      rw [if_pos h4]
      exact h4
    · exact .inr h3
  | true =>
    obtain ⟨he, hbad, hl⟩ := h1.yes ho
    have he' : (nR t.r).2.e = 0 := he
    have hl' : (nR t.r).2.l = (numD s).2.l := hl
    have e3 : (nR t.r).1 = (numD s).1 := e1 ho
    have hlm : ((numD s).2.l.length : Int) ≤ (nR t.r).2.lim := h1.lim
    have hU := numD_U (s := s) h.bys
    by_cases h6 : ((numD s).2.l.length : Int) < (numD s).1
    · have eD : textD s = ([], ⟨(numD s).2.l, false⟩) := by unfold textD; rw [if_pos (Or.inr h6)]
      rw [eD] at hb hl2 ⊢
      refine ⟨⟨(fun h => by cases h), fun _ => .inl ?_, hb, hl2⟩, fun h => by cases h⟩
      show (textR t.r).2.e ≠ 0
      unfold textR
      rw [if_neg (by rw [he']; decide)]
      split
      · unfold failR
        rw [if_pos he']
        exact (show (11 : Int) ≠ 0 by decide)
      · rw [if_pos (by rw [hl', e3]; exact h6)]
        unfold failR
        rw [if_pos he']
        exact (show (10 : Int) ≠ 0 by decide)
    · have eD : textD s = ((numD s).2.l.take (numD s).1.toNat, ⟨(numD s).2.l.drop (numD s).1.toNat, (numD s).2.ok⟩) := by
        unfold textD
        rw [if_neg (by
          rintro (h7 | h7)
          · rw [ho] at h7; cases h7
          · exact h6 h7)]
      have eT : textR t.r = (strOfNums ((numD s).2.l.take (numD s).1.toNat), { (nR t.r).2 with l := (numD s).2.l.drop (numD s).1.toNat }) := by
        unfold textR
        rw [if_neg (by rw [he']; decide), if_neg (by rw [e3]; omega), if_neg (by rw [hl', e3]; exact h6), hl', e3]
      rw [eD] at hb hl2 ⊢
      refine ⟨⟨fun _ => ⟨?_, hbad, ?_⟩, (fun h => by have h8 : (numD s).2.ok = false := h; rw [ho] at h8; cases h8), hb, hl2⟩, fun _ => ?_⟩
      · show (textR t.r).2.e = 0
        rw [eT]
        exact he'
      · show (textR t.r).2.l = _
        rw [eT]
      · show bytesOf (textR t.r).1 = _
        rw [eT]
        exact bytes_str _ (bys_take ((less_numD s).bys h.bys) _)
theorem sim_vote {t : TS} {s : DS} (h : Sim t s) : Sim (voteT t).2 (voteD s).2 ∧ ((voteD s).2.ok = true → (voteT t).1 = (voteD s).1) := by
  obtain ⟨h1, e1⟩ := sim_num h
  obtain ⟨h2, e2⟩ := sim_bal h1
  obtain ⟨h3, e3⟩ := sim_text h2
  refine ⟨h3, fun ho => ?_⟩
  have hu : (voteD s).2 = (textD (balD (numD s).2).2).2 := rfl
  rw [hu] at ho
  have ho2 : (balD (numD s).2).2.ok = true := by
    cases h5 : (balD (numD s).2).2.ok with
    | true => rfl
    | false => have := (less_textD (balD (numD s).2).2).off h5; rw [ho] at this; cases this
  have ho1 : (numD s).2.ok = true := by
    cases h5 : (numD s).2.ok with
    | true => rfl
    | false => have := (less_balD (numD s).2).off h5; rw [ho2] at this; cases this
  unfold voteT voteD
  rw [e1 ho1, e2 ho2, e3 ho]
def SimOp {α : Type} (oT : TS → α × TS) (oD : DS → α × DS) : Prop := ∀ t s, Sim t s → Sim (oT t).2 (oD s).2 ∧ ((oD s).2.ok = true → (oT t).1 = (oD s).1)
def OffOp {α : Type} (oD : DS → α × DS) : Prop := ∀ s, LessD s (oD s).2
theorem less_manyD {α : Type} {oD : DS → α × DS} (h : OffOp oD) : ∀ (n : Nat) (s : DS), LessD s (manyD oD n s).2
  | 0, s => LessD.refl s
  | n + 1, s => by
    unfold manyD
    split
    · exact (h s).trans (less_manyD h n _)
    · exact LessD.refl s
theorem flag_many {α : Type} {oT : TS → α × TS} {oD : DS → α × DS} (hS : SimOp oT oD) (hO : OffOp oD) : ∀ (n : Nat) (t : TS) (s : DS), Sim t s → s.ok = false → ((manyT oT n t).2.r.e ≠ 0 ∨ (manyT oT n t).2.bad = true)
  | 0, t, s, h, ho => h.no ho
  | n + 1, t, s, h, ho => by
    have h1 := (hS t s h).1
    have h2 := (hO s).off ho
    exact flag_many hS hO n (oT t).2 (oD s).2 h1 h2
theorem sim_many {α : Type} {oT : TS → α × TS} {oD : DS → α × DS} (hS : SimOp oT oD) (hO : OffOp oD) (hlim : ∀ t, (oT t).2.r.lim = t.r.lim) : ∀ (n : Nat), SimOp (manyT oT n) (manyD oD n)
  | 0, t, s, h => ⟨h, fun _ => rfl⟩
  | n + 1, t, s, h => by
    cases ho : s.ok with
    | true =>
      have e : manyD oD (n + 1) s = ((oD s).1 :: (manyD oD n (oD s).2).1, (manyD oD n (oD s).2).2) := by rw [manyD, if_pos ho]
      have h1 := hS t s h
      have h2 := sim_many hS hO hlim n (oT t).2 (oD s).2 h1.1
      rw [e]
      refine ⟨h2.1, fun hok => ?_⟩
      have hok1 : (oD s).2.ok = true := by
        cases h5 : (oD s).2.ok with
        | true => rfl
        | false => have := (less_manyD hO n (oD s).2).off h5; rw [this] at hok; cases hok
      show (oT t).1 :: (manyT oT n (oT t).2).1 = _
      rw [h1.2 hok1, h2.2 hok]
    | false =>
      have e : manyD oD (n + 1) s = ([], s) := by rw [manyD, if_neg (by rw [ho]; decide)]
      have hf := flag_many hS hO (n + 1) t s h ho
      have hl2 : ∀ (n : Nat) (t : TS), (manyT oT n t).2.r.lim = t.r.lim := by
        intro n
        induction n with
        | zero => intro t; rfl
        | succ n ih => intro t; exact (ih (oT t).2).trans (hlim t)
      rw [e]
      exact ⟨⟨(fun h => by rw [ho] at h; cases h), fun _ => hf, h.bys, by rw [hl2]; exact h.lim⟩, fun h => by rw [ho] at h; cases h⟩
theorem op_text : SimOp textT textD := fun _ _ h => sim_text h
theorem op_vote : SimOp voteT voteD := fun _ _ h => sim_vote h
theorem off_text : OffOp textD := less_textD
theorem off_vote : OffOp voteD := fun s => ((less_numD s).trans (less_balD _)).trans (less_textD _)
theorem sim_rows {α : Type} {oT : TS → α × TS} {oD : DS → α × DS} (hS : SimOp oT oD) (hO : OffOp oD) (hlim : ∀ t, (oT t).2.r.lim = t.r.lim) (most : Nat) (t : TS) (s : DS) (h : Sim t s) :
    (((manyD oD (numD s).1.toNat (numD s).2).2.ok = true → (manyD oD (numD s).1.toNat (numD s).2).1.length ≤ most → (rowsT oT most t).1 = (manyD oD (numD s).1.toNat (numD s).2).1 ∧ Sim (rowsT oT most t).2 (manyD oD (numD s).1.toNat (numD s).2).2) ∧
      ((manyD oD (numD s).1.toNat (numD s).2).2.ok = false ∨ most < (manyD oD (numD s).1.toNat (numD s).2).1.length → (rowsT oT most t).2.r.e ≠ 0 ∨ (rowsT oT most t).2.bad = true)) := by
  obtain ⟨h1, e1⟩ := sim_num h
  have hlen : ∀ (n : Nat) (s : DS), (manyD oD n s).2.ok = true → (manyD oD n s).1.length = n := by
    intro n
    induction n with
    | zero => intro s _; rfl
    | succ n ih =>
      intro s hok
      cases ho : s.ok with
      | true =>
        have e : manyD oD (n + 1) s = ((oD s).1 :: (manyD oD n (oD s).2).1, (manyD oD n (oD s).2).2) := by rw [manyD, if_pos ho]
        rw [e] at hok ⊢
        show (manyD oD n (oD s).2).1.length + 1 = n + 1
        rw [ih _ hok]
      | false =>
        have e : manyD oD (n + 1) s = ([], s) := by rw [manyD, if_neg (by rw [ho]; decide)]
        rw [e, ho] at hok
        cases hok
  have hU := numD_U (s := s) h.bys
  have hm := sim_many hS hO hlim (numD s).1.toNat ⟨(nR t.r).2, t.bad⟩ (numD s).2 h1
  by_cases d : (most : Int) < (nR t.r).1
  · have e : rowsT oT most t = ([], ⟨(nR t.r).2, true⟩) := by unfold rowsT; rw [if_pos d]
    rw [e]
    refine ⟨fun hok hle => ?_, fun _ => .inr rfl⟩
    exfalso
    have ho1 : (numD s).2.ok = true := by
      cases h5 : (numD s).2.ok with
      | true => rfl
      | false => have := (less_manyD hO (numD s).1.toNat (numD s).2).off h5; rw [this] at hok; cases hok
    have h6 := hlen _ _ hok
    have h7 := e1 ho1
    have h8 := hU.1
    omega
  · have e : rowsT oT most t = manyT oT (nR t.r).1.toNat ⟨(nR t.r).2, t.bad⟩ := by unfold rowsT; rw [if_neg d]
    rw [e]
    cases ho1 : (numD s).2.ok with
    | true =>
      have h7 := e1 ho1
      rw [h7]
      refine ⟨fun hok _ => ⟨hm.2 hok, hm.1⟩, fun hno => ?_⟩
      rcases hno with hno | hno
      · exact hm.1.no hno
      · cases hok : (manyD oD (numD s).1.toNat (numD s).2).2.ok with
        | false => exact hm.1.no hok
        | true =>
          have h6 := hlen _ _ hok
          have h8 := hU.1
          rw [h7] at d
          omega
    | false =>
      have hoff := (less_manyD hO (numD s).1.toNat (numD s).2).off ho1
      refine ⟨fun hok => ?_, fun _ => flag_many hS hO _ _ _ h1 ho1⟩
      rw [hoff] at hok
      cases hok
def Good (q : Mg × DS) : Prop := q.2.ok = true ∧ q.1.B.length ≤ 16 ∧ q.1.V.length ≤ 256
structure SimM (p : Mg × TS) (q : Mg × DS) : Prop where
  yes : Good q → Sim p.2 q.2 ∧ p.1 = q.1
  no : ¬ Good q → p.2.r.e ≠ 0 ∨ p.2.bad = true
  bys : Bys q.2.l
  lim : (q.2.l.length : Int) ≤ p.2.r.lim
theorem fieldD_B (c : Int) (q : Mg × DS) : (fieldD c q).1.B = q.1.B ∨ (c = 115 ∧ (fieldD c q).1.B = q.1.B ++ (manyD textD (numD q.2).1.toNat (numD q.2).2).1) := by
  unfold fieldD
  repeat' split
  all_goals first | exact .inl rfl | exact .inr ⟨by assumption, rfl⟩
theorem fieldD_V (c : Int) (q : Mg × DS) : (fieldD c q).1.V = q.1.V ∨ (c = 118 ∧ (fieldD c q).1.V = q.1.V ++ (manyD voteD (numD q.2).1.toNat (numD q.2).2).1) := by
  unfold fieldD
  repeat' split
  all_goals first | exact .inl rfl | exact .inr ⟨by assumption, rfl⟩
theorem less_fieldD (c : Int) (q : Mg × DS) : LessD q.2 (fieldD c q).2 := by
  unfold fieldD
  repeat' split
  · exact less_balD _
  · exact less_numD _
  · exact less_numD _
  · exact less_numD _
  · exact less_textD _
  · exact (less_numD _).trans (less_manyD off_text _ _)
  · exact (less_numD _).trans (less_manyD off_vote _ _)
  · exact LessD.refl _
theorem good_back {c : Int} {q : Mg × DS} (h : Good (fieldD c q)) : Good q := by
  obtain ⟨h1, h2, h3⟩ := h
  refine ⟨?_, ?_, ?_⟩
  · cases ho : q.2.ok with
    | true => rfl
    | false => have := (less_fieldD c q).off ho; rw [this] at h1; cases h1
  · rcases fieldD_B c q with h4 | ⟨_, h4⟩
    · rw [h4] at h2; exact h2
    · rw [h4, List.length_append] at h2; omega
  · rcases fieldD_V c q with h4 | ⟨_, h4⟩
    · rw [h4] at h3; exact h3
    · rw [h4, List.length_append] at h3; omega
theorem flag_op {α : Type} {oT : TS → α × TS} {oD : DS → α × DS} (hS : SimOp oT oD) (hO : OffOp oD) {t : TS} {l : List Int} (hf : t.r.e ≠ 0 ∨ t.bad = true) (hb : Bys l) (hl : (l.length : Int) ≤ t.r.lim) : (oT t).2.r.e ≠ 0 ∨ (oT t).2.bad = true :=
  (hS t ⟨l, false⟩ ⟨(fun h => by cases h), fun _ => hf, hb, hl⟩).1.no ((hO ⟨l, false⟩).off rfl)
theorem op_num : SimOp (fun t => ((nR t.r).1, ⟨(nR t.r).2, t.bad⟩)) numD := fun _ _ h => sim_num h
theorem op_bal : SimOp balT balD := fun _ _ h => sim_bal h
theorem flag_rows {α : Type} {oT : TS → α × TS} {oD : DS → α × DS} (hS : SimOp oT oD) (hO : OffOp oD) (most : Int) {t : TS} {l : List Int} (hf : t.r.e ≠ 0 ∨ t.bad = true) (hb : Bys l) (hl : (l.length : Int) ≤ t.r.lim) : (rowsT oT most t).2.r.e ≠ 0 ∨ (rowsT oT most t).2.bad = true := by
  unfold rowsT
  split
  · exact .inr rfl
  · have h1 := (sim_num (t := t) (s := ⟨l, false⟩) ⟨(fun h => by cases h), fun _ => hf, hb, hl⟩).1
    exact flag_many hS hO _ _ _ h1 ((less_numD _).off rfl)
theorem flag_field (c : Int) {p : Mg × TS} {l : List Int} (hf : p.2.r.e ≠ 0 ∨ p.2.bad = true) (hb : Bys l) (hl : (l.length : Int) ≤ p.2.r.lim) : (takeF c p).2.r.e ≠ 0 ∨ (takeF c p).2.bad = true := by
  unfold takeF
  repeat' split
  · exact flag_op op_bal less_balD hf hb hl
  · exact flag_op op_num less_numD hf hb hl
  · exact flag_op op_num less_numD hf hb hl
  · exact flag_op op_num less_numD hf hb hl
  · exact flag_op op_text less_textD hf hb hl
  · exact flag_rows op_text off_text _ hf hb hl
  · exact flag_rows op_vote off_vote _ hf hb hl
  · exact hf
theorem lim_takeF (c : Int) (p : Mg × TS) : (takeF c p).2.r.lim = p.2.r.lim := (less_takeF c p).lim
theorem sim_field (c : Int) (hc : c = 98 ∨ c = 99 ∨ c = 102 ∨ c = 108 ∨ c = 112 ∨ c = 115 ∨ c = 118) {p : Mg × TS} {q : Mg × DS} (h : SimM p q) (hB : c = 115 → q.1.B = []) (hV : c = 118 → q.1.V = []) : SimM (takeF c p) (fieldD c q) := by
  have hl := less_fieldD c q
  have hlim : ((fieldD c q).2.l.length : Int) ≤ (takeF c p).2.r.lim := by rw [lim_takeF]; have := h.lim; have := hl.len; omega
  refine ⟨fun hg => ?_, fun hg => ?_, hl.bys h.bys, hlim⟩
  · obtain ⟨hs, hm⟩ := h.yes (good_back hg)
    obtain ⟨m, t⟩ := p
    obtain ⟨m', s⟩ := q
    have hm' : m = m' := hm
    subst hm'
    replace hs : Sim t s := hs
    obtain ⟨g1, g2, g3⟩ := hg
    rcases hc with rfl | rfl | rfl | rfl | rfl | rfl | rfl
    · obtain ⟨h1, h2⟩ := sim_bal hs
      refine ⟨h1, ?_⟩
      show ({ m with n := (balT t).1.1, r := (balT t).1.2 } : Mg) = { m with n := (balD s).1.1, r := (balD s).1.2 }
      rw [h2 g1]
    · obtain ⟨h1, h2⟩ := sim_num hs
      refine ⟨h1, ?_⟩
      show ({ m with commit := (nR t.r).1 } : Mg) = { m with commit := (numD s).1 }
      rw [h2 g1]
    · obtain ⟨h1, h2⟩ := sim_num hs
      refine ⟨h1, ?_⟩
      show ({ m with first := (nR t.r).1 } : Mg) = { m with first := (numD s).1 }
      rw [h2 g1]
    · obtain ⟨h1, h2⟩ := sim_num hs
      refine ⟨h1, ?_⟩
      show ({ m with last := (nR t.r).1 } : Mg) = { m with last := (numD s).1 }
      rw [h2 g1]
    · obtain ⟨h1, h2⟩ := sim_text hs
      refine ⟨h1, ?_⟩
      show ({ m with S := (textT t).1 } : Mg) = { m with S := (textD s).1 }
      rw [h2 g1]
    · have hB0 : m.B = [] := hB rfl
      have g2' : (m.B ++ (manyD textD (numD s).1.toNat (numD s).2).1).length ≤ 16 := g2
      rw [hB0, List.nil_append] at g2'
      obtain ⟨h1, h2⟩ := (sim_rows op_text off_text (fun t => (less_textT t).lim) 16 t s hs).1 g1 g2'
      refine ⟨h2, ?_⟩
      show ({ m with B := (rowsT textT 16 t).1 } : Mg) = { m with B := m.B ++ (manyD textD (numD s).1.toNat (numD s).2).1 }
      rw [hB0, List.nil_append]
      exact congrArg (fun x => ({ m with B := x } : Mg)) h1
    · have hV0 : m.V = [] := hV rfl
      have g3' : (m.V ++ (manyD voteD (numD s).1.toNat (numD s).2).1).length ≤ 256 := g3
      rw [hV0, List.nil_append] at g3'
      obtain ⟨h1, h2⟩ := (sim_rows op_vote off_vote (fun t => (less_voteT t).lim) 256 t s hs).1 g1 g3'
      refine ⟨h2, ?_⟩
      show ({ m with V := (rowsT voteT 256 t).1 } : Mg) = { m with V := m.V ++ (manyD voteD (numD s).1.toNat (numD s).2).1 }
      rw [hV0, List.nil_append]
      exact congrArg (fun x => ({ m with V := x } : Mg)) h1
  · by_cases hq : Good q
    · obtain ⟨hs, hm⟩ := h.yes hq
      obtain ⟨m, t⟩ := p
      obtain ⟨m', s⟩ := q
      replace hs : Sim t s := hs
      have hoff : (fieldD c (m', s)).2.ok = false ∨ 16 < (fieldD c (m', s)).1.B.length ∨ 256 < (fieldD c (m', s)).1.V.length := by
        cases ho : (fieldD c (m', s)).2.ok with
        | false => exact .inl rfl
        | true =>
          right
          by_cases hb : (fieldD c (m', s)).1.B.length ≤ 16
          · right
            by_cases hv : (fieldD c (m', s)).1.V.length ≤ 256
            · exact absurd ⟨ho, hb, hv⟩ hg
            · omega
          · left; omega
      have hq2 : m'.B.length ≤ 16 := hq.2.1
      have hq3 : m'.V.length ≤ 256 := hq.2.2
      rcases hc with rfl | rfl | rfl | rfl | rfl | rfl | rfl
      · rcases hoff with h1 | h1 | h1
        · exact (sim_bal hs).1.no h1
        · exact absurd (show m'.B.length ≤ 16 from hq2) (by have h2 : 16 < m'.B.length := h1; omega)
        · exact absurd (show m'.V.length ≤ 256 from hq3) (by have h2 : 256 < m'.V.length := h1; omega)
      · rcases hoff with h1 | h1 | h1
        · exact (sim_num hs).1.no h1
        · exact absurd (show m'.B.length ≤ 16 from hq2) (by have h2 : 16 < m'.B.length := h1; omega)
        · exact absurd (show m'.V.length ≤ 256 from hq3) (by have h2 : 256 < m'.V.length := h1; omega)
      · rcases hoff with h1 | h1 | h1
        · exact (sim_num hs).1.no h1
        · exact absurd (show m'.B.length ≤ 16 from hq2) (by have h2 : 16 < m'.B.length := h1; omega)
        · exact absurd (show m'.V.length ≤ 256 from hq3) (by have h2 : 256 < m'.V.length := h1; omega)
      · rcases hoff with h1 | h1 | h1
        · exact (sim_num hs).1.no h1
        · exact absurd (show m'.B.length ≤ 16 from hq2) (by have h2 : 16 < m'.B.length := h1; omega)
        · exact absurd (show m'.V.length ≤ 256 from hq3) (by have h2 : 256 < m'.V.length := h1; omega)
      · rcases hoff with h1 | h1 | h1
        · exact (sim_text hs).1.no h1
        · exact absurd (show m'.B.length ≤ 16 from hq2) (by have h2 : 16 < m'.B.length := h1; omega)
        · exact absurd (show m'.V.length ≤ 256 from hq3) (by have h2 : 256 < m'.V.length := h1; omega)
      · have hB0 : m'.B = [] := hB rfl
        refine (sim_rows op_text off_text (fun t => (less_textT t).lim) 16 t s hs).2 ?_
        rcases hoff with h1 | h1 | h1
        · exact .inl h1
        · right
          have h2 : 16 < (m'.B ++ (manyD textD (numD s).1.toNat (numD s).2).1).length := h1
          rwa [hB0, List.nil_append] at h2
        · exact absurd (show m'.V.length ≤ 256 from hq3) (by have h2 : 256 < m'.V.length := h1; omega)
      · have hV0 : m'.V = [] := hV rfl
        refine (sim_rows op_vote off_vote (fun t => (less_voteT t).lim) 256 t s hs).2 ?_
        rcases hoff with h1 | h1 | h1
        · exact .inl h1
        · exact absurd (show m'.B.length ≤ 16 from hq2) (by have h2 : 16 < m'.B.length := h1; omega)
        · right
          have h2 : 256 < (m'.V ++ (manyD voteD (numD s).1.toNat (numD s).2).1).length := h1
          rwa [hV0, List.nil_append] at h2
    · exact flag_field c (h.no hq) h.bys h.lim
end Go.Proofs.YtfkfboigkpofkaaDoor.M
end
section
namespace Go.Proofs.YtfkfboigkpofkaaDoor.M
open Go.RowKit Go.Proofs.YtfkfboigkpofkaaDoorW.PrintWords Go.Proofs.YtfkfboigkpofkaaDoorW.PrintLast Go.Proofs.YtfkfboigkpofkaaDoorW.PrintMore Go.Proofs.YtfkfboigkpofkaaDoor.PMsgPuts
set_option linter.unusedVariables false
set_option linter.unusedSimpArgs false
theorem sim_fields : ∀ (l : List Int) (p : Mg × TS) (q : Mg × DS), l.Nodup → (∀ c ∈ l, c = 98 ∨ c = 99 ∨ c = 102 ∨ c = 108 ∨ c = 112 ∨ c = 115 ∨ c = 118) → (115 ∈ l → q.1.B = []) → (118 ∈ l → q.1.V = []) → SimM p q → SimM (takesF l p) (takesD l q)
  | [], p, q, _, _, _, _, h => h
  | c :: l, p, q, hn, hc, hB, hV, h => by
    obtain ⟨hn1, hn2⟩ := List.nodup_cons.1 hn
    refine sim_fields l (takeF c p) (fieldD c q) hn2 (fun x hx => hc x (List.mem_cons_of_mem _ hx)) (fun hx => ?_) (fun hx => ?_) (sim_field c (hc c List.mem_cons_self) h (fun e => hB (by rw [← e]; exact List.mem_cons_self)) (fun e => hV (by rw [← e]; exact List.mem_cons_self)))
    · rcases fieldD_B c q with h4 | ⟨h5, _⟩
      · rw [h4]; exact hB (List.mem_cons_of_mem _ hx)
      · subst h5; exact absurd hx hn1
    · rcases fieldD_V c q with h4 | ⟨h5, _⟩
      · rw [h4]; exact hV (List.mem_cons_of_mem _ hx)
      · subst h5; exact absurd hx hn1
theorem fldI_nodup : ∀ k : Nat, k < 9 → (fldI k).Nodup := by
  intro k hk
  match k, hk with
  | 0, _ | 1, _ | 2, _ | 3, _ | 4, _ | 5, _ | 6, _ | 7, _ | 8, _ => decide
structure RngD (m : Mg) : Prop where
  n : U m.n
  first : U m.first
  last : U m.last
  commit : U m.commit
  V : ∀ x ∈ m.V, UV x
theorem U0 : U 0 := ⟨Int.le_refl 0, by decide⟩
theorem rng_m0 (k : Int) : RngD (m0 k) := ⟨U0, U0, U0, U0, fun x hx => by cases hx⟩
theorem balD_U {s : DS} (hb : Bys s.l) : U (balD s).1.1 := by
  unfold balD
  split
  · exact U0
  · exact numD_U hb
theorem voteD_UV {s : DS} (hb : Bys s.l) : UV (voteD s).1 := ⟨numD_U hb, balD_U ((less_numD s).bys hb)⟩
theorem manyD_all {α : Type} {oD : DS → α × DS} (hO : OffOp oD) {G : α → Prop} (hG : ∀ s, Bys s.l → G (oD s).1) : ∀ (n : Nat) (s : DS), Bys s.l → ∀ x ∈ (manyD oD n s).1, G x
  | 0, s, _, x, hx => by cases hx
  | n + 1, s, hb, x, hx => by
    unfold manyD at hx
    split at hx
    · rcases List.mem_cons.1 hx with rfl | hx
      · exact hG s hb
      · exact manyD_all hO hG n _ ((hO s).bys hb) x hx
    · cases hx
theorem rng_field (c : Int) {q : Mg × DS} (h : RngD q.1) (hb : Bys q.2.l) : RngD (fieldD c q).1 := by
  unfold fieldD
  repeat' split
  · exact ⟨balD_U hb, h.first, h.last, h.commit, h.V⟩
  · exact ⟨h.n, h.first, h.last, numD_U hb, h.V⟩
  · exact ⟨h.n, numD_U hb, h.last, h.commit, h.V⟩
  · exact ⟨h.n, h.first, numD_U hb, h.commit, h.V⟩
  · exact ⟨h.n, h.first, h.last, h.commit, h.V⟩
  · exact ⟨h.n, h.first, h.last, h.commit, h.V⟩
  · refine ⟨h.n, h.first, h.last, h.commit, fun x hx => ?_⟩
    rcases List.mem_append.1 hx with hx | hx
    · exact h.V x hx
    · exact manyD_all off_vote (fun s hs => voteD_UV hs) _ _ ((less_numD _).bys hb) x hx
  · exact h
theorem rng_fields : ∀ (l : List Int) (q : Mg × DS), RngD q.1 → Bys q.2.l → RngD (takesD l q).1
  | [], q, h, _ => h
  | c :: l, q, h, hb => rng_fields l (fieldD c q) (rng_field c h hb) ((less_fieldD c q).bys hb)
theorem k_fieldD (c : Int) (q : Mg × DS) : (fieldD c q).1.k = q.1.k := by
  unfold fieldD
  repeat' split
  all_goals rfl
theorem k_takesD : ∀ (l : List Int) (q : Mg × DS), (takesD l q).1.k = q.1.k
  | [], _ => rfl
  | c :: l, q => (k_takesD l (fieldD c q)).trans (k_fieldD c q)
def sumD (l : List Int) : Bool := (strOfNums (sumB (l.drop 4) ++ l.drop 4)).toList == (strOfNums l).toList
theorem sum_eq (l : List Int) : sumD l = sumOk l := by
  unfold sumD sumOk
  rw [toL, toL, toL, toL, Bool.eq_iff_iff, beq_iff_eq, beq_iff_eq]
  conv => lhs; rhs; rw [← List.take_append_drop 4 l]
  rw [List.map_append, List.map_append]
  constructor
  · intro h
    exact List.append_cancel_right h
  · intro h
    rw [h]
def kindD (l : List Int) : Int × DS := numD ⟨l.drop 4, true⟩
def gotD (l : List Int) : Mg × DS := takesD (fldI (kindD l).1.toNat) (m0 ((kindD l).1.toNat : Nat), (kindD l).2)
def fineD (l : List Int) : Bool := (gotD l).2.ok && (gotD l).2.l.isEmpty && mayM (gotD l).1 (kindD l).1.toNat
def refTake (l : List Int) : Mg × Int :=
  if l.length < 5 then (m0 0, 10) else if sumD l = false then (m0 0, 12) else if 8 < (kindD l).1 then (m0 0, 11) else if fineD l = false then (m0 0, 11) else ((gotD l).1, 0)
theorem may_lists {m : Mg} {k : Nat} (h : mayM m k = true) : m.B.length ≤ 16 ∧ m.V.length ≤ 256 ∧ knownB k = true := by
  unfold mayM mayB at h
  simp only [Bool.and_eq_true, decide_eq_true_eq] at h
  exact ⟨h.1.1.1.1.2, h.1.1.2, h.1.1.1.1.1.1.1.1.1.1.1.1.1.1.1⟩
theorem ref_eq (l : List Int) (hb : Bys l) (hf : Fits l.length) : refTake l = takeM l := by
  unfold refTake takeM
  by_cases h5 : l.length < 5
  · rw [if_pos h5, if_pos h5]
  rw [if_neg h5, if_neg h5, sum_eq]
  by_cases hs : sumOk l = false
  · rw [if_pos hs, if_pos hs]
  rw [if_neg hs, if_neg hs]
  have hb4 := bys_drop hb 4
  have h0 : Sim ⟨rs0 l, false⟩ ⟨l.drop 4, true⟩ := ⟨fun _ => ⟨rfl, rfl, rfl⟩, (fun h => by cases h), hb4, by show ((l.drop 4).length : Int) ≤ (l.length : Int); rw [List.length_drop]; omega⟩
  obtain ⟨h1, e1⟩ := sim_num h0
  have hko : (kindD l).2.ok = true ∨ (kindD l).2.ok = false := by cases (kindD l).2.ok <;> simp
  have hU : U (kindD l).1 := numD_U hb4
  rcases hko with ho | ho
  · have ek : (nR (rs0 l)).1 = (kindD l).1 := e1 ho
    by_cases hk8 : 8 < (kindD l).1
    · have hkn : knownB (nR (rs0 l)).1 = false := by rw [ek]; exact decide_eq_false (by omega)
      rw [if_pos hk8, if_pos hkn]
    rw [if_neg hk8]
    have hM : SimM (takenM l) (gotD l) := by
      have hs0 : SimM (m0 ((kindD l).1.toNat : Nat), ⟨(nR (rs0 l)).2, false⟩) (m0 ((kindD l).1.toNat : Nat), (kindD l).2) :=
        ⟨fun _ => ⟨h1, rfl⟩, fun hg => absurd ⟨ho, Nat.zero_le _, Nat.zero_le _⟩ hg, h1.bys, h1.lim⟩
      unfold takenM gotD
      rw [ek]
      exact sim_fields _ _ _ (fldI_nodup _ (by have := hU.1; omega)) (fldI_mem (by have := hU.1; omega)) (fun _ => rfl) (fun _ => rfl) hs0
    by_cases hkn : knownB (nR (rs0 l)).1 = false
    · have hz : (kindD l).1.toNat = 0 := by
        rw [ek] at hkn
        have := of_decide_eq_false hkn
        have := hU.1
        omega
      have hfine : fineD l = false := by
        unfold fineD
        cases hm : mayM (gotD l).1 (kindD l).1.toNat with
        | false => rw [Bool.and_false]
        | true =>
          have := (may_lists hm).2.2
          rw [hz] at this
          cases this
      rw [if_pos hfine, if_pos hkn]
    rw [if_neg hkn]
    by_cases hg : Good (gotD l)
    · obtain ⟨hsm, hme⟩ := hM.yes hg
      obtain ⟨ge, gb, gl⟩ := hsm.yes hg.1
      have hkD : (gotD l).1.k = (((kindD l).1.toNat : Nat) : Int) := k_takesD _ _
      have hR : RngD (gotD l).1 := rng_fields _ _ (rng_m0 _) h1.bys
      have hok : (gotD l).1.Ok := ⟨hR.n, hR.first, hR.last, hR.commit, hR.V, by have := hg.2.2; unfold Fits; omega, by have := hg.2.1; unfold Fits; omega⟩
      have hmay : mayM (gotD l).1 (kindD l).1.toNat = checkM (gotD l).1 (kindD l).1.toNat := may_eq _ _ hkD hok (by have := hg.2.1; omega)
      have hd : ((doneR (takenM l).2.r).1 == 0) = (gotD l).2.l.isEmpty := by
        unfold doneR
        rw [if_neg (by rw [ge]; decide), gl]
        cases (gotD l).2.l with
        | nil => rfl
        | cons c t => rfl
      have hfr : fineD l = restOk l := by
        unfold fineD restOk
        rw [hg.1, gb, hd, hmay, hme, ek]
        rfl
      rw [hfr, hme]
    · have hfine : fineD l = false := by
        unfold fineD
        cases hm : mayM (gotD l).1 (kindD l).1.toNat with
        | false => rw [Bool.and_false]
        | true =>
          obtain ⟨m1, m2, _⟩ := may_lists hm
          cases hok : (gotD l).2.ok with
          | false => rfl
          | true => exact absurd ⟨hok, m1, m2⟩ hg
      have hrest : restOk l = false := by
        unfold restOk
        rcases hM.no hg with h6 | h6
        · have : ((doneR (takenM l).2.r).1 == 0) = false := by
            unfold doneR
            rw [if_pos h6]
            exact beq_eq_false_iff_ne.mpr h6
          rw [this]
          simp
        · rw [h6]
          rfl
      rw [if_pos hfine, if_pos hrest]
  · -- no kind
    have hd : dU 10 (l.drop 4) = none := by
      cases hd : dU 10 (l.drop 4) with
      | none => rfl
      | some p =>
        have h6 : kindD l = ((p.1 : Int), ⟨p.2, true⟩) := numD_yes (s := ⟨l.drop 4, true⟩) hd rfl
        rw [h6] at ho
        cases ho
    have hk0 : kindD l = (0, ⟨l.drop 4, false⟩) := numD_none (s := ⟨l.drop 4, true⟩) hd
    have hn0 : (nR (rs0 l)).1 = 0 := (nR_none (l.length : Int) hb4 hd).1
    have hfine : fineD l = false := by
      unfold fineD
      cases hm : mayM (gotD l).1 (kindD l).1.toNat with
      | false => rw [Bool.and_false]
      | true =>
        have := (may_lists hm).2.2
        rw [hk0] at this
        cases this
    rw [hk0, if_neg (show ¬ (8 : Int) < 0 by decide), if_pos hfine, if_pos (by rw [hn0]; rfl)]
end Go.Proofs.YtfkfboigkpofkaaDoor.M
end
section
namespace Go.Proofs.YtfkfboigkpofkaaDoor.M
open Go.RowKit Go.Proofs.YtfkfboigkpofkaaDoorW.PrintWords Go.Proofs.YtfkfboigkpofkaaDoorW.PrintLast Go.Proofs.YtfkfboigkpofkaaDoorW.PrintMore Go.Proofs.YtfkfboigkpofkaaDoor.PMsgPuts
set_option linter.unusedVariables false
set_option linter.unusedSimpArgs false
abbrev ks : Kd (List Int) := Kd.slice 5 (Kd.int .u8)
structure BoxD (W : World) (b lo : Nat) (m : Mg) (vV vB vS : Value) : Prop where
  at_ : W.heap[b]? = some (.cells #[.int .i64 m.k, .int .u64 m.n, .int .i64 m.r, .int .u64 m.first, .int .u64 m.last, .int .u64 m.commit, vV, vB, vS] 39 (0, 0))
  V : Kd.N k52 52 W lo (fun k => lo ≤ k ∧ some k ≠ vB.ownBlock) vV m.V
  B : Kd.N ks 27 W lo (fun k => lo ≤ k ∧ some k ≠ vV.ownBlock) vB m.B
  S : Kd.V (Kd.int .u8) 5 W lo (fun k => (lo ≤ k ∧ some k ≠ vV.ownBlock) ∧ some k ≠ vB.ownBlock) vS m.S
structure Wk (w0 W : World) (r g b lo : Nat) (m : Mg) (vV vB vS : Value) (s : DS) : Prop where
  X : BoxD W b lo m vV vB vS
  R : Rr w0 W g s
  Z : W.heap[r]? = some (.cells #[.int .i64 0, .int .u64 0, .int .i64 0, .int .u64 0, .int .u64 0, .int .u64 0, .slice none 0 0, .slice none 0 0, .slice none 0 0] 39 (0, 0))
  ord : w0.heap.size ≤ r ∧ r < g ∧ g < b ∧ b < lo
theorem Rr.grown {w0 W W' : World} {g n : Nat} {s : DS} {u : Value} (h : Rr w0 W g s) (G : W.grownBy W' u.ownBlock) (hg : g < n) (hn : w0.heap.size ≤ n) (hu : ∀ k, u.ownBlock = some k → n ≤ k) : Rr w0 W' g s := by
  obtain ⟨A, c, h1, h2, h3⟩ := h.at_
  have hne : some g ≠ u.ownBlock := fun e => by have := hu g e.symm; omega
  exact ⟨h.base, ⟨G.os.trans h.bel.os, G.tape.trans h.bel.tape, G.output.trans h.bel.output, Nat.le_trans h.bel.size G.size, fun k hk => (G.block k (Nat.lt_of_lt_of_le hk h.bel.size) (fun e => by have := hu k e.symm; omega)).trans (h.bel.block k hk)⟩, A, c, blk_grown h1 G hne, h2, h3⟩
theorem BoxD.read {W W' : World} {b lo g : Nat} {m : Mg} {vV vB vS : Value} (h : BoxD W b lo m vV vB vS) (G : W.grownBy W' (some g)) (hgb : b ≠ g) (hg : g < lo) : BoxD W' b lo m vV vB vS := by
  have hk : ∀ k, lo ≤ k → some k ≠ some g := fun k hk e => by have := Option.some.inj e; omega
  exact ⟨blk_grown h.at_ G (fun e => hgb (Option.some.inj e)), Kd.N_grown h.V G (fun k hh => hk k hh.1), Kd.N_grown h.B G (fun k hh => hk k hh.1), Kd.V_grown h.S G (fun k hh => hk k hh.1.1)⟩
theorem Wk.read {w0 W W' : World} {r g b lo : Nat} {m : Mg} {vV vB vS : Value} {s s1 : DS} (h : Wk w0 W r g b lo m vV vB vS s) (hR : Rr w0 W' g s1) (G : W.grownBy W' (some g)) : Wk w0 W' r g b lo m vV vB vS s1 := by
  have := h.ord
  exact ⟨h.X.read G (by omega) (by omega), hR, blk_grown h.Z G (fun e => by have := Option.some.inj e; omega), h.ord⟩
theorem BoxD.below {W W' : World} {b lo : Nat} {m : Mg} {vV vB vS : Value} (h : BoxD W b lo m vV vB vS) (hb : Below W.heap.size W W') : BoxD W' b lo m vV vB vS :=
  ⟨blk_below h.at_ hb, Kd.N_below h.V hb, Kd.N_below h.B hb, Kd.V_map h.S (fun _ hf => Kd.F_below hf hb)⟩
theorem Wk.below {w0 W W' : World} {r g b lo : Nat} {m : Mg} {vV vB vS : Value} {s : DS} (h : Wk w0 W r g b lo m vV vB vS s) (hb : Below W.heap.size W W') : Wk w0 W' r g b lo m vV vB vS s :=
  ⟨h.X.below hb, h.R.below hb, blk_below h.Z hb, h.ord⟩
theorem Wk.put {w0 W : World} {r g b lo : Nat} {m m' : Mg} {vV vB vS : Value} {s : DS} (h : Wk w0 W r g b lo m vV vB vS s) (i : Nat) (u : Value)
    (hc : (#[.int .i64 m.k, .int .u64 m.n, .int .i64 m.r, .int .u64 m.first, .int .u64 m.last, .int .u64 m.commit, vV, vB, vS] : Array Value).setIfInBounds i u = #[.int .i64 m'.k, .int .u64 m'.n, .int .i64 m'.r, .int .u64 m'.first, .int .u64 m'.last, .int .u64 m'.commit, vV, vB, vS])
    (hV : m'.V = m.V) (hB : m'.B = m.B) (hS : m'.S = m.S) : Wk w0 (W.setCell ⟨b, i, none⟩ u) r g b lo m' vV vB vS s := by
  have ho := h.ord
  have hk : ∀ k, lo ≤ k → k ≠ (⟨b, i, none⟩ : Addr).block := fun k hk => by show k ≠ b; omega
  refine ⟨⟨?_, ?_, ?_, ?_⟩, h.R.set (by omega) (by omega) i u, blk_set_far h.Z (by omega) i u, ho⟩
  · rw [← hc]; exact blk_set h.X.at_ i u
  · rw [hV]; exact Kd.N_far h.X.V (fun k hh => hk k hh.1) u
  · rw [hB]; exact Kd.N_far h.X.B (fun k hh => hk k hh.1) u
  · rw [hS]; exact Kd.V_far h.X.S (fun k hh => hk k hh.1.1) u
theorem Wk.n {w0 W : World} {r g b lo : Nat} {m : Mg} {vV vB vS : Value} {s : DS} (h : Wk w0 W r g b lo m vV vB vS s) (x y : Int) : Wk w0 ((W.setCell ⟨b, 1, none⟩ (.int .u64 x)).setCell ⟨b, 2, none⟩ (.int .i64 y)) r g b lo { m with n := x, r := y } vV vB vS s :=
  (h.put (m' := { m with n := x }) 1 _ rfl rfl rfl rfl).put (m' := { m with n := x, r := y }) 2 _ rfl rfl rfl rfl
theorem Wk.first {w0 W : World} {r g b lo : Nat} {m : Mg} {vV vB vS : Value} {s : DS} (h : Wk w0 W r g b lo m vV vB vS s) (x : Int) : Wk w0 (W.setCell ⟨b, 3, none⟩ (.int .u64 x)) r g b lo { m with first := x } vV vB vS s := h.put 3 _ rfl rfl rfl rfl
theorem Wk.last {w0 W : World} {r g b lo : Nat} {m : Mg} {vV vB vS : Value} {s : DS} (h : Wk w0 W r g b lo m vV vB vS s) (x : Int) : Wk w0 (W.setCell ⟨b, 4, none⟩ (.int .u64 x)) r g b lo { m with last := x } vV vB vS s := h.put 4 _ rfl rfl rfl rfl
theorem Wk.commit {w0 W : World} {r g b lo : Nat} {m : Mg} {vV vB vS : Value} {s : DS} (h : Wk w0 W r g b lo m vV vB vS s) (x : Int) : Wk w0 (W.setCell ⟨b, 5, none⟩ (.int .u64 x)) r g b lo { m with commit := x } vV vB vS s := h.put 5 _ rfl rfl rfl rfl
theorem Wk.lows {w0 W : World} {r g b lo : Nat} {m : Mg} {vV vB vS : Value} {s : DS} (h : Wk w0 W r g b lo m vV vB vS s) {n : Nat} (hn : W.heap.size ≤ n) : ∀ k, n ≤ k → some k ≠ vV.ownBlock ∧ some k ≠ vB.ownBlock := fun k hk =>
  ⟨fun e => by have := Kd.N_lt h.X.V k e.symm; omega, fun e => by have := Kd.N_lt h.X.B k e.symm; omega⟩
theorem Wk.S {w0 W : World} {r g b lo n : Nat} {m : Mg} {vV vB vS v : Value} {s : DS} {x : List Int} {base : Nat} (h : Wk w0 W r g b lo m vV vB vS s) (hv : Kd.V (Kd.int .u8) 5 W base (fun k => n ≤ k) v x) (hl : lo ≤ n) (hn : ∀ k, n ≤ k → some k ≠ vV.ownBlock ∧ some k ≠ vB.ownBlock) :
    Wk w0 (W.setCell ⟨b, 8, none⟩ v) r g b lo { m with S := x } vV vB v s := by
  have ho := h.ord
  have hk : ∀ k, lo ≤ k → k ≠ (⟨b, 8, none⟩ : Addr).block := fun k hk => by show k ≠ b; omega
  refine ⟨⟨?_, ?_, ?_, ?_⟩, h.R.set (by omega) (by omega) 8 v, blk_set_far h.Z (by omega) 8 v, ho⟩
  · simpa using blk_set h.X.at_ 8 v
  · exact Kd.N_far h.X.V (fun k hh => hk k hh.1) v
  · exact Kd.N_far h.X.B (fun k hh => hk k hh.1) v
  · exact Kd.V_far (Kd.V_mono (Kd.V_map hv (fun _ hf => hf)) (fun k hk => ⟨⟨Nat.le_trans hl hk, (hn k hk).1⟩, (hn k hk).2⟩)) (fun k hh => hk k hh.1.1) v
theorem Wk.B {w0 W W2 : World} {r g b lo : Nat} {m : Mg} {vV vB vS v1 : Value} {s : DS} {x : List (List Int)} (h : Wk w0 W r g b lo m vV vB vS s) (hv : Kd.N ks 27 W2 lo (fun k => lo ≤ k ∧ some k ≠ vV.ownBlock) v1 x) (G : W.grownBy W2 vB.ownBlock) (hat : v1.ownBlock = vB.ownBlock ∨ ∃ k, v1.ownBlock = some k ∧ W.heap.size ≤ k) :
    Wk w0 (W2.setCell ⟨b, 7, none⟩ v1) r g b lo { m with B := x } vV v1 vS s := by
  have ho := h.ord
  have hlo : ∀ k, vB.ownBlock = some k → lo ≤ k := fun k hk => Kd.N_base h.X.B k hk
  have hk : ∀ k, lo ≤ k → k ≠ (⟨b, 7, none⟩ : Addr).block := fun k hk => by show k ≠ b; omega
  have hb2 := blk_grown h.X.at_ G (fun e => by have := hlo b e.symm; omega)
  have hZ2 := blk_grown h.Z G (fun e => by have := hlo r e.symm; omega)
  have hR2 : Rr w0 W2 g s := h.R.grown (n := lo) G (by omega) (by omega) hlo
  refine ⟨⟨?_, ?_, ?_, ?_⟩, hR2.set (by omega) (by omega) 7 v1, blk_set_far hZ2 (by omega) 7 v1, ho⟩
  · simpa using blk_set hb2 7 v1
  · exact Kd.N_far (Kd.N_after h.X.V G hat) (fun k hh => hk k hh.1) v1
  · exact Kd.N_far hv (fun k hh => hk k hh.1) v1
  · exact Kd.V_far (Kd.V_after h.X.S G hat) (fun k hh => hk k hh.1.1) v1
theorem Wk.V {w0 W W2 : World} {r g b lo : Nat} {m : Mg} {vV vB vS v1 : Value} {s : DS} {x : List S52} (h : Wk w0 W r g b lo m vV vB vS s) (hv : Kd.N k52 52 W2 lo (fun k => lo ≤ k ∧ some k ≠ vB.ownBlock) v1 x) (G : W.grownBy W2 vV.ownBlock) (hat : v1.ownBlock = vV.ownBlock ∨ ∃ k, v1.ownBlock = some k ∧ W.heap.size ≤ k) :
    Wk w0 (W2.setCell ⟨b, 6, none⟩ v1) r g b lo { m with V := x } v1 vB vS s := by
  have ho := h.ord
  have hlo : ∀ k, vV.ownBlock = some k → lo ≤ k := fun k hk => Kd.N_base h.X.V k hk
  have hk : ∀ k, lo ≤ k → k ≠ (⟨b, 6, none⟩ : Addr).block := fun k hk => by show k ≠ b; omega
  have hb2 := blk_grown h.X.at_ G (fun e => by have := hlo b e.symm; omega)
  have hZ2 := blk_grown h.Z G (fun e => by have := hlo r e.symm; omega)
  have hR2 : Rr w0 W2 g s := h.R.grown (n := lo) G (by omega) (by omega) hlo
  have hS1 : Kd.V (Kd.int .u8) 5 W lo (fun k => (lo ≤ k ∧ some k ≠ vB.ownBlock) ∧ some k ≠ vV.ownBlock) vS m.S := Kd.V_mono h.X.S (fun k hh => ⟨⟨hh.1.1, hh.2⟩, hh.1.2⟩)
  refine ⟨⟨?_, ?_, ?_, ?_⟩, hR2.set (by omega) (by omega) 6 v1, blk_set_far hZ2 (by omega) 6 v1, ho⟩
  · simpa using blk_set hb2 6 v1
  · exact Kd.N_far hv (fun k hh => hk k hh.1) v1
  · exact Kd.N_far (Kd.N_after h.X.B G hat) (fun k hh => hk k hh.1) v1
  · exact Kd.V_far (Kd.V_mono (Kd.V_after hS1 G hat) (fun k hh => ⟨⟨hh.1.1, hh.2⟩, hh.1.2⟩)) (fun k hh => hk k hh.1.1) v1
theorem num_on {s : DS} (h : (numD s).2.ok = true) : (numD s).2.l.length < s.l.length ∧ s.ok = true := by
  cases ho : s.ok with
  | false => rw [numD_off ho] at h; cases h
  | true =>
    cases hd : dU 10 s.l with
    | none => rw [numD_none hd] at h; cases h
    | some p =>
      have h1 : numD s = ((p.1 : Int), ⟨p.2, true⟩) := numD_yes hd ho
      rw [h1]
      exact ⟨dU_len 10 s.l p.1 p.2 hd, rfl⟩
theorem text_on {s : DS} (h : (textD s).2.ok = true) : (textD s).2.l.length < s.l.length := by
  unfold textD at h ⊢
  split
  · rename_i hc; rw [if_pos hc] at h; cases h
  · rename_i hc
    rw [if_neg hc] at h
    have := (num_on h).1
    show ((numD s).2.l.drop _).length < _
    rw [List.length_drop]
    omega
theorem vote_on {s : DS} (h : (voteD s).2.ok = true) : (voteD s).2.l.length < s.l.length := by
  have h1 := text_on (s := (balD (numD s).2).2) h
  have h2 := (less_balD (numD s).2).len
  have h3 := (less_numD s).len
  show (textD (balD (numD s).2).2).2.l.length < _
  omega
theorem takesD_take (l : List Int) (q : Mg × DS) (k : Nat) (h : k < l.length) : fieldD (l.getD k 0) (takesD (l.take k) q) = takesD (l.take (k + 1)) q := by
  unfold takesD
  rw [List.take_succ_eq_append_getElem h, List.foldl_append]
  simp [List.getD_eq_getElem?_getD, h]
theorem takesD_B : ∀ (l : List Int) (q : Mg × DS), 115 ∉ l → (takesD l q).1.B = q.1.B
  | [], _, _ => rfl
  | c :: l, q, h => by
    have h1 := takesD_B l (fieldD c q) (fun hh => h (List.mem_cons_of_mem _ hh))
    refine h1.trans ?_
    rcases fieldD_B c q with h2 | ⟨h2, _⟩
    · exact h2
    · exact absurd (h2 ▸ List.mem_cons_self) h
theorem takesD_V : ∀ (l : List Int) (q : Mg × DS), 118 ∉ l → (takesD l q).1.V = q.1.V
  | [], _, _ => rfl
  | c :: l, q, h => by
    have h1 := takesD_V l (fieldD c q) (fun hh => h (List.mem_cons_of_mem _ hh))
    refine h1.trans ?_
    rcases fieldD_V c q with h2 | ⟨h2, _⟩
    · exact h2
    · exact absurd (h2 ▸ List.mem_cons_self) h
theorem less_takesD : ∀ (l : List Int) (q : Mg × DS), LessD q.2 (takesD l q).2
  | [], q => LessD.refl _
  | c :: l, q => (less_fieldD c q).trans (less_takesD l (fieldD c q))
theorem not_yet {l : List Int} (hn : l.Nodup) {j : Nat} (hj : j < l.length) : l.getD j 0 ∉ l.take j := by
  intro h
  obtain ⟨i, hi, he⟩ := List.getElem_of_mem h
  rw [List.length_take] at hi
  rw [List.getElem_take] at he
  have h2 : l.getD j 0 = l[j] := by simp [List.getD_eq_getElem?_getD, hj]
  rw [h2] at he
  have := (List.getElem_inj hn).1 he
  omega
end Go.Proofs.YtfkfboigkpofkaaDoor.M
end
section
namespace Go.Proofs.YtfkfboigkpofkaaDoor.M
open Go.RowKit Go.Proofs.YtfkfboigkpofkaaDoorW.PrintWords Go.Proofs.YtfkfboigkpofkaaDoorW.PrintLast Go.Proofs.YtfkfboigkpofkaaDoorW.PrintMore Go.Proofs.YtfkfboigkpofkaaDoor.PMsgPuts
set_option linter.unusedVariables false
set_option linter.unusedSimpArgs false
def bitN (c : Nat) : Nat := if c % 2 = 1 then (c / 2) ^^^ 2197175160 else c / 2
theorem div2_xor (a b : Nat) : (a ^^^ b) / 2 = a / 2 ^^^ b / 2 := by
  have h := Nat.shiftRight_xor_distrib (a := a) (b := b) (i := 1)
  simpa [Nat.shiftRight_eq_div_pow] using h
theorem div16_xor (a b : Nat) : (a ^^^ b) / 16 = a / 16 ^^^ b / 16 := by
  have h := Nat.shiftRight_xor_distrib (a := a) (b := b) (i := 4)
  simpa [Nat.shiftRight_eq_div_pow] using h
theorem par_xor (a b : Nat) : (decide ((a ^^^ b) % 2 = 1)) = (decide (a % 2 = 1) ^^ decide (b % 2 = 1)) := by
  have h := Nat.testBit_xor a b 0
  simpa [Nat.testBit_zero] using h
theorem bitN_eq (c : Nat) : bitN c = (c / 2) ^^^ (if decide (c % 2 = 1) then 2197175160 else 0) := by
  unfold bitN
  by_cases h : c % 2 = 1
  · rw [if_pos h, if_pos (decide_eq_true h)]
  · rw [if_neg h, if_neg (by simpa using h), Nat.xor_zero]
theorem bitN_xor (a b : Nat) : bitN (a ^^^ b) = bitN a ^^^ bitN b := by
  rw [bitN_eq, bitN_eq a, bitN_eq b, par_xor, div2_xor]
  apply Nat.eq_of_testBit_eq
  intro i
  generalize decide (a % 2 = 1) = x
  generalize decide (b % 2 = 1) = y
  cases x <;> cases y <;> simp [Nat.testBit_xor] <;> (cases (a / 2).testBit i <;> cases (b / 2).testBit i <;> cases Nat.testBit 2197175160 i <;> rfl)
def nib4 (c : Nat) : Nat := bitN (bitN (bitN (bitN c)))
theorem nib4_xor (a b : Nat) : nib4 (a ^^^ b) = nib4 a ^^^ nib4 b := by
  unfold nib4
  rw [bitN_xor, bitN_xor, bitN_xor, bitN_xor]
theorem bitN_two (m : Nat) : bitN (2 * m) = m := by
  unfold bitN
  rw [if_neg (by omega)]
  omega
theorem nib4_16 (q : Nat) : nib4 (16 * q) = q := by
  unfold nib4
  rw [show 16 * q = 2 * (2 * (2 * (2 * q))) by omega, bitN_two, bitN_two, bitN_two, bitN_two]
theorem nib4_tab : ∀ r : Nat, r < 16 → nib4 r = stpN r := by
  intro r h
  match r, h with
  | 0, _ | 1, _ | 2, _ | 3, _ | 4, _ | 5, _ | 6, _ | 7, _ | 8, _ | 9, _ | 10, _ | 11, _ | 12, _ | 13, _ | 14, _ | 15, _ => decide
  | n + 16, h => exact absurd h (by omega)
theorem split16 (c : Nat) : c = (16 * (c / 16)) ^^^ (c % 16) := by
  apply Nat.eq_of_testBit_eq
  intro i
  have h : c = 2 ^ 4 * (c / 16) + c % 16 := by omega
  have h1 : c.testBit i = (2 ^ 4 * (c / 16) + c % 16).testBit i := congrArg (fun x => x.testBit i) h
  rw [h1, Nat.testBit_two_pow_mul_add _ (show c % 16 < 2 ^ 4 by omega), Nat.testBit_xor, show 16 * (c / 16) = 2 ^ 4 * (c / 16) from rfl, Nat.testBit_two_pow_mul]
  by_cases hi : i < 4
  · simp [hi, show ¬ 4 ≤ i by omega]
  · have hz : (c % 16).testBit i = false := Nat.testBit_lt_two_pow (Nat.lt_of_lt_of_le (show c % 16 < 2 ^ 4 by omega) (Nat.pow_le_pow_right (by decide) (by omega)))
    simp [hi, hz, show 4 ≤ i by omega]
theorem nib4_eq (c : Nat) : nib4 c = c / 16 ^^^ stpN (c % 16) := by
  have h := congrArg nib4 (split16 c)
  rw [h, nib4_xor, nib4_16, nib4_tab _ (by omega)]
theorem mod16_xor (c b : Nat) : (c ^^^ b) % 16 = (c ^^^ (b % 16)) % 16 := by
  have e : ∀ x : Nat, x % 16 = x % 2 ^ 4 := fun x => rfl
  rw [e, e (c ^^^ (b % 16))]
  apply Nat.eq_of_testBit_eq
  intro i
  rw [Nat.testBit_mod_two_pow, Nat.testBit_mod_two_pow, Nat.testBit_xor, Nat.testBit_xor, e b, Nat.testBit_mod_two_pow]
  by_cases hi : i < 4 <;> simp [hi]
def bit8 (c : Nat) : Nat := nib4 (nib4 c)
theorem bit8_eq (c b : Nat) (hb : b < 256) : bit8 (c ^^^ b) = byteN c b := by
  have h1 : nib4 (c ^^^ b) = nibN c (b % 16) ^^^ (b / 16) := by
    rw [nib4_eq, div16_xor, mod16_xor]
    unfold nibN
    rw [Nat.xor_assoc, Nat.xor_assoc, Nat.xor_comm (b / 16)]
  unfold bit8 byteN
  rw [h1, nib4_eq, div16_xor, show b / 16 / 16 = 0 by omega, Nat.xor_zero]
  rfl
theorem bitN_lt {c : Nat} (h : c < 4294967296) : bitN c < 4294967296 := by
  unfold bitN
  split
  · exact Nat.xor_lt_two_pow (n := 32) (by omega) (by decide)
  · omega
def bits_ : Nat → Nat → Nat
  | 0, c => c
  | d + 1, c => bits_ d (bitN c)
theorem sum_l1 (l : List Int) (x4 : Int) (c : Nat) : ∀ (d : Nat) (x : Nat), d ≤ 8 → x < 4294967296 → quorateref02_Sum.l1 (c + d + 1) l (x : Int) x4 (((8 - d : Nat)) : Int) = quorateref02_Sum.l0 c l ((bits_ d x : Nat) : Int) (wrap64 (x4 + 1))
  | 0, x, _, _ => by
    rw [quorateref02_Sum.l1, if_neg (by omega)]
    rfl
  | d + 1, x, hd, hx => by
    have hand : Go.bits .and .u32 (x : Int) 1 = ((x % 2 : Nat) : Int) := by
      rw [show (1 : Int) = ((1 : Nat) : Int) from rfl, u32_and_nat x 1 (by omega) (by omega)]
      congr 1
      exact Nat.and_two_pow_sub_one_eq_mod _ 1
    have hw : wrap64 ((((8 - (d + 1) : Nat)) : Int) + 1) = (((8 - d : Nat)) : Int) := by unfold wrap64; omega
    have ih := sum_l1 l x4 c d (bitN x) (by omega) (bitN_lt hx)
    rw [show c + (d + 1) + 1 = (c + d + 1) + 1 from rfl, quorateref02_Sum.l1, if_pos (by omega), hand, hw, show bits_ (d + 1) x = bits_ d (bitN x) from rfl, ← ih]
    by_cases h : x % 2 = 1
    · rw [if_pos (by omega), show (x : Int) / 2 = ((x / 2 : Nat) : Int) by omega, show (2197175160 : Int) = ((2197175160 : Nat) : Int) from rfl, u32_xor_nat _ _ (by omega) (by decide)]
      unfold bitN
      rw [if_pos h]
    · rw [if_neg (by omega), show (x : Int) / 2 = ((x / 2 : Nat) : Int) by omega]
      unfold bitN
      rw [if_neg h]
theorem bits8 (x : Nat) : bits_ 8 x = bit8 x := rfl
theorem sum_l0 (l : List Int) (hb : Bys l) (hf : l.length < 9223372036854775807) : ∀ (d c i x : Nat), i + d = l.length → x < 4294967296 → quorateref02_Sum.l0 (c + 10 * d + 1) l (x : Int) (i : Int) = some ((4294967295 - crcN x (l.drop i) : Nat) : Int)
  | 0, c, i, x, hi, hx => by
    rw [quorateref02_Sum.l0, if_neg (by omega), List.drop_of_length_le (by omega)]
    have h := not_u32 hx
    have e : (if IntKind.u32.signed = true then -1 else IntKind.u32.max) = (4294967295 : Int) := rfl
    rw [e] at h
    have h2 : Go.bits .xor .u32 (x : Int) 4294967295 = Go.bits .xor .u32 4294967295 (x : Int) := by
      rw [show (4294967295 : Int) = ((4294967295 : Nat) : Int) from rfl, u32_xor_nat _ _ hx (by decide), u32_xor_nat _ _ (by decide) hx, Nat.xor_comm]
    rw [h2, h]
    rfl
  | d + 1, c, i, x, hi, hx => by
    have hil : i < l.length := by omega
    have hg := hb.get i hil
    obtain ⟨b, hbb⟩ := Int.eq_ofNat_of_zero_le hg.1
    have hb256 : b < 256 := by have := hg.2; omega
    have hrd : rd l (i : Int) = (b : Int) := by
      show l.getD (i : Int).toNat 0 = _
      rw [Int.toNat_natCast]
      exact hbb
    have hxor : Go.bits .xor .u32 (x : Int) ((b : Int) % 4294967296) = ((x ^^^ b : Nat) : Int) := by
      rw [show (b : Int) % 4294967296 = (b : Int) by omega, u32_xor_nat _ _ hx (by omega)]
    have hlt : x ^^^ b < 4294967296 := Nat.xor_lt_two_pow (n := 32) (by omega) (by omega)
    have hw : wrap64 ((i : Int) + 1) = ((i + 1 : Nat) : Int) := by unfold wrap64; omega
    have h1 := sum_l1 l (i : Int) (c + 10 * d + 1) 8 (x ^^^ b) (by omega) hlt
    rw [show (((8 - 8 : Nat)) : Int) = 0 from rfl, bits8, bit8_eq x b hb256, hw] at h1
    have h2 := sum_l0 l hb hf d c (i + 1) (byteN x b) (by omega) (byteN_lt hx)
    rw [show c + 10 * (d + 1) + 1 = (c + 10 * d + 1 + 8 + 1) + 1 by omega, quorateref02_Sum.l0, if_pos (by omega), if_pos (by omega), hrd, hxor, h1, h2]
    congr 3
    rw [List.drop_eq_getElem_cons hil]
    unfold crcN
    rw [List.foldl_cons]
    have e3 : l[i] = (b : Int) := by
      have := hbb
      rw [List.getD_eq_getElem?_getD, List.getElem?_eq_getElem hil] at this
      exact this
    rw [e3]
    rfl
theorem sum_law (l : List Int) (hb : Bys l) (hf : Fits l.length) {k : Nat} (hk : 10 * l.length + 1 ≤ k) : quorateref02_Sum.f k l = some (crcS l) := by
  unfold quorateref02_Sum.f
  have h := sum_l0 l hb (by unfold Fits at hf; omega) l.length (k - (10 * l.length + 1)) 0 4294967295 (by omega) (by decide)
  rw [show k - (10 * l.length + 1) + 10 * l.length + 1 = k by omega] at h
  exact h
theorem crcS_range (l : List Int) : 0 ≤ crcS l ∧ crcS l < 4294967296 := by
  unfold crcS
  omega
theorem summed_law (l : List Int) (hb : Bys l) (hf : Fits (l.length + 4)) {k : Nat} (hk : 10 * l.length + 1 ≤ k) : quorateref17_Summed.f k l = some (sumB l ++ l) := by
  unfold quorateref17_Summed.f
  rw [sum_law l hb (by unfold Fits at *; omega) hk]
  have h := crcS_range l
  have e0 : Int.tmod (crcS l) 256 % 256 = crcS l % 256 := by rw [Int.tmod_eq_emod_of_nonneg h.1]; omega
  have e1 : Int.tdiv (crcS l) 256 % 4294967296 % 256 = crcS l / 256 % 256 := by rw [Int.tdiv_eq_ediv_of_nonneg h.1]; omega
  have e2 : Int.tdiv (crcS l) 65536 % 4294967296 % 256 = crcS l / 65536 % 256 := by rw [Int.tdiv_eq_ediv_of_nonneg h.1]; omega
  have e3 : Int.tdiv (crcS l) 16777216 % 4294967296 % 256 = crcS l / 16777216 % 256 := by rw [Int.tdiv_eq_ediv_of_nonneg h.1]; omega
  show (if _ then some _ else none) = _
  rw [e0, e1, e2, e3, if_pos (by show 4 + l.length < _; unfold Fits at hf; omega)]
  rfl
end Go.Proofs.YtfkfboigkpofkaaDoor.M
end
section
namespace Go.Proofs.YtfkfboigkpofkaaDoor.M
open Go.RowKit Go.Proofs.YtfkfboigkpofkaaDoorW.PrintWords Go.Proofs.YtfkfboigkpofkaaDoorW.PrintLast Go.Proofs.YtfkfboigkpofkaaDoorW.PrintMore Go.Proofs.YtfkfboigkpofkaaDoor.PMsgPuts
set_option linter.unusedVariables false
set_option linter.unusedSimpArgs false
def RefP (w : World) (r : Mg × Int) (e : Ending) (w' : World) : Prop :=
  ∃ A6 A7 A8 c6 c7 c8, e = .returned (.tuple #[.agg (r.1.ofs A6 A7 A8 c6 c7 c8), .int .i64 r.2]) ∧ r.1.At w' A6 A7 A8 ∧ r.1.V.length ≤ c6 ∧ r.1.B.length ≤ c7 ∧ r.1.S.length ≤ c8 ∧ Below w.heap.size w w'
theorem refP_zero {w w' : World} {n : Int} (hb : Below w.heap.size w w') : RefP w (m0 0, n) (.returned (.tuple #[.agg #[.int .i64 0, .int .u64 0, .int .i64 0, .int .u64 0, .int .u64 0, .int .u64 0, .slice none 0 0, .slice none 0 0, .slice none 0 0], .int .i64 n])) w' :=
  ⟨none, none, none, 0, 0, 0, rfl, ⟨(Kd.V_nil k52 52 w' 0 (fun _ => True)).elim fun A h => h.elim fun c h => by obtain ⟨h1, _, h3⟩ := h; cases h1; exact Kd.F_now h3, (Kd.V_nil ks 27 w' 0 (fun _ => True)).elim fun A h => h.elim fun c h => by obtain ⟨h1, _, h3⟩ := h; cases h1; exact Kd.F_now h3, (Kd.V_nil (Kd.int .u8) 5 w' 0 (fun _ => True)).elim fun A h => h.elim fun c h => by obtain ⟨h1, _, h3⟩ := h; cases h1; exact Kd.F_now h3⟩, Nat.le_refl _, Nat.le_refl _, Nat.le_refl _, hb⟩
set_option maxHeartbeats 1000000 in
set_option maxRecDepth 100000 in
theorem ref_short (A : Option Addr) (n c : Nat) (w : World) (hn : n < 5) : Calls Tryd.prog 18 #[.slice A n c] w (RefP w (m0 0, 10)) := by
  have c0 : decide ((n : Int) < 5) = true := decide_eq_true (by omega)
  have hX := Aside0.mk (heap_alloc_new w (.cells #[.int .i64 0, .int .u64 0, .int .i64 0, .int .u64 0, .int .u64 0, .int .u64 0, .slice none 0 0, .slice none 0 0, .slice none 0 0] 39))
  have hW := Aside0.mk (bel1 w (.cells #[.int .i64 0, .int .u64 0, .int .i64 0, .int .u64 0, .int .u64 0, .int .u64 0, .slice none 0 0, .slice none 0 0, .slice none 0 0] 39))
  clear hn
  have hz0 := (blk_cell hX.out 0).trans rfl
  have hy0 := blk_frozen hX.out 0
  have hz1 := (blk_cell hX.out 1).trans rfl
  have hy1 := blk_frozen hX.out 1
  have hz2 := (blk_cell hX.out 2).trans rfl
  have hy2 := blk_frozen hX.out 2
  have hz3 := (blk_cell hX.out 3).trans rfl
  have hy3 := blk_frozen hX.out 3
  have hz4 := (blk_cell hX.out 4).trans rfl
  have hy4 := blk_frozen hX.out 4
  have hz5 := (blk_cell hX.out 5).trans rfl
  have hy5 := blk_frozen hX.out 5
  have hz6 := (blk_cell hX.out 6).trans rfl
  have hy6 := blk_frozen hX.out 6
  have hz7 := (blk_cell hX.out 7).trans rfl
  have hy7 := blk_frozen hX.out 7
  have hz8 := (blk_cell hX.out 8).trans rfl
  have hy8 := blk_frozen hX.out 8
  go_enter Tryd.func18, Tryd.ntmps18
  repeat go_step
  refine bodyPost_ret (results_ct rfl _ _ w.heap.size 39 _ (0, 0) _ rfl hX.out Tryd.underlying39 rfl (by kernel_rfl)) rfl ?_
  exact refP_zero hW.out
set_option maxHeartbeats 1000000 in
set_option maxRecDepth 100000 in
theorem ref_sum (A : Option Addr) (n c : Nat) (l : List Int) (w : World) (hl : l.length = n) (hr : Kd.C (Kd.int .u8) w A n l) (hc : n ≤ c) (hb : Bys l) (hf : Fits n) (hn : 5 ≤ n) (hs : sumD l = false) : Calls Tryd.prog 18 #[.slice A n c] w (RefP w (m0 0, 12)) := by
  have c0 : decide ((n : Int) < 5) = false := decide_eq_false (by omega)
  have hn3 : (n : Int) < 140737488355328 := by unfold Fits at hf; omega
  have hm1 : (4 ≤ (n : Int)) = True := eq_true (by omega)
  have hm2 : (4 ≤ (c : Int)) = True := eq_true (by omega)
  have e4 : (l.drop 4).length = n - 4 := by rw [List.length_drop, hl]
  have hDr : Kd.C (Kd.int .u8) w (if c = 4 then A else Option.map (fun x => (⟨x.block, x.off + 4, none⟩ : Addr)) A) (l.drop 4).length (l.drop 4) := by
    have := Kd.C_drop (m := 4) (c := c) (by rw [hl]; exact hr) (by omega) (by omega)
    exact this
  have hbd : Bys (l.drop 4) := bys_drop hb 4
  have hfd : Fits ((l.drop 4).length + 4) := by unfold Fits at *; omega
  obtain ⟨TT, hTT⟩ : ∃ TT, sumB (l.drop 4) ++ l.drop 4 = TT := ⟨_, rfl⟩
  have hSm : Aside0 (∀ W, Below w.heap.size w W → Calls Tryd.prog 15 #[.slice (if c = 4 then A else Option.map (fun x => (⟨x.block, x.off + 4, none⟩ : Addr)) A) (n - 4) (c - 4)] W fun e w' => ∃ A' c', e = .returned (.slice A' TT.length c') ∧ Kd.C (Kd.int .u8) w' A' TT.length TT ∧ Below W.heap.size W w') := by
    refine ⟨fun W hW => ?_⟩
    have := quorateref17_Summed.calls (10 * (l.drop 4).length + 1) (if c = 4 then A else Option.map (fun x => (⟨x.block, x.off + 4, none⟩ : Addr)) A) (c - 4) (l.drop 4) (sumB (l.drop 4) ++ l.drop 4) W (Kd.C_below hDr hW) (by omega) (summed_law _ hbd hfd (Nat.le_refl _))
    rw [e4, hTT] at this
    refine this.mono ?_
    rintro e w' ⟨v, rfl, hR, hb⟩
    obtain ⟨A', c', rfl, _, hr'⟩ := Kd.R_reads hR
    exact ⟨A', c', rfl, hr', hb⟩
  have hIn := Aside0.mk (show Kd.C (Kd.int .u8) w A n l from hr)
  have hX := Aside0.mk (heap_alloc_new w (.cells #[.int .i64 0, .int .u64 0, .int .i64 0, .int .u64 0, .int .u64 0, .int .u64 0, .slice none 0 0, .slice none 0 0, .slice none 0 0] 39))
  unfold sumD at hs
  rw [hTT] at hs
  have hSd' := Aside0.mk hs
  clear hs hTT
  clear hr hf hb hl hn hc hDr hbd hfd e4
  go_enter Tryd.func18, Tryd.ntmps18
  go_wp2
  have hX1 := Aside0.mk (blk_drew hX.out)
  have hW1 := Aside0.mk (below_drew1 (bel1 w (.cells #[.int .i64 0, .int .u64 0, .int .i64 0, .int .u64 0, .int .u64 0, .int .u64 0, .slice none 0 0, .slice none 0 0, .slice none 0 0] 39)))
  refine start_ (n := 7) (S := fun W => Below w.heap.size w W) (ds := []) #[false, false, false, false, false, false, false] (by kernel_rfl) rfl rfl hW1.out (fun hHeld => ?_)
  refine pure_ (i := 0) (N := some 18) (v := ?_) (a' := ?_) #[true, false, false, false, false, false, false] rfl rfl (by kernel_rfl) (fun _ _ _ h => h) (Or.inl ⟨by rfl, ?_⟩) ?_ ?_
  rotate_left
  · intro w'
    go_simp
    with_reducible rfl
  rotate_left
  · simp only [Act.put, List.setIfInBounds_toArray, List.set_cons_zero, List.set_cons_succ, i64_w, i32_w]
    rfl
  refine pure_ (i := 4) (N := some 22) (v := ?_) (a' := ?_) #[true, false, false, false, true, false, false] rfl rfl (by kernel_rfl) (fun _ _ _ h => h) (Or.inl ⟨by rfl, ?_⟩) ?_ ?_
  rotate_left
  · intro w'
    go_simp
    with_reducible rfl
  rotate_left
  · simp only [Act.put, List.setIfInBounds_toArray, List.set_cons_zero, List.set_cons_succ, i64_w, i32_w]
    rfl
  refine pure_ (i := 1) (N := some 19) (v := ?_) (a' := ?_) #[true, true, false, false, true, false, false] rfl rfl (by kernel_rfl) (fun _ _ _ h => h) (Or.inl ⟨by rfl, ?_⟩) ?_ ?_
  rotate_left
  · intro w'
    go_simp
    with_reducible rfl
  rotate_left
  · simp only [Act.put, List.setIfInBounds_toArray, List.set_cons_zero, List.set_cons_succ, i64_w, i32_w]
    rfl
  refine take_ (i := 5) (N := some 23) (v := ?_) (a' := ?_) #[true, true, false, false, true, true, false] rfl rfl (by kernel_rfl) (fun _ _ _ h => h) (Or.inl ⟨by rfl, ?_⟩) hHeld ?_ ?_
  rotate_left
  · rintro w' hS
    have hcv := Kd.C_string (P := Tryd.prog) (A := A) (c := c) Tryd.underlying27 Tryd.underlying5 Tryd.underlying9 (Kd.C_below hIn.out hS)
    go_simp
    with_reducible rfl
  rotate_left
  · simp only [Act.put, List.setIfInBounds_toArray, List.set_cons_zero, List.set_cons_succ, i64_w, i32_w]
    rfl
  refine one_ (i := 2) (N := some 20) #[true, true, true, false, true, true, false] rfl rfl (by kernel_rfl) (by decide) (fun K hK => ?_)
  refine goes_ Tryd.func15 (by kernel_rfl) rfl #[.slice (if c = 4 then A else Option.map (fun x => (⟨x.block, x.off + 4, none⟩ : Addr)) A) (n - 4) (c - 4)] (by rfl) rfl rfl (by (try simp only [List.map_toArray, List.map_cons, List.map_nil]); first | done | rfl) ?_
  refine (hSm.out _ hHeld).mono ?_
  rintro e w2 ⟨SA, sc, rfl, hSr, HB2⟩
  refine ⟨_, rfl, ?_⟩
  have hB2 := Aside0.mk (below_step hHeld HB2)
  have hX2 := Aside0.mk (blk_below hX1.out HB2)
  have hSr' := Aside0.mk hSr
  clear hHeld HB2 hSr
  refine hK.out _ _ hB2.out (fun hHeld => ?_)
  clear hK K
  refine norm_ (a' := ?_) ?_ ?_
  rotate_left
  · show Act.put _ (some 20) _ = _
    simp only [Act.put, List.setIfInBounds_toArray, List.set_cons_zero, List.set_cons_succ, i64_w, i32_w]
    rfl
  refine one_ (i := 3) (N := some 21) #[true, true, true, true, true, true, false] rfl rfl (by kernel_rfl) (by decide) (fun K hK => ?_)
  have hcv2 := Kd.C_string (P := Tryd.prog) (A := SA) (c := sc) Tryd.underlying27 Tryd.underlying5 Tryd.underlying9 hSr'.out
  refine value_ (v := .string (strOfNums TT)) (w1 := w2) (by rfl) rfl (by go_simp; (try rfl)) ?_
  refine hK.out _ _ hB2.out (fun hHeld => ?_)
  clear hK K hcv2
  refine norm_ (a' := ?_) ?_ ?_
  rotate_left
  · show Act.put _ (some 21) _ = _
    simp only [Act.put, List.setIfInBounds_toArray, List.set_cons_zero, List.set_cons_succ, i64_w, i32_w]
    rfl
  refine pure_ (i := 6) (N := some 24) (v := ?_) (a' := ?_) #[true, true, true, true, true, true, true] rfl rfl (by kernel_rfl) (fun _ _ _ h => h) (Or.inl ⟨by rfl, ?_⟩) ?_ ?_
  rotate_left
  · intro w'
    go_simp
    with_reducible rfl
  rotate_left
  · simp only [Act.put, List.setIfInBounds_toArray, List.set_cons_zero, List.set_cons_succ, i64_w, i32_w]
    rfl
  refine done_ (by kernel_rfl) ?_
  have c1 : (!(strOfNums TT).toList == (strOfNums l).toList) = true := by rw [hSd'.out]; rfl
  rw [c1]
  clear c1
  have hz0 := (blk_cell hX2.out 0).trans rfl
  have hy0 := blk_frozen hX2.out 0
  have hz1 := (blk_cell hX2.out 1).trans rfl
  have hy1 := blk_frozen hX2.out 1
  have hz2 := (blk_cell hX2.out 2).trans rfl
  have hy2 := blk_frozen hX2.out 2
  have hz3 := (blk_cell hX2.out 3).trans rfl
  have hy3 := blk_frozen hX2.out 3
  have hz4 := (blk_cell hX2.out 4).trans rfl
  have hy4 := blk_frozen hX2.out 4
  have hz5 := (blk_cell hX2.out 5).trans rfl
  have hy5 := blk_frozen hX2.out 5
  have hz6 := (blk_cell hX2.out 6).trans rfl
  have hy6 := blk_frozen hX2.out 6
  have hz7 := (blk_cell hX2.out 7).trans rfl
  have hy7 := blk_frozen hX2.out 7
  have hz8 := (blk_cell hX2.out 8).trans rfl
  have hy8 := blk_frozen hX2.out 8
  repeat go_step
  have hS9 := set9 hX2.out (.int .i64 0) (.int .u64 0) (.int .i64 0) (.int .u64 0) (.int .u64 0) (.int .u64 0) (.slice none 0 0) (.slice none 0 0) (.slice none 0 0)
  refine bodyPost_ret (results_ct rfl _ _ w.heap.size 39 _ (0, 0) _ rfl hS9.1 Tryd.underlying39 rfl (by kernel_rfl)) rfl ?_
  exact refP_zero (Below.trans hB2.out (grown_bel hS9.2 (Nat.le_refl _) hB2.out.size))
theorem start_Rr {w w3 : World} {X : Option Addr} {n c : Nat} {l : List Int} (hB : Below w.heap.size w w3) (hl : (l.drop 4).length = n - 4) (hc : n ≤ c) (hr : Kd.C (Kd.int .u8) w X (l.drop 4).length (l.drop 4)) :
    Rr w (w3.alloc (.cells #[.slice X (n - 4) (c - 4), .bool true] 78)) w3.heap.size ⟨l.drop 4, true⟩ := by
  refine ⟨hB.size, below_alloc hB _, X, c - 4, ?_, ?_, hr⟩
  · rw [show (⟨l.drop 4, true⟩ : DS).l.length = n - 4 from hl]
    exact heap_alloc_new _ _
  · show (l.drop 4).length ≤ c - 4
    omega
set_option maxHeartbeats 1000000 in
set_option maxRecDepth 100000 in
theorem ref_kind (A : Option Addr) (n c : Nat) (l : List Int) (w : World) (hl : l.length = n) (hr : Kd.C (Kd.int .u8) w A n l) (hc : n ≤ c) (hb : Bys l) (hf : Fits n) (hn : 5 ≤ n) (hs : sumD l = true) (hk : 8 < (kindD l).1) : Calls Tryd.prog 18 #[.slice A n c] w (RefP w (m0 0, 11)) := by
  have c0 : decide ((n : Int) < 5) = false := decide_eq_false (by omega)
  have hn3 : (n : Int) < 140737488355328 := by unfold Fits at hf; omega
  have hm1 : (4 ≤ (n : Int)) = True := eq_true (by omega)
  have hm2 : (4 ≤ (c : Int)) = True := eq_true (by omega)
  have e4 : (l.drop 4).length = n - 4 := by rw [List.length_drop, hl]
  have hDr : Kd.C (Kd.int .u8) w (if c = 4 then A else Option.map (fun x => (⟨x.block, x.off + 4, none⟩ : Addr)) A) (l.drop 4).length (l.drop 4) := by
    have := Kd.C_drop (m := 4) (c := c) (by rw [hl]; exact hr) (by omega) (by omega)
    exact this
  have hbd : Bys (l.drop 4) := bys_drop hb 4
  have hfd : Fits ((l.drop 4).length + 4) := by unfold Fits at *; omega
  obtain ⟨TT, hTT⟩ : ∃ TT, sumB (l.drop 4) ++ l.drop 4 = TT := ⟨_, rfl⟩
  have hSm : Aside0 (∀ W, Below w.heap.size w W → Calls Tryd.prog 15 #[.slice (if c = 4 then A else Option.map (fun x => (⟨x.block, x.off + 4, none⟩ : Addr)) A) (n - 4) (c - 4)] W fun e w' => ∃ A' c', e = .returned (.slice A' TT.length c') ∧ Kd.C (Kd.int .u8) w' A' TT.length TT ∧ Below W.heap.size W w') := by
    refine ⟨fun W hW => ?_⟩
    have := quorateref17_Summed.calls (10 * (l.drop 4).length + 1) (if c = 4 then A else Option.map (fun x => (⟨x.block, x.off + 4, none⟩ : Addr)) A) (c - 4) (l.drop 4) (sumB (l.drop 4) ++ l.drop 4) W (Kd.C_below hDr hW) (by omega) (summed_law _ hbd hfd (Nat.le_refl _))
    rw [e4, hTT] at this
    refine this.mono ?_
    rintro e w' ⟨v, rfl, hR, hb⟩
    obtain ⟨A', c', rfl, _, hr'⟩ := Kd.R_reads hR
    exact ⟨A', c', rfl, hr', hb⟩
  have hIn := Aside0.mk (show Kd.C (Kd.int .u8) w A n l from hr)
  have hX := Aside0.mk (heap_alloc_new w (.cells #[.int .i64 0, .int .u64 0, .int .i64 0, .int .u64 0, .int .u64 0, .int .u64 0, .slice none 0 0, .slice none 0 0, .slice none 0 0] 39))
  obtain ⟨kd, s1, hks⟩ : ∃ kd s1, kindD l = (kd, s1) := ⟨_, _, rfl⟩
  have hNum : Aside0 (∀ (g : Nat) (V : World), Rr w V g ⟨l.drop 4, true⟩ → Calls Tryd.prog 40 #[.pointer (some ⟨g, 0, none⟩)] V fun e w' => e = .returned (.int .u64 kd) ∧ Rr w w' g s1 ∧ V.grownBy w' (some g)) := by
    refine ⟨fun g V hV => ?_⟩
    have := numD_calls w V g ⟨l.drop 4, true⟩ hV hbd (by unfold Fits at *; show (l.drop 4).length < _; omega)
    rwa [show numD ⟨l.drop 4, true⟩ = (kd, s1) from hks] at this
  have hRs : Aside0 (∀ (w3 : World), Below w.heap.size w w3 → Rr w (w3.alloc (.cells #[.slice (if c = 4 then A else Option.map (fun x => (⟨x.block, x.off + 4, none⟩ : Addr)) A) (n - 4) (c - 4), .bool true] 78)) w3.heap.size ⟨l.drop 4, true⟩) := ⟨fun w3 hB => start_Rr hB e4 hc hDr⟩
  rw [hks] at hk
  unfold sumD at hs
  rw [hTT] at hs
  have hSd' := Aside0.mk hs
  clear hs hTT
  have c8 : decide (8 < kd) = true := decide_eq_true hk
  clear hk hks
  clear hr hf hb hl hn hc hDr hbd hfd e4
  go_enter Tryd.func18, Tryd.ntmps18
  go_wp2
  have hX1 := Aside0.mk (blk_drew hX.out)
  have hW1 := Aside0.mk (below_drew1 (bel1 w (.cells #[.int .i64 0, .int .u64 0, .int .i64 0, .int .u64 0, .int .u64 0, .int .u64 0, .slice none 0 0, .slice none 0 0, .slice none 0 0] 39)))
  refine start_ (n := 7) (S := fun W => Below w.heap.size w W) (ds := []) #[false, false, false, false, false, false, false] (by kernel_rfl) rfl rfl hW1.out (fun hHeld => ?_)
  refine pure_ (i := 0) (N := some 18) (v := ?_) (a' := ?_) #[true, false, false, false, false, false, false] rfl rfl (by kernel_rfl) (fun _ _ _ h => h) (Or.inl ⟨by rfl, ?_⟩) ?_ ?_
  rotate_left
  · intro w'
    go_simp
    with_reducible rfl
  rotate_left
  · simp only [Act.put, List.setIfInBounds_toArray, List.set_cons_zero, List.set_cons_succ, i64_w, i32_w]
    rfl
  refine pure_ (i := 4) (N := some 22) (v := ?_) (a' := ?_) #[true, false, false, false, true, false, false] rfl rfl (by kernel_rfl) (fun _ _ _ h => h) (Or.inl ⟨by rfl, ?_⟩) ?_ ?_
  rotate_left
  · intro w'
    go_simp
    with_reducible rfl
  rotate_left
  · simp only [Act.put, List.setIfInBounds_toArray, List.set_cons_zero, List.set_cons_succ, i64_w, i32_w]
    rfl
  refine pure_ (i := 1) (N := some 19) (v := ?_) (a' := ?_) #[true, true, false, false, true, false, false] rfl rfl (by kernel_rfl) (fun _ _ _ h => h) (Or.inl ⟨by rfl, ?_⟩) ?_ ?_
  rotate_left
  · intro w'
    go_simp
    with_reducible rfl
  rotate_left
  · simp only [Act.put, List.setIfInBounds_toArray, List.set_cons_zero, List.set_cons_succ, i64_w, i32_w]
    rfl
  refine take_ (i := 5) (N := some 23) (v := ?_) (a' := ?_) #[true, true, false, false, true, true, false] rfl rfl (by kernel_rfl) (fun _ _ _ h => h) (Or.inl ⟨by rfl, ?_⟩) hHeld ?_ ?_
  rotate_left
  · rintro w' hS
    have hcv := Kd.C_string (P := Tryd.prog) (A := A) (c := c) Tryd.underlying27 Tryd.underlying5 Tryd.underlying9 (Kd.C_below hIn.out hS)
    go_simp
    with_reducible rfl
  rotate_left
  · simp only [Act.put, List.setIfInBounds_toArray, List.set_cons_zero, List.set_cons_succ, i64_w, i32_w]
    rfl
  refine one_ (i := 2) (N := some 20) #[true, true, true, false, true, true, false] rfl rfl (by kernel_rfl) (by decide) (fun K hK => ?_)
  refine goes_ Tryd.func15 (by kernel_rfl) rfl #[.slice (if c = 4 then A else Option.map (fun x => (⟨x.block, x.off + 4, none⟩ : Addr)) A) (n - 4) (c - 4)] (by rfl) rfl rfl (by (try simp only [List.map_toArray, List.map_cons, List.map_nil]); first | done | rfl) ?_
  refine (hSm.out _ hHeld).mono ?_
  rintro e w2 ⟨SA, sc, rfl, hSr, HB2⟩
  refine ⟨_, rfl, ?_⟩
  have hB2 := Aside0.mk (below_step hHeld HB2)
  have hX2 := Aside0.mk (blk_below hX1.out HB2)
  have hSr' := Aside0.mk hSr
  clear hHeld HB2 hSr
  refine hK.out _ _ hB2.out (fun hHeld => ?_)
  clear hK K
  refine norm_ (a' := ?_) ?_ ?_
  rotate_left
  · show Act.put _ (some 20) _ = _
    simp only [Act.put, List.setIfInBounds_toArray, List.set_cons_zero, List.set_cons_succ, i64_w, i32_w]
    rfl
  refine one_ (i := 3) (N := some 21) #[true, true, true, true, true, true, false] rfl rfl (by kernel_rfl) (by decide) (fun K hK => ?_)
  have hcv2 := Kd.C_string (P := Tryd.prog) (A := SA) (c := sc) Tryd.underlying27 Tryd.underlying5 Tryd.underlying9 hSr'.out
  refine value_ (v := .string (strOfNums TT)) (w1 := w2) (by rfl) rfl (by go_simp; (try rfl)) ?_
  refine hK.out _ _ hB2.out (fun hHeld => ?_)
  clear hK K hcv2
  refine norm_ (a' := ?_) ?_ ?_
  rotate_left
  · show Act.put _ (some 21) _ = _
    simp only [Act.put, List.setIfInBounds_toArray, List.set_cons_zero, List.set_cons_succ, i64_w, i32_w]
    rfl
  refine pure_ (i := 6) (N := some 24) (v := ?_) (a' := ?_) #[true, true, true, true, true, true, true] rfl rfl (by kernel_rfl) (fun _ _ _ h => h) (Or.inl ⟨by rfl, ?_⟩) ?_ ?_
  rotate_left
  · intro w'
    go_simp
    with_reducible rfl
  rotate_left
  · simp only [Act.put, List.setIfInBounds_toArray, List.set_cons_zero, List.set_cons_succ, i64_w, i32_w]
    rfl
  refine done_ (by kernel_rfl) ?_

  have c1 : (!(strOfNums TT).toList == (strOfNums l).toList) = false := by
    rw [show ((strOfNums TT).toList == (strOfNums l).toList) = true from hSd'.out]; rfl
  rw [c1]
  clear c1
  repeat (first
    | ((with_reducible refine gate_callee (f := 40) rfl ?_); (with_reducible refine gate_dst (N := 31) rfl ?_); refine goesL_ (some 31) rfl rfl Tryd.func40 (by kernel_rfl) rfl #[.pointer (some ⟨w2.heap.size, 0, none⟩)] rfl (by (try simp only [List.map_toArray, List.map_cons, List.map_nil]); first | done | rfl) ?_; refine (hNum.out _ _ (hRs.out _ hB2.out)).mono ?_; rintro e w3 ⟨rfl, HR3, G3⟩; refine ⟨_, rfl, ?_⟩; have hX3 := Aside0.mk (blk_grown (blk_alloc hX2.out _) G3 (fun e => Nat.lt_irrefl _ (Nat.lt_of_lt_of_le (blk_lt hX2.out) (Nat.le_of_eq (Option.some.inj e).symm)))); have hB3 := Aside0.mk ((below_alloc hB2.out _).trans (grown_bel G3 hB2.out.size (Nat.le_trans hB2.out.size (by simp)))); have hR3 := Aside0.mk HR3; have hz0 := (blk_cell hX3.out 0).trans rfl; have hy0 := blk_frozen hX3.out 0; have hz1 := (blk_cell hX3.out 1).trans rfl; have hy1 := blk_frozen hX3.out 1; have hz2 := (blk_cell hX3.out 2).trans rfl; have hy2 := blk_frozen hX3.out 2; have hz3 := (blk_cell hX3.out 3).trans rfl; have hy3 := blk_frozen hX3.out 3; have hz4 := (blk_cell hX3.out 4).trans rfl; have hy4 := blk_frozen hX3.out 4; have hz5 := (blk_cell hX3.out 5).trans rfl; have hy5 := blk_frozen hX3.out 5; have hz6 := (blk_cell hX3.out 6).trans rfl; have hy6 := blk_frozen hX3.out 6; have hz7 := (blk_cell hX3.out 7).trans rfl; have hy7 := blk_frozen hX3.out 7; have hz8 := (blk_cell hX3.out 8).trans rfl; have hy8 := blk_frozen hX3.out 8; clear HR3 G3; (try dsimp only))
    | go_step)
  have hS9 := set9 hX3.out (.int .i64 0) (.int .u64 0) (.int .i64 0) (.int .u64 0) (.int .u64 0) (.int .u64 0) (.slice none 0 0) (.slice none 0 0) (.slice none 0 0)
  refine bodyPost_ret (results_ct rfl _ _ w.heap.size 39 _ (0, 0) _ rfl hS9.1 Tryd.underlying39 rfl (by kernel_rfl)) rfl ?_
  exact refP_zero (Below.trans hB3.out (grown_bel hS9.2 (Nat.le_refl _) hB3.out.size))
def LenD (q q' : Mg × DS) : Prop := q'.2.ok = true → q'.1.B.length + q'.1.V.length + q'.2.l.length ≤ q.1.B.length + q.1.V.length + q.2.l.length
theorem less_on {s t : DS} (h : LessD s t) (ht : t.ok = true) : s.ok = true := by
  cases ho : s.ok with
  | true => rfl
  | false => rw [h.off ho] at ht; cases ht
theorem manyD_len {α : Type} {oD : DS → α × DS} (hO : OffOp oD) (hL : ∀ s, (oD s).2.ok = true → (oD s).2.l.length < s.l.length) : ∀ (n : Nat) (s : DS), (manyD oD n s).2.ok = true → (manyD oD n s).1.length + (manyD oD n s).2.l.length ≤ s.l.length
  | 0, s => fun _ => by unfold manyD; simp
  | n + 1, s => fun h => by
    by_cases ho : s.ok = true
    · rw [manyD, if_pos ho] at h ⊢
      have h1 := manyD_len hO hL n (oD s).2 h
      have h2 := hL s (less_on (less_manyD hO n (oD s).2) h)
      simp only [List.length_cons]
      omega
    · rw [manyD, if_neg ho] at h ⊢
      simp
theorem fieldD_len (c : Int) (q : Mg × DS) : LenD q (fieldD c q) := by
  unfold fieldD
  repeat' split
  · exact fun _ => Nat.add_le_add_left (less_balD q.2).len _
  · exact fun _ => Nat.add_le_add_left (less_numD q.2).len _
  · exact fun _ => Nat.add_le_add_left (less_numD q.2).len _
  · exact fun _ => Nat.add_le_add_left (less_numD q.2).len _
  · exact fun _ => Nat.add_le_add_left (less_textD q.2).len _
  · intro h
    have h1 := manyD_len off_text (fun s hs => text_on hs) _ _ h
    have h2 := (less_numD q.2).len
    simp only [List.length_append]
    omega
  · intro h
    have h1 := manyD_len off_vote (fun s hs => vote_on hs) _ _ h
    have h2 := (less_numD q.2).len
    simp only [List.length_append]
    omega
  · exact fun _ => Nat.le_refl _
theorem takesD_len : ∀ (l : List Int) (q : Mg × DS), LenD q (takesD l q)
  | [], q => fun _ => Nat.le_refl _
  | c :: l, q => fun h => by
    have h1 := takesD_len l (fieldD c q) h
    have h2 := fieldD_len c q (less_on (less_takesD l (fieldD c q)) h)
    exact Nat.le_trans h1 h2
end Go.Proofs.YtfkfboigkpofkaaDoor.M
end
