/- Parts of a proof, pruned and joined by flat.py out of: MXc, MXd, MXb, MY, MZ. -/
import Derived.Test.YtfkfboigkpofkaaDoorCPuts13
import Derived.Test.YtfkfboigkpofkaaDoorRows
import Derived.ProofKit
import Derived.LaidMore
import Derived.OpenShut
import Derived.Stop.Joined
import Derived.Deep.Slices
import Derived.Lib.LaidTab
section
namespace Go.Proofs.YtfkfboigkpofkaaDoor.M
open Go.RowKit Go.Proofs.YtfkfboigkpofkaaDoorW.PrintWords Go.Proofs.YtfkfboigkpofkaaDoorW.PrintLast Go.Proofs.YtfkfboigkpofkaaDoorW.PrintMore Go.Proofs.YtfkfboigkpofkaaDoor.PMsgPuts
set_option linter.unusedVariables false
set_option linter.unusedSimpArgs false
theorem lists_l0v (V : List S52) (hV : V.length < 9223372036854775807) : ∀ (d i k : Nat) (a : Int), i + d = V.length → d + 1 ≤ k → msg_lists.l0 k a V (V.length : Int) (i : Int) = some (votesB a (V.drop i))
  | 0, i, k, a, hi, hk => by
    obtain ⟨k', rfl⟩ : ∃ k', k = k' + 1 := ⟨k - 1, by omega⟩
    rw [msg_lists.l0, if_neg (by omega), List.drop_of_length_le (by omega)]
    rfl
  | d + 1, i, k, a, hi, hk => by
    obtain ⟨k', rfl⟩ : ∃ k', k = k' + 1 := ⟨k - 1, by omega⟩
    have hil : i < V.length := by omega
    have hw : wrap64 ((i : Int) + 1) = ((i + 1 : Nat) : Int) := by unfold wrap64; omega
    have hp : ∀ x y : Int, msg_place.f x y = some (placeB y) := by
      intro x y
      unfold msg_place.f placeB
      by_cases h : y ≥ 0
      · rw [if_pos h]
        congr 1
        simp [h]
      · rw [if_neg h]
        congr 1
        simp
        omega
    rw [msg_lists.l0, if_pos (by omega), if_pos (by omega), if_pos (by omega), rdT_at _ _ hil, hp, hw, List.drop_eq_getElem_cons hil]
    show _ = some (decide (a < V[i].f0) && placeB V[i].f1.f1 && votesB V[i].f0 (V.drop (i + 1)))
    by_cases h1 : V[i].f0 ≤ a
    · rw [if_pos h1, decide_eq_false (by omega)]
      rfl
    · rw [if_neg h1, decide_eq_true (by omega), Option.bind_some]
      by_cases h2 : placeB V[i].f1.f1 = true
      · rw [if_pos h2, h2, lists_l0v V hV d (i + 1) k' V[i].f0 (by omega) (by omega)]
        rfl
      · rw [if_neg h2, Bool.eq_false_iff.mpr h2]
        rfl
def overB (first : Int) (nb : Nat) : Bool := nb == 0 || !decide (IntKind.u64.wrap (IntKind.u64.wrap (first + IntKind.u64.wrap (nb : Int)) - 1) < first)
theorem lists_law (m : Mg) (hf : Fits m.V.length) (hfB : m.B.length < 9223372036854775807) : listsB m = (decide (m.B.length ≤ 16) && decide (m.V.length ≤ 256) && (!(m.k == 7) || !(m.B.length == 0)) && overB m.first m.B.length && votesB m.commit m.V) := by
  have h0 := lists_l0v m.V (by unfold Fits at hf; omega) m.V.length 0 (m.V.length + 1) m.commit (by omega) (by omega)
  rw [List.drop_zero] at h0
  have h1 : ∀ b, msg_lists.j1 (m.V.length + 2) b m.k m.n m.r m.first m.last m.commit m.V m.B m.S = some (!b && votesB m.commit m.V) := by
    intro b
    cases b
    · rw [msg_lists.j1, if_neg (by decide)]
      exact h0
    · rw [msg_lists.j1, if_pos rfl]
      rfl
  have hw : IntKind.u64.wrap (m.B.length : Int) = m.B.length := by rw [IntKind.wrap_u64]; omega
  have h2 : ∀ b, msg_lists.j0 (m.V.length + 3) b m.k m.n m.r m.first m.last m.commit m.V m.B m.S = some (!b && (overB m.first m.B.length && votesB m.commit m.V)) := by
    intro b
    cases b
    · rw [msg_lists.j0, if_neg (by decide), hw]
      unfold overB
      by_cases hn : m.B.length = 0
      · rw [if_neg (by omega), h1, hn]
        rfl
      · rw [if_pos (by omega), h1, beq_eq_false_iff_ne.mpr hn, hw]
        rfl
    · rw [msg_lists.j0, if_pos rfl]
      rfl
  have hl := lists_eq m hf
  apply Option.some.inj
  rw [← hl]
  unfold msg_lists.f
  by_cases c1 : m.B.length ≤ 16
  · rw [if_neg (by omega), decide_eq_true c1]
    by_cases c2 : m.V.length ≤ 256
    · rw [if_neg (by omega), decide_eq_true c2]
      by_cases c3 : m.k = 7
      · rw [if_pos c3, h2, c3]
        have e : ((m.B.length : Int) == 0) = (m.B.length == 0) := by
          by_cases hn : m.B.length = 0
          · rw [hn]; rfl
          · rw [beq_eq_false_iff_ne.mpr hn, beq_eq_false_iff_ne.mpr (by omega)]
        rw [e]
        generalize (m.B.length == 0) = b
        cases b <;> simp
      · rw [if_neg c3, h2, beq_eq_false_iff_ne.mpr c3]
        simp
    · rw [if_pos (by omega), h2, decide_eq_false c2]
      simp
  · rw [if_pos (by omega), h2, decide_eq_false c1]
    simp
theorem has_same : ∀ k : Nat, k < 9 → hasB k 98 = hasI k 98 ∧ hasB k 99 = hasI k 99 ∧ hasB k 102 = hasI k 102 ∧ hasB k 108 = hasI k 108 ∧ hasB k 112 = hasI k 112 ∧ hasB k 115 = hasI k 115 ∧ hasB k 118 = hasI k 118 := by
  intro k hk
  match k, hk with
  | 0, _ | 1, _ | 2, _ | 3, _ | 4, _ | 5, _ | 6, _ | 7, _ | 8, _ => decide
theorem over_eq (first : Int) (nb : Nat) (hu : U first) (h : nb ≤ 16) : overB first nb = (decide (nb ≤ 1) || decide (first ≤ topU - ((nb : Int) - 1))) := by
  have h1 := hu.1
  have h2 := hu.2
  unfold overB topU
  simp only [IntKind.wrap_u64]
  by_cases e0 : nb = 0
  · subst e0; rfl
  · rw [beq_eq_false_iff_ne.mpr e0]
    by_cases e1 : nb ≤ 1
    · rw [decide_eq_true e1, decide_eq_false (by omega)]
      rfl
    · rw [decide_eq_false e1]
      by_cases e2 : first ≤ 18446744073709551615 - ((nb : Int) - 1)
      · rw [decide_eq_true e2, decide_eq_false (by omega)]
        rfl
      · rw [decide_eq_false e2, decide_eq_true (by omega)]
        rfl
theorem may_eq (m : Mg) (k : Nat) (hk : m.k = k) (hok : m.Ok) (hfB : m.B.length < 9223372036854775807) : mayM m k = checkM m k := by
  unfold mayM checkM mayB checkB
  by_cases hkn : knownB k = true
  · have h1 : 1 ≤ k ∧ k ≤ 8 := by
      have := of_decide_eq_true hkn
      omega
    obtain ⟨e1, e2, e3, e4, e5, e6, e7⟩ := has_same k (by omega)
    rw [lists_law m hok.fV hfB, e1, e2, e3, e4, e5, e6, e7]
    by_cases hnb : m.B.length ≤ 16
    · rw [over_eq m.first m.B.length hok.first hnb]
      have e8 : (m.k == 7) = (k == 7) := by
        rw [hk]
        by_cases h : k = 7
        · subst h; rfl
        · rw [beq_eq_false_iff_ne.mpr h, beq_eq_false_iff_ne.mpr (by omega)]
      have e9 : (hasI k 102 == !(m.first == 0)) = ((hasI k 102 || m.first == 0) && (!hasI k 102 || !(m.first == 0))) := by
        generalize hasI k 102 = a
        generalize (m.first == 0) = b
        cases a <;> cases b <;> rfl
      rw [e8, e9]
      simp only [Bool.and_assoc, Bool.and_comm, Bool.and_left_comm]
    · rw [decide_eq_false hnb]
      simp only [Bool.and_false, Bool.false_and]
  · rw [Bool.eq_false_iff.mpr hkn]
    simp only [Bool.and_false, Bool.false_and]
end Go.Proofs.YtfkfboigkpofkaaDoor.M
end
section
namespace Go.Proofs.YtfkfboigkpofkaaDoor.M
open Go.RowKit Go.Proofs.YtfkfboigkpofkaaDoorW.PrintWords Go.Proofs.YtfkfboigkpofkaaDoorW.PrintLast Go.Proofs.YtfkfboigkpofkaaDoorW.PrintMore Go.Proofs.YtfkfboigkpofkaaDoor.PMsgPuts
set_option linter.unusedVariables false
set_option linter.unusedSimpArgs false
theorem great_l1 (m : Mg) (hB : m.B.length ≤ 30) : ∀ (d i k : Nat), i + d = m.B.length → d + 1 ≤ k → ∃ r, quoratelaw17_Great.l1 k (i : Int) m.k m.n m.r m.first m.last m.commit m.V m.B m.S = some r ∧ (r = false → ∀ x ∈ m.B.drop i, x.length ≤ 300)
  | 0, i, k, hi, hk => by
    obtain ⟨k', rfl⟩ : ∃ k', k = k' + 1 := ⟨k - 1, by omega⟩
    rw [quoratelaw17_Great.l1, if_neg (by omega), List.drop_of_length_le (by omega)]
    exact ⟨false, rfl, fun _ x hx => by cases hx⟩
  | d + 1, i, k, hi, hk => by
    obtain ⟨k', rfl⟩ : ∃ k', k = k' + 1 := ⟨k - 1, by omega⟩
    have hil : i < m.B.length := by omega
    have hw : wrap64 ((i : Int) + 1) = ((i + 1 : Nat) : Int) := by unfold wrap64; omega
    rw [quoratelaw17_Great.l1, if_pos (by omega), if_pos (by omega), rdL_at _ _ hil, hw, List.drop_eq_getElem_cons hil]
    by_cases h : ((m.B[i].length : Int) > 300)
    · rw [if_pos h]
      exact ⟨true, rfl, fun e => by cases e⟩
    · rw [if_neg h]
      obtain ⟨r, h1, h2⟩ := great_l1 m hB d (i + 1) k' (by omega) (by omega)
      refine ⟨r, h1, fun e x hx => ?_⟩
      rcases List.mem_cons.1 hx with rfl | hx
      · omega
      · exact h2 e x hx
theorem great_l0 (m : Mg) (hV : m.V.length ≤ 300) (hB : m.B.length ≤ 30) : ∀ (d i k : Nat), i + d = m.V.length → d + m.B.length + 3 ≤ k → ∃ r, quoratelaw17_Great.l0 k (i : Int) m.k m.n m.r m.first m.last m.commit m.V m.B m.S = some r ∧ (r = false → (∀ x ∈ m.V.drop i, x.f2.length ≤ 300) ∧ ∀ x ∈ m.B, x.length ≤ 300)
  | 0, i, k, hi, hk => by
    obtain ⟨k', rfl⟩ : ∃ k', k = k' + 1 := ⟨k - 1, by omega⟩
    obtain ⟨r, h1, h2⟩ := great_l1 m hB m.B.length 0 k' (by omega) (by omega)
    rw [quoratelaw17_Great.l0, if_neg (by omega), List.drop_of_length_le (by omega)]
    exact ⟨r, h1, fun e => ⟨(fun x hx => (by cases hx)), h2 e⟩⟩
  | d + 1, i, k, hi, hk => by
    obtain ⟨k', rfl⟩ : ∃ k', k = k' + 1 := ⟨k - 1, by omega⟩
    have hil : i < m.V.length := by omega
    have hw : wrap64 ((i : Int) + 1) = ((i + 1 : Nat) : Int) := by unfold wrap64; omega
    rw [quoratelaw17_Great.l0, if_pos (by omega), if_pos (by omega), rdT_at _ _ hil, hw, List.drop_eq_getElem_cons hil]
    by_cases h : ((m.V[i].f2.length : Int) > 300)
    · rw [if_pos h]
      exact ⟨true, rfl, fun e => by cases e⟩
    · rw [if_neg h]
      obtain ⟨r, h1, h2⟩ := great_l0 m hV hB d (i + 1) k' (by omega) (by omega)
      refine ⟨r, h1, fun e => ⟨fun x hx => ?_, (h2 e).2⟩⟩
      rcases List.mem_cons.1 hx with rfl | hx
      · omega
      · exact (h2 e).1 x hx
structure Small3 (m : Mg) : Prop where
  nV : m.V.length ≤ 300
  nB : m.B.length ≤ 30
  nS : m.S.length ≤ 300
  V : ∀ x ∈ m.V, x.f2.length ≤ 300
  B : ∀ x ∈ m.B, x.length ≤ 300
theorem Small3.small {m : Mg} (h : Small3 m) : Small m :=
  ⟨Nat.le_trans h.nV (by decide), Nat.le_trans h.nB (by decide), Nat.le_trans h.nS (by decide), fun x hx => Nat.le_trans (h.V x hx) (by decide), fun x hx => Nat.le_trans (h.B x hx) (by decide)⟩
theorem great_law (m : Mg) : ∃ r, quoratelaw17_Great.f 400 m.k m.n m.r m.first m.last m.commit m.V m.B m.S = some r ∧ (r = false → Small3 m) := by
  have ht : ∀ b, b = true → quoratelaw17_Great.j0 400 b m.k m.n m.r m.first m.last m.commit m.V m.B m.S = some true := by
    rintro b rfl
    rw [quoratelaw17_Great.j0, if_pos rfl]
  unfold quoratelaw17_Great.f
  by_cases c1 : (m.V.length : Int) > 300
  · rw [if_pos c1, ht _ rfl]
    exact ⟨true, rfl, fun e => by cases e⟩
  rw [if_neg c1]
  by_cases c2 : (m.B.length : Int) > 30
  · rw [if_pos c2, ht _ rfl]
    exact ⟨true, rfl, fun e => by cases e⟩
  rw [if_neg c2]
  by_cases c3 : (m.S.length : Int) > 300
  · rw [ht _ (decide_eq_true c3)]
    exact ⟨true, rfl, fun e => by cases e⟩
  rw [decide_eq_false c3, quoratelaw17_Great.j0, if_neg (by decide)]
  obtain ⟨r, h1, h2⟩ := great_l0 m (by omega) (by omega) m.V.length 0 399 (by omega) (by omega)
  exact ⟨r, h1, fun e => ⟨by omega, by omega, by omega, (h2 e).1, (h2 e).2⟩⟩
theorem own_l1 (m : Mg) (hs : Small3 m) (k0 n r first last commit : Int) (V : List S52) (S : List Int) : ∀ (d i k : Nat), i + d = m.B.length → d + 1 ≤ k → quoratelaw17_own.l1 k (i : Int) m.k m.n m.r m.first m.last m.commit m.V m.B m.S k0 n r first last commit V (m.B.take i) S = some (k0, n, r, first, last, commit, V, m.B, S)
  | 0, i, k, hi, hk => by
    obtain ⟨k', rfl⟩ : ∃ k', k = k' + 1 := ⟨k - 1, by omega⟩
    rw [quoratelaw17_own.l1, if_neg (by omega), List.take_of_length_le (by omega)]
  | d + 1, i, k, hi, hk => by
    obtain ⟨k', rfl⟩ : ∃ k', k = k' + 1 := ⟨k - 1, by omega⟩
    have hil : i < m.B.length := by omega
    have hnB := hs.nB
    have hx := hs.B _ (List.getElem_mem hil)
    have hw : wrap64 ((i : Int) + 1) = ((i + 1 : Nat) : Int) := by unfold wrap64; omega
    rw [quoratelaw17_own.l1, if_pos (by omega), Option.bind_some, if_pos (by omega), rdL_at _ _ hil, if_pos (by show 0 + _ < _; omega), if_pos (by rw [List.length_take]; omega), hw, List.nil_append, ← List.take_succ_eq_append_getElem hil]
    exact own_l1 m hs k0 n r first last commit V S d (i + 1) k' (by omega) (by omega)
theorem own_l0 (m : Mg) (hs : Small3 m) (k0 n r first last commit : Int) (S : List Int) : ∀ (d i k : Nat), i + d = m.V.length → d + m.B.length + 3 ≤ k → quoratelaw17_own.l0 k (i : Int) m.k m.n m.r m.first m.last m.commit m.V m.B m.S k0 n r first last commit (m.V.take i) S = some (k0, n, r, first, last, commit, m.V, m.B, S)
  | 0, i, k, hi, hk => by
    obtain ⟨k', rfl⟩ : ∃ k', k = k' + 1 := ⟨k - 1, by omega⟩
    rw [quoratelaw17_own.l0, if_neg (by omega), List.take_of_length_le (by omega)]
    exact own_l1 m hs k0 n r first last commit m.V S m.B.length 0 k' (by omega) (by omega)
  | d + 1, i, k, hi, hk => by
    obtain ⟨k', rfl⟩ : ∃ k', k = k' + 1 := ⟨k - 1, by omega⟩
    have hil : i < m.V.length := by omega
    have hnV := hs.nV
    have hx := hs.V _ (List.getElem_mem hil)
    have hw : wrap64 ((i : Int) + 1) = ((i + 1 : Nat) : Int) := by unfold wrap64; omega
    rw [quoratelaw17_own.l0, if_pos (by omega), if_pos (by omega), rdT_at _ _ hil, Option.bind_some, if_pos (by show 0 + _ < _; omega), if_pos (by rw [List.length_take]; omega), hw, List.nil_append]
    have e : m.V.take i ++ [(⟨m.V[i].f0, ⟨m.V[i].f1.f0, m.V[i].f1.f1⟩, m.V[i].f2⟩ : S52)] = m.V.take (i + 1) := (List.take_succ_eq_append_getElem hil).symm
    rw [e]
    exact own_l0 m hs k0 n r first last commit S d (i + 1) k' (by omega) (by omega)
theorem own_law (m : Mg) (hs : Small3 m) : quoratelaw17_own.f 400 m.k m.n m.r m.first m.last m.commit m.V m.B m.S = some (m.k, m.n, m.r, m.first, m.last, m.commit, m.V, m.B, m.S) := by
  have h1 := hs.nS
  have h2 := hs.nV
  have h3 := hs.nB
  unfold quoratelaw17_own.f
  rw [Option.bind_some, if_pos (by show 0 + _ < _; omega), List.nil_append]
  exact own_l0 m hs m.k m.n m.r m.first m.last m.commit m.S m.V.length 0 400 (by omega) (by omega)
def greatB (m : Mg) : Bool := (quoratelaw17_Great.f 400 m.k m.n m.r m.first m.last m.commit m.V m.B m.S).getD false
theorem great_eq (m : Mg) : quoratelaw17_Great.f 400 m.k m.n m.r m.first m.last m.commit m.V m.B m.S = some (greatB m) := by
  obtain ⟨r, h, _⟩ := great_law m
  unfold greatB
  rw [h]
  rfl
theorem great_no {m : Mg} (h : greatB m = false) : Small3 m := by
  obtain ⟨r, h1, h2⟩ := great_law m
  unfold greatB at h
  rw [h1] at h
  exact h2 h
end Go.Proofs.YtfkfboigkpofkaaDoor.M
end
section
namespace Go.Proofs.YtfkfboigkpofkaaDoor.M
open Go.RowKit Go.Proofs.YtfkfboigkpofkaaDoorW.PrintWords Go.Proofs.YtfkfboigkpofkaaDoorW.PrintLast Go.Proofs.YtfkfboigkpofkaaDoorW.PrintMore Go.Proofs.YtfkfboigkpofkaaDoor.PMsgPuts
set_option linter.unusedVariables false
set_option linter.unusedSimpArgs false
def bitN (c : Nat) : Nat := if c % 2 = 1 then (c / 2) ^^^ 2197175160 else c / 2
theorem div2_xor (a b : Nat) : (a ^^^ b) / 2 = a / 2 ^^^ b / 2 := by
  have h := Nat.shiftRight_xor_distrib (a := a) (b := b) (i := 1)
  simpa [Nat.shiftRight_eq_div_pow] using h
theorem div16_xor (a b : Nat) : (a ^^^ b) / 16 = a / 16 ^^^ b / 16 := by
  have h := Nat.shiftRight_xor_distrib (a := a) (b := b) (i := 4)
  simpa [Nat.shiftRight_eq_div_pow] using h
theorem par_xor (a b : Nat) : (decide ((a ^^^ b) % 2 = 1)) = (decide (a % 2 = 1) ^^ decide (b % 2 = 1)) := by
  have h := Nat.testBit_xor a b 0
  simpa [Nat.testBit_zero] using h
theorem bitN_eq (c : Nat) : bitN c = (c / 2) ^^^ (if decide (c % 2 = 1) then 2197175160 else 0) := by
  unfold bitN
  by_cases h : c % 2 = 1
  · rw [if_pos h, if_pos (decide_eq_true h)]
  · rw [if_neg h, if_neg (by simpa using h), Nat.xor_zero]
theorem bitN_xor (a b : Nat) : bitN (a ^^^ b) = bitN a ^^^ bitN b := by
  rw [bitN_eq, bitN_eq a, bitN_eq b, par_xor, div2_xor]
  apply Nat.eq_of_testBit_eq
  intro i
  generalize decide (a % 2 = 1) = x
  generalize decide (b % 2 = 1) = y
  cases x <;> cases y <;> simp [Nat.testBit_xor] <;> (cases (a / 2).testBit i <;> cases (b / 2).testBit i <;> cases Nat.testBit 2197175160 i <;> rfl)
def nib4 (c : Nat) : Nat := bitN (bitN (bitN (bitN c)))
theorem nib4_xor (a b : Nat) : nib4 (a ^^^ b) = nib4 a ^^^ nib4 b := by
  unfold nib4
  rw [bitN_xor, bitN_xor, bitN_xor, bitN_xor]
theorem bitN_two (m : Nat) : bitN (2 * m) = m := by
  unfold bitN
  rw [if_neg (by omega)]
  omega
theorem nib4_16 (q : Nat) : nib4 (16 * q) = q := by
  unfold nib4
  rw [show 16 * q = 2 * (2 * (2 * (2 * q))) by omega, bitN_two, bitN_two, bitN_two, bitN_two]
theorem nib4_tab : ∀ r : Nat, r < 16 → nib4 r = stpN r := by
  intro r h
  match r, h with
  | 0, _ | 1, _ | 2, _ | 3, _ | 4, _ | 5, _ | 6, _ | 7, _ | 8, _ | 9, _ | 10, _ | 11, _ | 12, _ | 13, _ | 14, _ | 15, _ => decide
  | n + 16, h => exact absurd h (by omega)
theorem split16 (c : Nat) : c = (16 * (c / 16)) ^^^ (c % 16) := by
  apply Nat.eq_of_testBit_eq
  intro i
  have h : c = 2 ^ 4 * (c / 16) + c % 16 := by omega
  have h1 : c.testBit i = (2 ^ 4 * (c / 16) + c % 16).testBit i := congrArg (fun x => x.testBit i) h
  rw [h1, Nat.testBit_two_pow_mul_add _ (show c % 16 < 2 ^ 4 by omega), Nat.testBit_xor, show 16 * (c / 16) = 2 ^ 4 * (c / 16) from rfl, Nat.testBit_two_pow_mul]
  by_cases hi : i < 4
  · simp [hi, show ¬ 4 ≤ i by omega]
  · have hz : (c % 16).testBit i = false := Nat.testBit_lt_two_pow (Nat.lt_of_lt_of_le (show c % 16 < 2 ^ 4 by omega) (Nat.pow_le_pow_right (by decide) (by omega)))
    simp [hi, hz, show 4 ≤ i by omega]
theorem nib4_eq (c : Nat) : nib4 c = c / 16 ^^^ stpN (c % 16) := by
  have h := congrArg nib4 (split16 c)
  rw [h, nib4_xor, nib4_16, nib4_tab _ (by omega)]
theorem mod16_xor (c b : Nat) : (c ^^^ b) % 16 = (c ^^^ (b % 16)) % 16 := by
  have e : ∀ x : Nat, x % 16 = x % 2 ^ 4 := fun x => rfl
  rw [e, e (c ^^^ (b % 16))]
  apply Nat.eq_of_testBit_eq
  intro i
  rw [Nat.testBit_mod_two_pow, Nat.testBit_mod_two_pow, Nat.testBit_xor, Nat.testBit_xor, e b, Nat.testBit_mod_two_pow]
  by_cases hi : i < 4 <;> simp [hi]
def bit8 (c : Nat) : Nat := nib4 (nib4 c)
theorem bit8_eq (c b : Nat) (hb : b < 256) : bit8 (c ^^^ b) = byteN c b := by
  have h1 : nib4 (c ^^^ b) = nibN c (b % 16) ^^^ (b / 16) := by
    rw [nib4_eq, div16_xor, mod16_xor]
    unfold nibN
    rw [Nat.xor_assoc, Nat.xor_assoc, Nat.xor_comm (b / 16)]
  unfold bit8 byteN
  rw [h1, nib4_eq, div16_xor, show b / 16 / 16 = 0 by omega, Nat.xor_zero]
  rfl
theorem bitN_lt {c : Nat} (h : c < 4294967296) : bitN c < 4294967296 := by
  unfold bitN
  split
  · exact Nat.xor_lt_two_pow (n := 32) (by omega) (by decide)
  · omega
def bits_ : Nat → Nat → Nat
  | 0, c => c
  | d + 1, c => bits_ d (bitN c)
theorem sum_l1 (l : List Int) (x4 : Int) (c : Nat) : ∀ (d : Nat) (x : Nat), d ≤ 8 → x < 4294967296 → quorateref02_Sum.l1 (c + d + 1) l (x : Int) x4 (((8 - d : Nat)) : Int) = quorateref02_Sum.l0 c l ((bits_ d x : Nat) : Int) (wrap64 (x4 + 1))
  | 0, x, _, _ => by
    rw [quorateref02_Sum.l1, if_neg (by omega)]
    rfl
  | d + 1, x, hd, hx => by
    have hand : Go.bits .and .u32 (x : Int) 1 = ((x % 2 : Nat) : Int) := by
      rw [show (1 : Int) = ((1 : Nat) : Int) from rfl, u32_and_nat x 1 (by omega) (by omega)]
      congr 1
      exact Nat.and_two_pow_sub_one_eq_mod _ 1
    have hw : wrap64 ((((8 - (d + 1) : Nat)) : Int) + 1) = (((8 - d : Nat)) : Int) := by unfold wrap64; omega
    have ih := sum_l1 l x4 c d (bitN x) (by omega) (bitN_lt hx)
    rw [show c + (d + 1) + 1 = (c + d + 1) + 1 from rfl, quorateref02_Sum.l1, if_pos (by omega), hand, hw, show bits_ (d + 1) x = bits_ d (bitN x) from rfl, ← ih]
    by_cases h : x % 2 = 1
    · rw [if_pos (by omega), show (x : Int) / 2 = ((x / 2 : Nat) : Int) by omega, show (2197175160 : Int) = ((2197175160 : Nat) : Int) from rfl, u32_xor_nat _ _ (by omega) (by decide)]
      unfold bitN
      rw [if_pos h]
    · rw [if_neg (by omega), show (x : Int) / 2 = ((x / 2 : Nat) : Int) by omega]
      unfold bitN
      rw [if_neg h]
theorem bits8 (x : Nat) : bits_ 8 x = bit8 x := rfl
theorem sum_l0 (l : List Int) (hb : Bys l) (hf : l.length < 9223372036854775807) : ∀ (d c i x : Nat), i + d = l.length → x < 4294967296 → quorateref02_Sum.l0 (c + 10 * d + 1) l (x : Int) (i : Int) = some ((4294967295 - crcN x (l.drop i) : Nat) : Int)
  | 0, c, i, x, hi, hx => by
    rw [quorateref02_Sum.l0, if_neg (by omega), List.drop_of_length_le (by omega)]
    have h := not_u32 hx
    have e : (if IntKind.u32.signed = true then -1 else IntKind.u32.max) = (4294967295 : Int) := rfl
    rw [e] at h
    have h2 : Go.bits .xor .u32 (x : Int) 4294967295 = Go.bits .xor .u32 4294967295 (x : Int) := by
      rw [show (4294967295 : Int) = ((4294967295 : Nat) : Int) from rfl, u32_xor_nat _ _ hx (by decide), u32_xor_nat _ _ (by decide) hx, Nat.xor_comm]
    rw [h2, h]
    rfl
  | d + 1, c, i, x, hi, hx => by
    have hil : i < l.length := by omega
    have hg := hb.get i hil
    obtain ⟨b, hbb⟩ := Int.eq_ofNat_of_zero_le hg.1
    have hb256 : b < 256 := by have := hg.2; omega
    have hrd : rd l (i : Int) = (b : Int) := by
      show l.getD (i : Int).toNat 0 = _
      rw [Int.toNat_natCast]
      exact hbb
    have hxor : Go.bits .xor .u32 (x : Int) ((b : Int) % 4294967296) = ((x ^^^ b : Nat) : Int) := by
      rw [show (b : Int) % 4294967296 = (b : Int) by omega, u32_xor_nat _ _ hx (by omega)]
    have hlt : x ^^^ b < 4294967296 := Nat.xor_lt_two_pow (n := 32) (by omega) (by omega)
    have hw : wrap64 ((i : Int) + 1) = ((i + 1 : Nat) : Int) := by unfold wrap64; omega
    have h1 := sum_l1 l (i : Int) (c + 10 * d + 1) 8 (x ^^^ b) (by omega) hlt
    rw [show (((8 - 8 : Nat)) : Int) = 0 from rfl, bits8, bit8_eq x b hb256, hw] at h1
    have h2 := sum_l0 l hb hf d c (i + 1) (byteN x b) (by omega) (byteN_lt hx)
    rw [show c + 10 * (d + 1) + 1 = (c + 10 * d + 1 + 8 + 1) + 1 by omega, quorateref02_Sum.l0, if_pos (by omega), if_pos (by omega), hrd, hxor, h1, h2]
    congr 3
    rw [List.drop_eq_getElem_cons hil]
    unfold crcN
    rw [List.foldl_cons]
    have e3 : l[i] = (b : Int) := by
      have := hbb
      rw [List.getD_eq_getElem?_getD, List.getElem?_eq_getElem hil] at this
      exact this
    rw [e3]
    rfl
theorem sum_law (l : List Int) (hb : Bys l) (hf : Fits l.length) {k : Nat} (hk : 10 * l.length + 1 ≤ k) : quorateref02_Sum.f k l = some (crcS l) := by
  unfold quorateref02_Sum.f
  have h := sum_l0 l hb (by unfold Fits at hf; omega) l.length (k - (10 * l.length + 1)) 0 4294967295 (by omega) (by decide)
  rw [show k - (10 * l.length + 1) + 10 * l.length + 1 = k by omega] at h
  exact h
theorem crcS_range (l : List Int) : 0 ≤ crcS l ∧ crcS l < 4294967296 := by
  unfold crcS
  omega
theorem summed_law (l : List Int) (hb : Bys l) (hf : Fits (l.length + 4)) {k : Nat} (hk : 10 * l.length + 1 ≤ k) : quorateref17_Summed.f k l = some (sumB l ++ l) := by
  unfold quorateref17_Summed.f
  rw [sum_law l hb (by unfold Fits at *; omega) hk]
  have h := crcS_range l
  have e0 : Int.tmod (crcS l) 256 % 256 = crcS l % 256 := by rw [Int.tmod_eq_emod_of_nonneg h.1]; omega
  have e1 : Int.tdiv (crcS l) 256 % 4294967296 % 256 = crcS l / 256 % 256 := by rw [Int.tdiv_eq_ediv_of_nonneg h.1]; omega
  have e2 : Int.tdiv (crcS l) 65536 % 4294967296 % 256 = crcS l / 65536 % 256 := by rw [Int.tdiv_eq_ediv_of_nonneg h.1]; omega
  have e3 : Int.tdiv (crcS l) 16777216 % 4294967296 % 256 = crcS l / 16777216 % 256 := by rw [Int.tdiv_eq_ediv_of_nonneg h.1]; omega
  show (if _ then some _ else none) = _
  rw [e0, e1, e2, e3, if_pos (by show 4 + l.length < _; unfold Fits at hf; omega)]
  rfl
end Go.Proofs.YtfkfboigkpofkaaDoor.M
end
section
namespace Go.Proofs.YtfkfboigkpofkaaDoor.M
open Go.RowKit Go.Proofs.YtfkfboigkpofkaaDoorW.PrintWords Go.Proofs.YtfkfboigkpofkaaDoorW.PrintLast Go.Proofs.YtfkfboigkpofkaaDoorW.PrintMore Go.Proofs.YtfkfboigkpofkaaDoor.PMsgPuts
set_option linter.unusedVariables false
set_option linter.unusedSimpArgs false
structure Lies (m : Mg) (W : World) (A6 A7 A8 : Option Addr) (c6 c7 c8 : Nat) : Prop where
  at_ : m.At W A6 A7 A8
  h6 : m.V.length ≤ c6
  h7 : m.B.length ≤ c7
  h8 : m.S.length ≤ c8
theorem Lies.below {m : Mg} {W W' : World} {A6 A7 A8 : Option Addr} {c6 c7 c8 : Nat} (h : Lies m W A6 A7 A8 c6 c7 c8) (hb : Below W.heap.size W W') : Lies m W' A6 A7 A8 c6 c7 c8 := ⟨h.at_.below hb, h.h6, h.h7, h.h8⟩
theorem great_at (m : Mg) (A6 A7 A8 : Option Addr) (c6 c7 c8 : Nat) (W : World) (h : Lies m W A6 A7 A8 c6 c7 c8) : Calls Tryd.prog 7 #[.agg (m.cells A6 A7 A8 c6 c7 c8)] W fun e w' => e = .returned (.bool (greatB m)) ∧ Below W.heap.size W w' :=
  quoratelaw17_Great.calls 400 m.k m.n m.r m.first m.last m.commit A6 c6 m.V A7 c7 m.B A8 c8 m.S (greatB m) W h.at_.V h.h6 h.at_.B h.h7 h.at_.S h.h8 (great_eq m)
theorem own_at (m : Mg) (hs : Small3 m) (A6 A7 A8 : Option Addr) (c6 c7 c8 : Nat) (W : World) (h : Lies m W A6 A7 A8 c6 c7 c8) : Calls Tryd.prog 9 #[.agg (m.cells A6 A7 A8 c6 c7 c8)] W fun e w' => ∃ E6 E7 E8 d6 d7 d8, e = .returned (.agg (m.cells E6 E7 E8 d6 d7 d8)) ∧ Lies m w' E6 E7 E8 d6 d7 d8 ∧ Below W.heap.size W w' := by
  refine (quoratelaw17_own.calls 400 m.k m.n m.r m.first m.last m.commit A6 c6 m.V A7 c7 m.B A8 c8 m.S m.k m.n m.r m.first m.last m.commit m.V m.B m.S W h.at_.V h.h6 h.at_.B h.h7 h.at_.S h.h8 (own_law m hs)).mono ?_
  rintro e w' ⟨v6, v7, v8, rfl, h6, h7, h8, hb⟩
  obtain ⟨E6, d6, rfl, l6, r6⟩ := Kd.R_reads (Kd.S_R h6)
  obtain ⟨E7, d7, rfl, l7, r7⟩ := Kd.R_reads (Kd.S_R h7)
  obtain ⟨E8, d8, rfl, l8, r8⟩ := Kd.R_reads h8
  exact ⟨E6, E7, E8, d6, d7, d8, rfl, ⟨⟨r6, r7, r8⟩, l6, l7, l8⟩, hb⟩
structure Whole (m : Mg) (k : Nat) : Prop where
  ok : m.Ok
  hk : m.k = k
  k8 : k < 256
theorem check_at (m : Mg) (k : Nat) (hw : Whole m k) (A6 A7 A8 : Option Addr) (c6 c7 c8 : Nat) (W : World) (T : Tabs W) (h : Lies m W A6 A7 A8 c6 c7 c8) : Calls Tryd.prog 10 #[.agg (m.cells A6 A7 A8 c6 c7 c8)] W fun e w' => e = .returned (.int .i64 (errI (checkM m k))) ∧ Below W.heap.size W w' :=
  check_m m k hw.hk hw.k8 hw.ok.fV A6 A7 A8 c6 c7 c8 W T h.at_ h.h6 h.h7 h.h8 W (Below.refl _ _)
theorem checks_at (m : Mg) (k : Nat) (hw : Whole m k) (A6 A7 A8 : Option Addr) (c6 c7 c8 : Nat) (W : World) (T : Tabs W) (h : Lies m W A6 A7 A8 c6 c7 c8) : Checks W #[.agg (m.cells A6 A7 A8 c6 c7 c8)] (checkM m k) :=
  check_m m k hw.hk hw.k8 hw.ok.fV A6 A7 A8 c6 c7 c8 W T h.at_ h.h6 h.h7 h.h8
theorem put_at_no (m : Mg) (k : Nat) (hw : Whole m k) (hc : checkM m k = false) (A6 A7 A8 : Option Addr) (c6 c7 c8 : Nat) (W : World) (T : Tabs W) (h : Lies m W A6 A7 A8 c6 c7 c8) : Calls Tryd.prog 11 #[.agg (m.cells A6 A7 A8 c6 c7 c8)] W fun e w' => e = .returned (.tuple #[.slice none 0 0, .int .i64 1]) ∧ Below W.heap.size W w' := by
  have hC := checks_at m k hw A6 A7 A8 c6 c7 c8 W T h
  rw [hc] at hC
  exact put_no m k hw.hk A6 A7 A8 c6 c7 c8 W hC
theorem known_of_check {m : Mg} {k : Nat} (hc : checkM m k = true) : 1 ≤ k ∧ k < 9 := by
  have h : knownB k = true := by
    unfold checkM checkB at hc
    simp only [Bool.and_eq_true] at hc
    exact hc.1.1.1.1.1.1.1.1.1.1
  have := of_decide_eq_true h
  omega
theorem body_len (m : Mg) (hs : Small m) (hok : m.Ok) (k : Nat) (hk : k < 9) : (bodyB m k).length < 200000000 := by
  unfold bodyB layB
  have h1 := flat_len (layF m) 30000000 (fldI k) (fun c _ => lay_len m hs hok c)
  have hl4 : (fldI k).length ≤ 4 := by unfold fldI; rw [List.length_map]; unfold fld; split <;> decide
  have h2 := Nat.mul_le_mul_right 30000000 hl4
  have h3 := uvI_len (a := (k : Int)) (by unfold U; omega)
  rw [List.length_append]
  omega
theorem putB_len (m : Mg) (hs : Small m) (hok : m.Ok) (k : Nat) (hk : k < 9) : (putB m k).length < 200000010 := by
  have := body_len m hs hok k hk
  unfold putB
  rw [List.length_append]
  show 4 + _ < _
  omega
theorem put_at (m : Mg) (k : Nat) (hw : Whole m k) (hs : Small m) (hc : checkM m k = true) (A6 A7 A8 : Option Addr) (c6 c7 c8 : Nat) (W : World) (T : Tabs W) (h : Lies m W A6 A7 A8 c6 c7 c8) : Calls Tryd.prog 11 #[.agg (m.cells A6 A7 A8 c6 c7 c8)] W fun e w' => ∃ A c, e = .returned (.tuple #[.slice A (putB m k).length c, .int .i64 0]) ∧ Kd.C (Kd.int .u8) w' A (putB m k).length (putB m k) ∧ Below W.heap.size W w' := by
  have hC := checks_at m k hw A6 A7 A8 c6 c7 c8 W T h
  rw [hc] at hC
  have hk := known_of_check hc
  refine (put_yes m hw.ok k hw.hk hk.2 A6 A7 A8 c6 c7 c8 W T h.at_ hC (by have := putB_len m hs hw.ok k hk.2; unfold Fits; omega)).mono ?_
  rintro e w' ⟨v, rfl, hR, hb⟩
  obtain ⟨A, c, rfl, _, hr⟩ := Kd.R_reads hR
  exact ⟨A, c, rfl, hr, hb⟩
theorem of_at (m : Mg) (k : Nat) (hw : Whole m k) (A6 A7 A8 : Option Addr) (c6 c7 c8 : Nat) (W : World) : Calls Tryd.prog 13 #[.agg (m.cells A6 A7 A8 c6 c7 c8)] W fun e w' => e = .returned (.agg (m.ofs A6 A7 A8 c6 c7 c8)) ∧ Below W.heap.size W w' :=
  of_calls m (by rw [hw.hk]; omega) (by rw [hw.hk]; have := hw.k8; omega) A6 A7 A8 c6 c7 c8 W
theorem same_at (m : Mg) (hs : Small m) (A6 A7 A8 : Option Addr) (c6 c7 c8 : Nat) (E6 E7 E8 : Option Addr) (d6 d7 d8 : Nat) (W : World) (h : Lies m W A6 A7 A8 c6 c7 c8) (h' : Lies m W E6 E7 E8 d6 d7 d8) : Calls Tryd.prog 12 #[.agg (m.ofs A6 A7 A8 c6 c7 c8), .agg (m.ofs E6 E7 E8 d6 d7 d8)] W fun e w' => e = .returned (.bool true) ∧ Below W.heap.size W w' :=
  same_calls m (by have := hs.nB; omega) (by have := hs.nV; omega) A6 A7 A8 c6 c7 c8 E6 E7 E8 d6 d7 d8 W h.at_ h'.at_
theorem may_at (m : Mg) (k : Nat) (hw : Whole m k) (hs : Small m) (A6 A7 A8 : Option Addr) (c6 c7 c8 : Nat) (W : World) (h : Lies m W A6 A7 A8 c6 c7 c8) : Calls Tryd.prog 14 #[.agg (m.ofs A6 A7 A8 c6 c7 c8)] W fun e w' => e = .returned (.bool (checkM m k)) ∧ Below W.heap.size W w' := by
  have h1 := may_calls m k hw.hk (by have := hs.nV; omega) (by have := hs.nB; omega) A6 A7 A8 c6 c7 c8 W h.at_.V
  rw [may_eq m k hw.hk hw.ok (by have := hs.nB; omega)] at h1
  exact h1
theorem inside_at (m : Mg) (k : Nat) (hw : Whole m k) (hs : Small m) (hc : checkM m k = true) (A6 A7 A8 : Option Addr) (c6 c7 c8 : Nat) (W : World) (h : Lies m W A6 A7 A8 c6 c7 c8) : Calls Tryd.prog 16 #[.agg (m.ofs A6 A7 A8 c6 c7 c8)] W fun e w' => ∃ A c, e = .returned (.slice A (bodyB m k).length c) ∧ (bodyB m k).length ≤ c ∧ Kd.C (Kd.int .u8) w' A (bodyB m k).length (bodyB m k) ∧ Below W.heap.size W w' := by
  have hk := known_of_check hc
  refine (quorateref17_Inside.calls (4 * (m.V.length + m.B.length + 2) + 40) m.k m.n m.r m.first m.last m.commit A6 c6 m.V A7 c7 m.B A8 c8 m.S (bodyB m k) W h.at_.V h.h6 h.at_.B h.h7 h.at_.S h.h8 (inside_law m hs hw.ok k hw.hk hk.2 hk.1 _ (Nat.le_refl _))).mono ?_
  rintro e w' ⟨v, rfl, hR, hb⟩
  obtain ⟨A, c, rfl, hl, hr⟩ := Kd.R_reads hR
  exact ⟨A, c, rfl, hl, hr, hb⟩
theorem summed_at (m : Mg) (k : Nat) (hw : Whole m k) (hs : Small m) (hk : k < 9) (A : Option Addr) (c : Nat) (W : World) (hl : (bodyB m k).length ≤ c) (hr : Kd.C (Kd.int .u8) W A (bodyB m k).length (bodyB m k)) : Calls Tryd.prog 15 #[.slice A (bodyB m k).length c] W fun e w' => ∃ A' c', e = .returned (.slice A' (putB m k).length c') ∧ Kd.C (Kd.int .u8) w' A' (putB m k).length (putB m k) ∧ Below W.heap.size W w' := by
  refine (quorateref17_Summed.calls (10 * (bodyB m k).length + 1) A c (bodyB m k) (putB m k) W hr hl (summed_law _ (bys_body m k) (by have := body_len m hs hw.ok k hk; unfold Fits; omega) (Nat.le_refl _))).mono ?_
  rintro e w' ⟨v, rfl, hR, hb⟩
  obtain ⟨A', c', rfl, _, hr'⟩ := Kd.R_reads hR
  exact ⟨A', c', rfl, hr', hb⟩
theorem wakes_at (w W : World) (T : Tabs w) (hb : Below w.heap.size w W) : Calls Tryd.prog 8 #[] W fun e w' => e = .returned (.bool true) ∧ Below W.heap.size W w' := wakes_calls W (T.below hb)
set_option maxHeartbeats 1000000 in
set_option maxRecDepth 100000 in
theorem puts_great (m : Mg) (A6 A7 A8 : Option Addr) (c6 c7 c8 : Nat) (w : World) (T : Tabs w) (h : Lies m w A6 A7 A8 c6 c7 c8) (hg : greatB m = true) :
    Calls Tryd.prog 3 #[.agg (m.cells A6 A7 A8 c6 c7 c8)] w fun e w' => e = .returned (.bool true) ∧ Below w.heap.size w w' := by
  have hT := Aside0.mk T
  have hL := Aside0.mk h
  have hX := Aside0.mk (heap_alloc_new w (.cells #[.int .u8 m.k, .int .u64 m.n, .int .i64 m.r, .int .u64 m.first, .int .u64 m.last, .int .u64 m.commit, .slice A6 m.V.length c6, .slice A7 m.B.length c7, .slice A8 m.S.length c8] 29))
  have hB := Aside0.mk (bel1 w (.cells #[.int .u8 m.k, .int .u64 m.n, .int .i64 m.r, .int .u64 m.first, .int .u64 m.last, .int .u64 m.commit, .slice A6 m.V.length c6, .slice A7 m.B.length c7, .slice A8 m.S.length c8] 29))
  clear T h
  have hG := Aside0.mk hg
  clear hg
  unfold Mg.cells
  go_enter Tryd.func3, Tryd.ntmps3
  repeat (first
    | ((with_reducible refine gate_callee (f := 7) rfl ?_); (with_reducible refine gate_dst (N := 8) rfl ?_); refine goesL_ (some 8) rfl rfl Tryd.func7 (by kernel_rfl) rfl #[.agg #[.int .u8 m.k, .int .u64 m.n, .int .i64 m.r, .int .u64 m.first, .int .u64 m.last, .int .u64 m.commit, .slice A6 m.V.length c6, .slice A7 m.B.length c7, .slice A8 m.S.length c8]] rfl (by (try simp only [List.map_toArray, List.map_cons, List.map_nil]); first | done | rfl) ?_; refine (great_at m A6 A7 A8 c6 c7 c8 _ (hL.out.below hB.out)).mono ?_; rintro e w1 ⟨rfl, HB1⟩; refine ⟨_, rfl, ?_⟩; rw [hG.out]; have hB1 := Aside0.mk (below_step hB.out HB1); have hX1 := Aside0.mk (blk_below hX.out HB1); clear HB1; (try dsimp only))
    | ((with_reducible refine gate_callee (f := 8) rfl ?_); (with_reducible refine gate_dst (N := 9) rfl ?_); refine goesL_ (some 9) rfl rfl Tryd.func8 (by kernel_rfl) rfl #[] rfl (by (try simp only [List.map_toArray, List.map_cons, List.map_nil]); first | done | rfl) ?_; refine (wakes_at w _ hT.out hB1.out).mono ?_; rintro e w2 ⟨rfl, HB2⟩; refine ⟨_, rfl, ?_⟩; have hB2 := Aside0.mk (below_step hB1.out HB2); clear HB2; (try dsimp only))
    | go_step)
  go_ret
  exact ⟨rfl, hB2.out⟩
set_option maxHeartbeats 1000000 in
set_option maxRecDepth 100000 in
theorem puts_no (m : Mg) (k : Nat) (hw : Whole m k) (A6 A7 A8 : Option Addr) (c6 c7 c8 : Nat) (w : World) (T : Tabs w) (h : Lies m w A6 A7 A8 c6 c7 c8) (hg : greatB m = false) (hc : checkM m k = false) :
    Calls Tryd.prog 3 #[.agg (m.cells A6 A7 A8 c6 c7 c8)] w fun e w' => e = .returned (.bool true) ∧ Below w.heap.size w w' := by
  have hT := Aside0.mk T
  have hL := Aside0.mk h
  have hW := Aside0.mk hw
  have hX := Aside0.mk (heap_alloc_new w (.cells #[.int .u8 m.k, .int .u64 m.n, .int .i64 m.r, .int .u64 m.first, .int .u64 m.last, .int .u64 m.commit, .slice A6 m.V.length c6, .slice A7 m.B.length c7, .slice A8 m.S.length c8] 29))
  have hB := Aside0.mk (bel1 w (.cells #[.int .u8 m.k, .int .u64 m.n, .int .i64 m.r, .int .u64 m.first, .int .u64 m.last, .int .u64 m.commit, .slice A6 m.V.length c6, .slice A7 m.B.length c7, .slice A8 m.S.length c8] 29))
  clear T h hw
  have hG := Aside0.mk hg
  have hS := Aside0.mk (great_no hg)
  have hC : Aside0 (errI (checkM m k) = 1) := ⟨by rw [hc]; rfl⟩
  have hc1 := Aside0.mk hc
  clear hg hc
  unfold Mg.cells
  go_enter Tryd.func3, Tryd.ntmps3
  repeat (first
    | ((with_reducible refine gate_callee (f := 7) rfl ?_); (with_reducible refine gate_dst (N := 8) rfl ?_); refine goesL_ (some 8) rfl rfl Tryd.func7 (by kernel_rfl) rfl #[.agg #[.int .u8 m.k, .int .u64 m.n, .int .i64 m.r, .int .u64 m.first, .int .u64 m.last, .int .u64 m.commit, .slice A6 m.V.length c6, .slice A7 m.B.length c7, .slice A8 m.S.length c8]] rfl (by (try simp only [List.map_toArray, List.map_cons, List.map_nil]); first | done | rfl) ?_; refine (great_at m A6 A7 A8 c6 c7 c8 _ (hL.out.below hB.out)).mono ?_; rintro e w1 ⟨rfl, HB1⟩; refine ⟨_, rfl, ?_⟩; rw [hG.out]; have hB1 := Aside0.mk (below_step hB.out HB1); have hX1 := Aside0.mk (blk_below hX.out HB1); clear HB1; have hq0 := (blk_cell (hX1.out) 0).trans rfl; have hq1 := (blk_cell (hX1.out) 1).trans rfl; have hq2 := (blk_cell (hX1.out) 2).trans rfl; have hq3 := (blk_cell (hX1.out) 3).trans rfl; have hq4 := (blk_cell (hX1.out) 4).trans rfl; have hq5 := (blk_cell (hX1.out) 5).trans rfl; have hq6 := (blk_cell (hX1.out) 6).trans rfl; have hq7 := (blk_cell (hX1.out) 7).trans rfl; have hq8 := (blk_cell (hX1.out) 8).trans rfl; (try dsimp only))
    | ((with_reducible refine gate_callee (f := 9) rfl ?_); (with_reducible refine gate_dst (N := 11) rfl ?_); refine goesL_ (some 11) rfl rfl Tryd.func9 (by kernel_rfl) rfl #[.agg #[.int .u8 m.k, .int .u64 m.n, .int .i64 m.r, .int .u64 m.first, .int .u64 m.last, .int .u64 m.commit, .slice A6 m.V.length c6, .slice A7 m.B.length c7, .slice A8 m.S.length c8]] rfl (by (try simp only [List.map_toArray, List.map_cons, List.map_nil]); first | done | rfl) ?_; refine (own_at m hS.out A6 A7 A8 c6 c7 c8 _ (hL.out.below hB1.out)).mono ?_; rintro e w2 ⟨E6, E7, E8, d6, d7, d8, rfl, hE2, HB2⟩; refine ⟨_, rfl, ?_⟩; have hB2 := Aside0.mk (below_alloc (below_step hB1.out HB2) (.cells #[.int .u8 m.k, .int .u64 m.n, .int .i64 m.r, .int .u64 m.first, .int .u64 m.last, .int .u64 m.commit, .slice E6 m.V.length d6, .slice E7 m.B.length d7, .slice E8 m.S.length d8] 29)); have hX2 := Aside0.mk (blk_alloc (blk_below hX1.out HB2) (.cells #[.int .u8 m.k, .int .u64 m.n, .int .i64 m.r, .int .u64 m.first, .int .u64 m.last, .int .u64 m.commit, .slice E6 m.V.length d6, .slice E7 m.B.length d7, .slice E8 m.S.length d8] 29)); have hE := Aside0.mk (hE2.below (bel1 w2 (.cells #[.int .u8 m.k, .int .u64 m.n, .int .i64 m.r, .int .u64 m.first, .int .u64 m.last, .int .u64 m.commit, .slice E6 m.V.length d6, .slice E7 m.B.length d7, .slice E8 m.S.length d8] 29))); have hY2 := Aside0.mk (heap_alloc_new w2 (.cells #[.int .u8 m.k, .int .u64 m.n, .int .i64 m.r, .int .u64 m.first, .int .u64 m.last, .int .u64 m.commit, .slice E6 m.V.length d6, .slice E7 m.B.length d7, .slice E8 m.S.length d8] 29)); have hne : w.heap.size ≠ w2.heap.size := Nat.ne_of_lt (Nat.lt_of_lt_of_le (blk_lt hX1.out) HB2.size); clear HB2 hE2; have hz0 := (blk_cell (hY2.out) 0).trans rfl; have hz1 := (blk_cell (hY2.out) 1).trans rfl; have hz2 := (blk_cell (hY2.out) 2).trans rfl; have hz3 := (blk_cell (hY2.out) 3).trans rfl; have hz4 := (blk_cell (hY2.out) 4).trans rfl; have hz5 := (blk_cell (hY2.out) 5).trans rfl; have hz6 := (blk_cell (hY2.out) 6).trans rfl; have hz7 := (blk_cell (hY2.out) 7).trans rfl; have hz8 := (blk_cell (hY2.out) 8).trans rfl; (try dsimp only))
    | ((with_reducible refine gate_callee (f := 10) rfl ?_); (with_reducible refine gate_dst (N := 13) rfl ?_); refine goesL_ (some 13) rfl rfl Tryd.func10 (by kernel_rfl) rfl #[.agg #[.int .u8 m.k, .int .u64 m.n, .int .i64 m.r, .int .u64 m.first, .int .u64 m.last, .int .u64 m.commit, .slice E6 m.V.length d6, .slice E7 m.B.length d7, .slice E8 m.S.length d8]] rfl (by (try simp only [List.map_toArray, List.map_cons, List.map_nil]); first | done | rfl) ?_; refine (check_at m k hW.out E6 E7 E8 d6 d7 d8 _ (hT.out.below hB2.out) hE.out).mono ?_; rintro e w3 ⟨rfl, HB3⟩; refine ⟨_, rfl, ?_⟩; rw [hC.out]; have hB3 := Aside0.mk (below_step hB2.out HB3); have hX3 := Aside0.mk (blk_below hX2.out HB3); have hY3 := Aside0.mk (blk_below hY2.out HB3); have hE3 := Aside0.mk (hE.out.below HB3); clear HB3; have hy0 := (blk_cell (hY3.out) 0).trans rfl; have hy1 := (blk_cell (hY3.out) 1).trans rfl; have hy2 := (blk_cell (hY3.out) 2).trans rfl; have hy3 := (blk_cell (hY3.out) 3).trans rfl; have hy4 := (blk_cell (hY3.out) 4).trans rfl; have hy5 := (blk_cell (hY3.out) 5).trans rfl; have hy6 := (blk_cell (hY3.out) 6).trans rfl; have hy7 := (blk_cell (hY3.out) 7).trans rfl; have hy8 := (blk_cell (hY3.out) 8).trans rfl; (try dsimp only))
    | ((with_reducible refine gate_callee (f := 11) rfl ?_); (with_reducible refine gate_dst (N := 16) rfl ?_); refine goesL_ (some 16) rfl rfl Tryd.func11 (by kernel_rfl) rfl #[.agg #[.int .u8 m.k, .int .u64 m.n, .int .i64 m.r, .int .u64 m.first, .int .u64 m.last, .int .u64 m.commit, .slice E6 m.V.length d6, .slice E7 m.B.length d7, .slice E8 m.S.length d8]] rfl (by (try simp only [List.map_toArray, List.map_cons, List.map_nil]); first | done | rfl) ?_; refine (put_at_no m k hW.out hc1.out E6 E7 E8 d6 d7 d8 _ (hT.out.below hB3.out) hE3.out).mono ?_; rintro e w4 ⟨rfl, HB4⟩; refine ⟨_, rfl, ?_⟩; have hB4 := Aside0.mk (below_step hB3.out HB4); have hX4 := Aside0.mk (blk_below hX3.out HB4); have hY4 := Aside0.mk (blk_below hY3.out HB4); have hE4 := Aside0.mk (hE3.out.below HB4); clear HB4; (try dsimp only))
    | go_step)
  refine start_ (n := 11) (S := fun W => Below w4.heap.size w4 W) (ds := []) #[false, false, false, false, false, false, false, false, false, false, false] (by kernel_rfl) rfl rfl (below_drew1 (Below.refl _ _)) (fun hHeld => ?_)
  refine take_ (i := 0) (N := some 19) (v := ?_) (a' := ?_) #[true, false, false, false, false, false, false, false, false, false, false] rfl rfl (by kernel_rfl) (fun _ _ _ h => h) (Or.inl ⟨by rfl, ?_⟩) hHeld ?_ ?_
  rotate_left
  · rintro w' hS
    have hx0 := (blk_cell (blk_below hY4.out hS) 0).trans rfl
    have hx1 := (blk_cell (blk_below hY4.out hS) 1).trans rfl
    have hx2 := (blk_cell (blk_below hY4.out hS) 2).trans rfl
    have hx3 := (blk_cell (blk_below hY4.out hS) 3).trans rfl
    have hx4 := (blk_cell (blk_below hY4.out hS) 4).trans rfl
    have hx5 := (blk_cell (blk_below hY4.out hS) 5).trans rfl
    have hx6 := (blk_cell (blk_below hY4.out hS) 6).trans rfl
    have hx7 := (blk_cell (blk_below hY4.out hS) 7).trans rfl
    have hx8 := (blk_cell (blk_below hY4.out hS) 8).trans rfl
    go_simp
    with_reducible rfl
  rotate_left
  · simp only [Act.put, List.setIfInBounds_toArray, List.set_cons_zero, List.set_cons_succ, i64_w, i32_w]
    rfl
  refine take_ (i := 2) (N := some 21) (v := ?_) (a' := ?_) #[true, false, true, false, false, false, false, false, false, false, false] rfl rfl (by kernel_rfl) (fun _ _ _ h => h) (Or.inl ⟨by rfl, ?_⟩) hHeld ?_ ?_
  rotate_left
  · rintro w' hS
    have hx0 := (blk_cell (blk_below hX4.out hS) 0).trans rfl
    have hx1 := (blk_cell (blk_below hX4.out hS) 1).trans rfl
    have hx2 := (blk_cell (blk_below hX4.out hS) 2).trans rfl
    have hx3 := (blk_cell (blk_below hX4.out hS) 3).trans rfl
    have hx4 := (blk_cell (blk_below hX4.out hS) 4).trans rfl
    have hx5 := (blk_cell (blk_below hX4.out hS) 5).trans rfl
    have hx6 := (blk_cell (blk_below hX4.out hS) 6).trans rfl
    have hx7 := (blk_cell (blk_below hX4.out hS) 7).trans rfl
    have hx8 := (blk_cell (blk_below hX4.out hS) 8).trans rfl
    go_simp
    with_reducible rfl
  rotate_left
  · simp only [Act.put, List.setIfInBounds_toArray, List.set_cons_zero, List.set_cons_succ, i64_w, i32_w]
    rfl
  refine one_ (i := 1) (N := some 20) #[true, true, true, false, false, false, false, false, false, false, false] rfl rfl (by kernel_rfl) (by decide) (fun K hK => ?_)
  refine goes_ Tryd.func13 (by kernel_rfl) rfl #[.agg #[.int .u8 m.k, .int .u64 m.n, .int .i64 m.r, .int .u64 m.first, .int .u64 m.last, .int .u64 m.commit, .slice E6 m.V.length d6, .slice E7 m.B.length d7, .slice E8 m.S.length d8]] (by rfl) rfl rfl (by (try simp only [List.map_toArray, List.map_cons, List.map_nil]); first | done | rfl) ?_
  refine (of_at m k hW.out E6 E7 E8 d6 d7 d8 _).mono ?_
  rintro e w5 ⟨rfl, HB5⟩
  refine ⟨_, rfl, ?_⟩
  have hB5 := Aside0.mk (below_step hHeld HB5)
  clear hHeld HB5
  refine hK.out _ _ hB5.out (fun hHeld => ?_)
  clear hK K
  refine norm_ (a' := ?_) ?_ ?_
  rotate_left
  · show Act.put _ (some 20) _ = _
    simp only [Act.put, List.setIfInBounds_toArray, List.set_cons_zero, List.set_cons_succ, i64_w, i32_w]
    rfl
  refine one_ (i := 3) (N := some 22) #[true, true, true, true, false, false, false, false, false, false, false] rfl rfl (by kernel_rfl) (by decide) (fun K hK => ?_)
  refine goes_ Tryd.func13 (by kernel_rfl) rfl #[.agg #[.int .u8 m.k, .int .u64 m.n, .int .i64 m.r, .int .u64 m.first, .int .u64 m.last, .int .u64 m.commit, .slice A6 m.V.length c6, .slice A7 m.B.length c7, .slice A8 m.S.length c8]] (by rfl) rfl rfl (by (try simp only [List.map_toArray, List.map_cons, List.map_nil]); first | done | rfl) ?_
  refine (of_at m k hW.out A6 A7 A8 c6 c7 c8 _).mono ?_
  rintro e w6 ⟨rfl, HB6⟩
  refine ⟨_, rfl, ?_⟩
  have hB6 := Aside0.mk (below_step hB5.out HB6)
  clear hHeld HB6
  refine hK.out _ _ hB6.out (fun hHeld => ?_)
  clear hK K
  refine norm_ (a' := ?_) ?_ ?_
  rotate_left
  · show Act.put _ (some 22) _ = _
    simp only [Act.put, List.setIfInBounds_toArray, List.set_cons_zero, List.set_cons_succ, i64_w, i32_w]
    rfl
  refine one_ (i := 4) (N := some 23) #[true, true, true, true, true, false, false, false, false, false, false] rfl rfl (by kernel_rfl) (by decide) (fun K hK => ?_)
  refine goes_ Tryd.func12 (by kernel_rfl) rfl #[.agg #[.int .i64 m.k, .int .u64 m.n, .int .i64 m.r, .int .u64 m.first, .int .u64 m.last, .int .u64 m.commit, .slice E6 m.V.length d6, .slice E7 m.B.length d7, .slice E8 m.S.length d8], .agg #[.int .i64 m.k, .int .u64 m.n, .int .i64 m.r, .int .u64 m.first, .int .u64 m.last, .int .u64 m.commit, .slice A6 m.V.length c6, .slice A7 m.B.length c7, .slice A8 m.S.length c8]] (by rfl) rfl rfl (by (try simp only [List.map_toArray, List.map_cons, List.map_nil]); first | done | rfl) ?_
  refine (same_at m hS.out.small E6 E7 E8 d6 d7 d8 A6 A7 A8 c6 c7 c8 _ (hE4.out.below hB6.out) ((hL.out.below hB4.out).below hB6.out)).mono ?_
  rintro e w7 ⟨rfl, HB7⟩
  refine ⟨_, rfl, ?_⟩
  have hB7 := Aside0.mk (below_step hB6.out HB7)
  clear hHeld HB7
  refine hK.out _ _ hB7.out (fun hHeld => ?_)
  clear hK K
  refine norm_ (a' := ?_) ?_ ?_
  rotate_left
  · show Act.put _ (some 23) _ = _
    simp only [Act.put, List.setIfInBounds_toArray, List.set_cons_zero, List.set_cons_succ, i64_w, i32_w]
    rfl
  refine pure_ (i := 5) (N := some 24) (v := ?_) (a' := ?_) #[true, true, true, true, true, true, false, false, false, false, false] rfl rfl (by kernel_rfl) (fun _ _ _ h => h) (Or.inl ⟨by rfl, ?_⟩) ?_ ?_
  rotate_left
  · intro w'
    go_simp
    with_reducible rfl
  rotate_left
  · simp only [Act.put, List.setIfInBounds_toArray, List.set_cons_zero, List.set_cons_succ, i64_w, i32_w]
    rfl
  refine pure_ (i := 6) (N := some 25) (v := ?_) (a' := ?_) #[true, true, true, true, true, true, true, false, false, false, false] rfl rfl (by kernel_rfl) (fun _ _ _ h => h) (Or.inl ⟨by rfl, ?_⟩) ?_ ?_
  rotate_left
  · intro w'
    go_simp
    with_reducible rfl
  rotate_left
  · simp only [Act.put, List.setIfInBounds_toArray, List.set_cons_zero, List.set_cons_succ, i64_w, i32_w]
    rfl
  refine pure_ (i := 7) (N := some 26) (v := ?_) (a' := ?_) #[true, true, true, true, true, true, true, true, false, false, false] rfl rfl (by kernel_rfl) (fun _ _ _ h => h) (Or.inl ⟨by rfl, ?_⟩) ?_ ?_
  rotate_left
  · intro w'
    go_simp
    with_reducible rfl
  rotate_left
  · simp only [Act.put, List.setIfInBounds_toArray, List.set_cons_zero, List.set_cons_succ, i64_w, i32_w]
    rfl
  refine pure_ (i := 8) (N := some 27) (v := ?_) (a' := ?_) #[true, true, true, true, true, true, true, true, true, false, false] rfl rfl (by kernel_rfl) (fun _ _ _ h => h) (Or.inl ⟨by rfl, ?_⟩) ?_ ?_
  rotate_left
  · intro w'
    go_simp
    with_reducible rfl
  rotate_left
  · simp only [Act.put, List.setIfInBounds_toArray, List.set_cons_zero, List.set_cons_succ, i64_w, i32_w]
    rfl
  refine pure_ (i := 9) (N := some 28) (v := ?_) (a' := ?_) #[true, true, true, true, true, true, true, true, true, true, false] rfl rfl (by kernel_rfl) (fun _ _ _ h => h) (Or.inl ⟨by rfl, ?_⟩) ?_ ?_
  rotate_left
  · intro w'
    go_simp
    with_reducible rfl
  rotate_left
  · simp only [Act.put, List.setIfInBounds_toArray, List.set_cons_zero, List.set_cons_succ, i64_w, i32_w]
    rfl
  refine pure_ (i := 10) (N := some 29) (v := ?_) (a' := ?_) #[true, true, true, true, true, true, true, true, true, true, true] rfl rfl (by kernel_rfl) (fun _ _ _ h => h) (Or.inl ⟨by rfl, ?_⟩) ?_ ?_
  rotate_left
  · intro w'
    go_simp
    with_reducible rfl
  rotate_left
  · simp only [Act.put, List.setIfInBounds_toArray, List.set_cons_zero, List.set_cons_succ, i64_w, i32_w]
    rfl
  refine done_ (by kernel_rfl) ?_
  have hB7' := Aside0.mk (below_step hB4.out hB7.out)
  have hX7 := Aside0.mk (blk_below hX4.out hB7.out)
  have hu0 := (blk_cell hX7.out 0).trans rfl
  have hu1 := (blk_cell hX7.out 1).trans rfl
  have hu2 := (blk_cell hX7.out 2).trans rfl
  have hu3 := (blk_cell hX7.out 3).trans rfl
  have hu4 := (blk_cell hX7.out 4).trans rfl
  have hu5 := (blk_cell hX7.out 5).trans rfl
  have hu6 := (blk_cell hX7.out 6).trans rfl
  have hu7 := (blk_cell hX7.out 7).trans rfl
  have hu8 := (blk_cell hX7.out 8).trans rfl
  repeat (first
    | ((with_reducible refine gate_callee (f := 13) rfl ?_); (with_reducible refine gate_dst (N := 31) rfl ?_); refine goesL_ (some 31) rfl rfl Tryd.func13 (by kernel_rfl) rfl #[.agg #[.int .u8 m.k, .int .u64 m.n, .int .i64 m.r, .int .u64 m.first, .int .u64 m.last, .int .u64 m.commit, .slice A6 m.V.length c6, .slice A7 m.B.length c7, .slice A8 m.S.length c8]] rfl (by (try simp only [List.map_toArray, List.map_cons, List.map_nil]); first | done | rfl) ?_; refine (of_at m k hW.out A6 A7 A8 c6 c7 c8 _).mono ?_; rintro e w8 ⟨rfl, HB8⟩; refine ⟨_, rfl, ?_⟩; have hB8 := Aside0.mk (below_step hB7'.out HB8); have hX8 := Aside0.mk (blk_below hX7.out HB8); clear HB8; (try dsimp only))
    | ((with_reducible refine gate_callee (f := 14) rfl ?_); (with_reducible refine gate_dst (N := 32) rfl ?_); refine goesL_ (some 32) rfl rfl Tryd.func14 (by kernel_rfl) rfl #[.agg #[.int .i64 m.k, .int .u64 m.n, .int .i64 m.r, .int .u64 m.first, .int .u64 m.last, .int .u64 m.commit, .slice A6 m.V.length c6, .slice A7 m.B.length c7, .slice A8 m.S.length c8]] rfl (by (try simp only [List.map_toArray, List.map_cons, List.map_nil]); first | done | rfl) ?_; refine (may_at m k hW.out hS.out.small A6 A7 A8 c6 c7 c8 _ (hL.out.below hB8.out)).mono ?_; rintro e w9 ⟨rfl, HB9⟩; refine ⟨_, rfl, ?_⟩; rw [hc1.out]; have hB9 := Aside0.mk (below_step hB8.out HB9); have hX9 := Aside0.mk (blk_below hX8.out HB9); clear HB9; (try dsimp only))
    | ((with_reducible refine gate_callee (f := 8) rfl ?_); (with_reducible refine gate_dst (N := 42) rfl ?_); refine goesL_ (some 42) rfl rfl Tryd.func8 (by kernel_rfl) rfl #[] rfl (by (try simp only [List.map_toArray, List.map_cons, List.map_nil]); first | done | rfl) ?_; refine (wakes_at w _ hT.out hB9.out).mono ?_; rintro e w10 ⟨rfl, HB10⟩; refine ⟨_, rfl, ?_⟩; have hB10 := Aside0.mk (below_step hB9.out HB10); clear HB10; (try dsimp only))
    | ((with_reducible refine Calls.mono (wakes_at w _ hT.out hB9.out) ?_); rintro e w10 ⟨rfl, HB10⟩; have hB10 := Aside0.mk (below_step hB9.out HB10); clear HB10; (try dsimp only))
    | go_step)
  go_ret
  exact ⟨rfl, hB10.out⟩
set_option maxHeartbeats 1000000 in
set_option maxRecDepth 100000 in
theorem puts_yes (m : Mg) (k : Nat) (hw : Whole m k) (A6 A7 A8 : Option Addr) (c6 c7 c8 : Nat) (w : World) (T : Tabs w) (h : Lies m w A6 A7 A8 c6 c7 c8) (hg : greatB m = false) (hc : checkM m k = true) :
    Calls Tryd.prog 3 #[.agg (m.cells A6 A7 A8 c6 c7 c8)] w fun e w' => e = .returned (.bool true) ∧ Below w.heap.size w w' := by
  have hT := Aside0.mk T
  have hL := Aside0.mk h
  have hW := Aside0.mk hw
  have hX := Aside0.mk (heap_alloc_new w (.cells #[.int .u8 m.k, .int .u64 m.n, .int .i64 m.r, .int .u64 m.first, .int .u64 m.last, .int .u64 m.commit, .slice A6 m.V.length c6, .slice A7 m.B.length c7, .slice A8 m.S.length c8] 29))
  have hB := Aside0.mk (bel1 w (.cells #[.int .u8 m.k, .int .u64 m.n, .int .i64 m.r, .int .u64 m.first, .int .u64 m.last, .int .u64 m.commit, .slice A6 m.V.length c6, .slice A7 m.B.length c7, .slice A8 m.S.length c8] 29))
  clear T h hw
  have hG := Aside0.mk hg
  have hS := Aside0.mk (great_no hg)
  have hC : Aside0 (errI (checkM m k) = 0) := ⟨by rw [hc]; rfl⟩
  have hc1 := Aside0.mk hc
  clear hg hc
  unfold Mg.cells
  go_enter Tryd.func3, Tryd.ntmps3
  repeat (first
    | ((with_reducible refine gate_callee (f := 7) rfl ?_); (with_reducible refine gate_dst (N := 8) rfl ?_); refine goesL_ (some 8) rfl rfl Tryd.func7 (by kernel_rfl) rfl #[.agg #[.int .u8 m.k, .int .u64 m.n, .int .i64 m.r, .int .u64 m.first, .int .u64 m.last, .int .u64 m.commit, .slice A6 m.V.length c6, .slice A7 m.B.length c7, .slice A8 m.S.length c8]] rfl (by (try simp only [List.map_toArray, List.map_cons, List.map_nil]); first | done | rfl) ?_; refine (great_at m A6 A7 A8 c6 c7 c8 _ (hL.out.below hB.out)).mono ?_; rintro e w1 ⟨rfl, HB1⟩; refine ⟨_, rfl, ?_⟩; rw [hG.out]; have hB1 := Aside0.mk (below_step hB.out HB1); have hX1 := Aside0.mk (blk_below hX.out HB1); clear HB1; have hq0 := (blk_cell (hX1.out) 0).trans rfl; have hq1 := (blk_cell (hX1.out) 1).trans rfl; have hq2 := (blk_cell (hX1.out) 2).trans rfl; have hq3 := (blk_cell (hX1.out) 3).trans rfl; have hq4 := (blk_cell (hX1.out) 4).trans rfl; have hq5 := (blk_cell (hX1.out) 5).trans rfl; have hq6 := (blk_cell (hX1.out) 6).trans rfl; have hq7 := (blk_cell (hX1.out) 7).trans rfl; have hq8 := (blk_cell (hX1.out) 8).trans rfl; (try dsimp only))
    | ((with_reducible refine gate_callee (f := 9) rfl ?_); (with_reducible refine gate_dst (N := 11) rfl ?_); refine goesL_ (some 11) rfl rfl Tryd.func9 (by kernel_rfl) rfl #[.agg #[.int .u8 m.k, .int .u64 m.n, .int .i64 m.r, .int .u64 m.first, .int .u64 m.last, .int .u64 m.commit, .slice A6 m.V.length c6, .slice A7 m.B.length c7, .slice A8 m.S.length c8]] rfl (by (try simp only [List.map_toArray, List.map_cons, List.map_nil]); first | done | rfl) ?_; refine (own_at m hS.out A6 A7 A8 c6 c7 c8 _ (hL.out.below hB1.out)).mono ?_; rintro e w2 ⟨E6, E7, E8, d6, d7, d8, rfl, hE2, HB2⟩; refine ⟨_, rfl, ?_⟩; have hB2 := Aside0.mk (below_alloc (below_step hB1.out HB2) (.cells #[.int .u8 m.k, .int .u64 m.n, .int .i64 m.r, .int .u64 m.first, .int .u64 m.last, .int .u64 m.commit, .slice E6 m.V.length d6, .slice E7 m.B.length d7, .slice E8 m.S.length d8] 29)); have hX2 := Aside0.mk (blk_alloc (blk_below hX1.out HB2) (.cells #[.int .u8 m.k, .int .u64 m.n, .int .i64 m.r, .int .u64 m.first, .int .u64 m.last, .int .u64 m.commit, .slice E6 m.V.length d6, .slice E7 m.B.length d7, .slice E8 m.S.length d8] 29)); have hE := Aside0.mk (hE2.below (bel1 w2 (.cells #[.int .u8 m.k, .int .u64 m.n, .int .i64 m.r, .int .u64 m.first, .int .u64 m.last, .int .u64 m.commit, .slice E6 m.V.length d6, .slice E7 m.B.length d7, .slice E8 m.S.length d8] 29))); have hY2 := Aside0.mk (heap_alloc_new w2 (.cells #[.int .u8 m.k, .int .u64 m.n, .int .i64 m.r, .int .u64 m.first, .int .u64 m.last, .int .u64 m.commit, .slice E6 m.V.length d6, .slice E7 m.B.length d7, .slice E8 m.S.length d8] 29)); have hne : w.heap.size ≠ w2.heap.size := Nat.ne_of_lt (Nat.lt_of_lt_of_le (blk_lt hX1.out) HB2.size); clear HB2 hE2; have hz0 := (blk_cell (hY2.out) 0).trans rfl; have hz1 := (blk_cell (hY2.out) 1).trans rfl; have hz2 := (blk_cell (hY2.out) 2).trans rfl; have hz3 := (blk_cell (hY2.out) 3).trans rfl; have hz4 := (blk_cell (hY2.out) 4).trans rfl; have hz5 := (blk_cell (hY2.out) 5).trans rfl; have hz6 := (blk_cell (hY2.out) 6).trans rfl; have hz7 := (blk_cell (hY2.out) 7).trans rfl; have hz8 := (blk_cell (hY2.out) 8).trans rfl; (try dsimp only))
    | ((with_reducible refine gate_callee (f := 10) rfl ?_); (with_reducible refine gate_dst (N := 13) rfl ?_); refine goesL_ (some 13) rfl rfl Tryd.func10 (by kernel_rfl) rfl #[.agg #[.int .u8 m.k, .int .u64 m.n, .int .i64 m.r, .int .u64 m.first, .int .u64 m.last, .int .u64 m.commit, .slice E6 m.V.length d6, .slice E7 m.B.length d7, .slice E8 m.S.length d8]] rfl (by (try simp only [List.map_toArray, List.map_cons, List.map_nil]); first | done | rfl) ?_; refine (check_at m k hW.out E6 E7 E8 d6 d7 d8 _ (hT.out.below hB2.out) hE.out).mono ?_; rintro e w3 ⟨rfl, HB3⟩; refine ⟨_, rfl, ?_⟩; rw [hC.out]; have hB3 := Aside0.mk (below_step hB2.out HB3); have hX3 := Aside0.mk (blk_below hX2.out HB3); have hY3 := Aside0.mk (blk_below hY2.out HB3); have hE3 := Aside0.mk (hE.out.below HB3); clear HB3; have hy0 := (blk_cell (hY3.out) 0).trans rfl; have hy1 := (blk_cell (hY3.out) 1).trans rfl; have hy2 := (blk_cell (hY3.out) 2).trans rfl; have hy3 := (blk_cell (hY3.out) 3).trans rfl; have hy4 := (blk_cell (hY3.out) 4).trans rfl; have hy5 := (blk_cell (hY3.out) 5).trans rfl; have hy6 := (blk_cell (hY3.out) 6).trans rfl; have hy7 := (blk_cell (hY3.out) 7).trans rfl; have hy8 := (blk_cell (hY3.out) 8).trans rfl; (try dsimp only))
    | ((with_reducible refine gate_callee (f := 11) rfl ?_); (with_reducible refine gate_dst (N := 16) rfl ?_); refine goesL_ (some 16) rfl rfl Tryd.func11 (by kernel_rfl) rfl #[.agg #[.int .u8 m.k, .int .u64 m.n, .int .i64 m.r, .int .u64 m.first, .int .u64 m.last, .int .u64 m.commit, .slice E6 m.V.length d6, .slice E7 m.B.length d7, .slice E8 m.S.length d8]] rfl (by (try simp only [List.map_toArray, List.map_cons, List.map_nil]); first | done | rfl) ?_; refine (put_at m k hW.out hS.out.small hc1.out E6 E7 E8 d6 d7 d8 _ (hT.out.below hB3.out) hE3.out).mono ?_; rintro e w4 ⟨PA, pc, rfl, hR4, HB4⟩; refine ⟨_, rfl, ?_⟩; have hR4' := Aside0.mk hR4; clear hR4; have hB4 := Aside0.mk (below_step hB3.out HB4); have hX4 := Aside0.mk (blk_below hX3.out HB4); have hY4 := Aside0.mk (blk_below hY3.out HB4); have hE4 := Aside0.mk (hE3.out.below HB4); clear HB4; (try dsimp only))
    | go_step)
  refine start_ (n := 11) (S := fun W => Below w4.heap.size w4 W) (ds := []) #[false, false, false, false, false, false, false, false, false, false, false] (by kernel_rfl) rfl rfl (below_drew1 (Below.refl _ _)) (fun hHeld => ?_)
  refine take_ (i := 0) (N := some 19) (v := ?_) (a' := ?_) #[true, false, false, false, false, false, false, false, false, false, false] rfl rfl (by kernel_rfl) (fun _ _ _ h => h) (Or.inl ⟨by rfl, ?_⟩) hHeld ?_ ?_
  rotate_left
  · rintro w' hS
    have hx0 := (blk_cell (blk_below hY4.out hS) 0).trans rfl
    have hx1 := (blk_cell (blk_below hY4.out hS) 1).trans rfl
    have hx2 := (blk_cell (blk_below hY4.out hS) 2).trans rfl
    have hx3 := (blk_cell (blk_below hY4.out hS) 3).trans rfl
    have hx4 := (blk_cell (blk_below hY4.out hS) 4).trans rfl
    have hx5 := (blk_cell (blk_below hY4.out hS) 5).trans rfl
    have hx6 := (blk_cell (blk_below hY4.out hS) 6).trans rfl
    have hx7 := (blk_cell (blk_below hY4.out hS) 7).trans rfl
    have hx8 := (blk_cell (blk_below hY4.out hS) 8).trans rfl
    go_simp
    with_reducible rfl
  rotate_left
  · simp only [Act.put, List.setIfInBounds_toArray, List.set_cons_zero, List.set_cons_succ, i64_w, i32_w]
    rfl
  refine take_ (i := 2) (N := some 21) (v := ?_) (a' := ?_) #[true, false, true, false, false, false, false, false, false, false, false] rfl rfl (by kernel_rfl) (fun _ _ _ h => h) (Or.inl ⟨by rfl, ?_⟩) hHeld ?_ ?_
  rotate_left
  · rintro w' hS
    have hx0 := (blk_cell (blk_below hX4.out hS) 0).trans rfl
    have hx1 := (blk_cell (blk_below hX4.out hS) 1).trans rfl
    have hx2 := (blk_cell (blk_below hX4.out hS) 2).trans rfl
    have hx3 := (blk_cell (blk_below hX4.out hS) 3).trans rfl
    have hx4 := (blk_cell (blk_below hX4.out hS) 4).trans rfl
    have hx5 := (blk_cell (blk_below hX4.out hS) 5).trans rfl
    have hx6 := (blk_cell (blk_below hX4.out hS) 6).trans rfl
    have hx7 := (blk_cell (blk_below hX4.out hS) 7).trans rfl
    have hx8 := (blk_cell (blk_below hX4.out hS) 8).trans rfl
    go_simp
    with_reducible rfl
  rotate_left
  · simp only [Act.put, List.setIfInBounds_toArray, List.set_cons_zero, List.set_cons_succ, i64_w, i32_w]
    rfl
  refine one_ (i := 1) (N := some 20) #[true, true, true, false, false, false, false, false, false, false, false] rfl rfl (by kernel_rfl) (by decide) (fun K hK => ?_)
  refine goes_ Tryd.func13 (by kernel_rfl) rfl #[.agg #[.int .u8 m.k, .int .u64 m.n, .int .i64 m.r, .int .u64 m.first, .int .u64 m.last, .int .u64 m.commit, .slice E6 m.V.length d6, .slice E7 m.B.length d7, .slice E8 m.S.length d8]] (by rfl) rfl rfl (by (try simp only [List.map_toArray, List.map_cons, List.map_nil]); first | done | rfl) ?_
  refine (of_at m k hW.out E6 E7 E8 d6 d7 d8 _).mono ?_
  rintro e w5 ⟨rfl, HB5⟩
  refine ⟨_, rfl, ?_⟩
  have hB5 := Aside0.mk (below_step hHeld HB5)
  clear hHeld HB5
  refine hK.out _ _ hB5.out (fun hHeld => ?_)
  clear hK K
  refine norm_ (a' := ?_) ?_ ?_
  rotate_left
  · show Act.put _ (some 20) _ = _
    simp only [Act.put, List.setIfInBounds_toArray, List.set_cons_zero, List.set_cons_succ, i64_w, i32_w]
    rfl
  refine one_ (i := 3) (N := some 22) #[true, true, true, true, false, false, false, false, false, false, false] rfl rfl (by kernel_rfl) (by decide) (fun K hK => ?_)
  refine goes_ Tryd.func13 (by kernel_rfl) rfl #[.agg #[.int .u8 m.k, .int .u64 m.n, .int .i64 m.r, .int .u64 m.first, .int .u64 m.last, .int .u64 m.commit, .slice A6 m.V.length c6, .slice A7 m.B.length c7, .slice A8 m.S.length c8]] (by rfl) rfl rfl (by (try simp only [List.map_toArray, List.map_cons, List.map_nil]); first | done | rfl) ?_
  refine (of_at m k hW.out A6 A7 A8 c6 c7 c8 _).mono ?_
  rintro e w6 ⟨rfl, HB6⟩
  refine ⟨_, rfl, ?_⟩
  have hB6 := Aside0.mk (below_step hB5.out HB6)
  clear hHeld HB6
  refine hK.out _ _ hB6.out (fun hHeld => ?_)
  clear hK K
  refine norm_ (a' := ?_) ?_ ?_
  rotate_left
  · show Act.put _ (some 22) _ = _
    simp only [Act.put, List.setIfInBounds_toArray, List.set_cons_zero, List.set_cons_succ, i64_w, i32_w]
    rfl
  refine one_ (i := 4) (N := some 23) #[true, true, true, true, true, false, false, false, false, false, false] rfl rfl (by kernel_rfl) (by decide) (fun K hK => ?_)
  refine goes_ Tryd.func12 (by kernel_rfl) rfl #[.agg #[.int .i64 m.k, .int .u64 m.n, .int .i64 m.r, .int .u64 m.first, .int .u64 m.last, .int .u64 m.commit, .slice E6 m.V.length d6, .slice E7 m.B.length d7, .slice E8 m.S.length d8], .agg #[.int .i64 m.k, .int .u64 m.n, .int .i64 m.r, .int .u64 m.first, .int .u64 m.last, .int .u64 m.commit, .slice A6 m.V.length c6, .slice A7 m.B.length c7, .slice A8 m.S.length c8]] (by rfl) rfl rfl (by (try simp only [List.map_toArray, List.map_cons, List.map_nil]); first | done | rfl) ?_
  refine (same_at m hS.out.small E6 E7 E8 d6 d7 d8 A6 A7 A8 c6 c7 c8 _ (hE4.out.below hB6.out) ((hL.out.below hB4.out).below hB6.out)).mono ?_
  rintro e w7 ⟨rfl, HB7⟩
  refine ⟨_, rfl, ?_⟩
  have hB7 := Aside0.mk (below_step hB6.out HB7)
  clear hHeld HB7
  refine hK.out _ _ hB7.out (fun hHeld => ?_)
  clear hK K
  refine norm_ (a' := ?_) ?_ ?_
  rotate_left
  · show Act.put _ (some 23) _ = _
    simp only [Act.put, List.setIfInBounds_toArray, List.set_cons_zero, List.set_cons_succ, i64_w, i32_w]
    rfl
  refine pure_ (i := 5) (N := some 24) (v := ?_) (a' := ?_) #[true, true, true, true, true, true, false, false, false, false, false] rfl rfl (by kernel_rfl) (fun _ _ _ h => h) (Or.inl ⟨by rfl, ?_⟩) ?_ ?_
  rotate_left
  · intro w'
    go_simp
    with_reducible rfl
  rotate_left
  · simp only [Act.put, List.setIfInBounds_toArray, List.set_cons_zero, List.set_cons_succ, i64_w, i32_w]
    rfl
  refine pure_ (i := 6) (N := some 25) (v := ?_) (a' := ?_) #[true, true, true, true, true, true, true, false, false, false, false] rfl rfl (by kernel_rfl) (fun _ _ _ h => h) (Or.inl ⟨by rfl, ?_⟩) ?_ ?_
  rotate_left
  · intro w'
    go_simp
    with_reducible rfl
  rotate_left
  · simp only [Act.put, List.setIfInBounds_toArray, List.set_cons_zero, List.set_cons_succ, i64_w, i32_w]
    rfl
  refine pure_ (i := 7) (N := some 26) (v := ?_) (a' := ?_) #[true, true, true, true, true, true, true, true, false, false, false] rfl rfl (by kernel_rfl) (fun _ _ _ h => h) (Or.inl ⟨by rfl, ?_⟩) ?_ ?_
  rotate_left
  · intro w'
    go_simp
    with_reducible rfl
  rotate_left
  · simp only [Act.put, List.setIfInBounds_toArray, List.set_cons_zero, List.set_cons_succ, i64_w, i32_w]
    rfl
  refine pure_ (i := 8) (N := some 27) (v := ?_) (a' := ?_) #[true, true, true, true, true, true, true, true, true, false, false] rfl rfl (by kernel_rfl) (fun _ _ _ h => h) (Or.inl ⟨by rfl, ?_⟩) ?_ ?_
  rotate_left
  · intro w'
    go_simp
    with_reducible rfl
  rotate_left
  · simp only [Act.put, List.setIfInBounds_toArray, List.set_cons_zero, List.set_cons_succ, i64_w, i32_w]
    rfl
  refine pure_ (i := 9) (N := some 28) (v := ?_) (a' := ?_) #[true, true, true, true, true, true, true, true, true, true, false] rfl rfl (by kernel_rfl) (fun _ _ _ h => h) (Or.inl ⟨by rfl, ?_⟩) ?_ ?_
  rotate_left
  · intro w'
    go_simp
    with_reducible rfl
  rotate_left
  · simp only [Act.put, List.setIfInBounds_toArray, List.set_cons_zero, List.set_cons_succ, i64_w, i32_w]
    rfl
  refine pure_ (i := 10) (N := some 29) (v := ?_) (a' := ?_) #[true, true, true, true, true, true, true, true, true, true, true] rfl rfl (by kernel_rfl) (fun _ _ _ h => h) (Or.inl ⟨by rfl, ?_⟩) ?_ ?_
  rotate_left
  · intro w'
    go_simp
    with_reducible rfl
  rotate_left
  · simp only [Act.put, List.setIfInBounds_toArray, List.set_cons_zero, List.set_cons_succ, i64_w, i32_w]
    rfl
  refine done_ (by kernel_rfl) ?_
  have hB7' := Aside0.mk (below_step hB4.out hB7.out)
  have hX7 := Aside0.mk (blk_below hX4.out hB7.out)
  have hR7 := Aside0.mk (Kd.C_below hR4'.out hB7.out)
  have hu0 := (blk_cell hX7.out 0).trans rfl
  have hu1 := (blk_cell hX7.out 1).trans rfl
  have hu2 := (blk_cell hX7.out 2).trans rfl
  have hu3 := (blk_cell hX7.out 3).trans rfl
  have hu4 := (blk_cell hX7.out 4).trans rfl
  have hu5 := (blk_cell hX7.out 5).trans rfl
  have hu6 := (blk_cell hX7.out 6).trans rfl
  have hu7 := (blk_cell hX7.out 7).trans rfl
  have hu8 := (blk_cell hX7.out 8).trans rfl
  repeat (first
    | ((with_reducible refine gate_callee (f := 13) rfl ?_); (with_reducible refine gate_dst (N := 31) rfl ?_); refine goesL_ (some 31) rfl rfl Tryd.func13 (by kernel_rfl) rfl #[.agg #[.int .u8 m.k, .int .u64 m.n, .int .i64 m.r, .int .u64 m.first, .int .u64 m.last, .int .u64 m.commit, .slice A6 m.V.length c6, .slice A7 m.B.length c7, .slice A8 m.S.length c8]] rfl (by (try simp only [List.map_toArray, List.map_cons, List.map_nil]); first | done | rfl) ?_; refine (of_at m k hW.out A6 A7 A8 c6 c7 c8 _).mono ?_; rintro e w8 ⟨rfl, HB8⟩; refine ⟨_, rfl, ?_⟩; have hB8 := Aside0.mk (below_step hB7'.out HB8); have hX8 := Aside0.mk (blk_below hX7.out HB8); have hR8 := Aside0.mk (Kd.C_below hR7.out HB8); clear HB8; (try dsimp only))
    | ((with_reducible refine gate_callee (f := 14) rfl ?_); (with_reducible refine gate_dst (N := 32) rfl ?_); refine goesL_ (some 32) rfl rfl Tryd.func14 (by kernel_rfl) rfl #[.agg #[.int .i64 m.k, .int .u64 m.n, .int .i64 m.r, .int .u64 m.first, .int .u64 m.last, .int .u64 m.commit, .slice A6 m.V.length c6, .slice A7 m.B.length c7, .slice A8 m.S.length c8]] rfl (by (try simp only [List.map_toArray, List.map_cons, List.map_nil]); first | done | rfl) ?_; refine (may_at m k hW.out hS.out.small A6 A7 A8 c6 c7 c8 _ (hL.out.below hB8.out)).mono ?_; rintro e w9 ⟨rfl, HB9⟩; refine ⟨_, rfl, ?_⟩; rw [hc1.out]; have hB9 := Aside0.mk (below_step hB8.out HB9); have hX9 := Aside0.mk (blk_below hX8.out HB9); have hR9 := Aside0.mk (Kd.C_below hR8.out HB9); clear HB9; (try dsimp only))
    | go_step)
  refine start_ (n := 16) (S := fun W => Below w9.heap.size w9 W) (ds := []) #[false, false, false, false, false, false, false, false, false, false, false, false, false, false, false, false] (by kernel_rfl) rfl rfl (below_drew1 (Below.refl _ _)) (fun hHeld => ?_)
  refine pure_ (i := 0) (N := some 44) (v := ?_) (a' := ?_) #[true, false, false, false, false, false, false, false, false, false, false, false, false, false, false, false] rfl rfl (by kernel_rfl) (fun _ _ _ h => h) (Or.inl ⟨by rfl, ?_⟩) ?_ ?_
  rotate_left
  · intro w'
    go_simp
    with_reducible rfl
  rotate_left
  · simp only [Act.put, List.setIfInBounds_toArray, List.set_cons_zero, List.set_cons_succ, i64_w, i32_w]
    rfl
  refine pure_ (i := 1) (N := some 45) (v := ?_) (a' := ?_) #[true, true, false, false, false, false, false, false, false, false, false, false, false, false, false, false] rfl rfl (by kernel_rfl) (fun _ _ _ h => h) (Or.inl ⟨by rfl, ?_⟩) ?_ ?_
  rotate_left
  · intro w'
    go_simp
    with_reducible rfl
  rotate_left
  · simp only [Act.put, List.setIfInBounds_toArray, List.set_cons_zero, List.set_cons_succ, i64_w, i32_w]
    rfl
  refine pure_ (i := 2) (N := some 46) (v := ?_) (a' := ?_) #[true, true, true, false, false, false, false, false, false, false, false, false, false, false, false, false] rfl rfl (by kernel_rfl) (fun _ _ _ h => h) (Or.inl ⟨by rfl, ?_⟩) ?_ ?_
  rotate_left
  · intro w'
    go_simp
    with_reducible rfl
  rotate_left
  · simp only [Act.put, List.setIfInBounds_toArray, List.set_cons_zero, List.set_cons_succ, i64_w, i32_w]
    rfl
  refine pure_ (i := 3) (N := some 47) (v := ?_) (a' := ?_) #[true, true, true, true, false, false, false, false, false, false, false, false, false, false, false, false] rfl rfl (by kernel_rfl) (fun _ _ _ h => h) (Or.inl ⟨by rfl, ?_⟩) ?_ ?_
  rotate_left
  · intro w'
    go_simp
    with_reducible rfl
  rotate_left
  · simp only [Act.put, List.setIfInBounds_toArray, List.set_cons_zero, List.set_cons_succ, i64_w, i32_w]
    rfl
  refine take_ (i := 4) (N := some 48) (v := ?_) (a' := ?_) #[true, true, true, true, true, false, false, false, false, false, false, false, false, false, false, false] rfl rfl (by kernel_rfl) (fun _ _ _ h => h) (Or.inl ⟨by rfl, ?_⟩) hHeld ?_ ?_
  rotate_left
  · rintro w' hS
    have hcv := Kd.C_string (P := Tryd.prog) (A := PA) (c := pc) Tryd.underlying27 Tryd.underlying5 Tryd.underlying9 (Kd.C_below hR9.out hS)
    go_simp
    with_reducible rfl
  rotate_left
  · simp only [Act.put, List.setIfInBounds_toArray, List.set_cons_zero, List.set_cons_succ, i64_w, i32_w]
    rfl
  refine take_ (i := 5) (N := some 49) (v := ?_) (a' := ?_) #[true, true, true, true, true, true, false, false, false, false, false, false, false, false, false, false] rfl rfl (by kernel_rfl) (fun _ _ _ h => h) (Or.inl ⟨by rfl, ?_⟩) hHeld ?_ ?_
  rotate_left
  · rintro w' hS
    have hx0 := (blk_cell (blk_below hX9.out hS) 0).trans rfl
    have hx1 := (blk_cell (blk_below hX9.out hS) 1).trans rfl
    have hx2 := (blk_cell (blk_below hX9.out hS) 2).trans rfl
    have hx3 := (blk_cell (blk_below hX9.out hS) 3).trans rfl
    have hx4 := (blk_cell (blk_below hX9.out hS) 4).trans rfl
    have hx5 := (blk_cell (blk_below hX9.out hS) 5).trans rfl
    have hx6 := (blk_cell (blk_below hX9.out hS) 6).trans rfl
    have hx7 := (blk_cell (blk_below hX9.out hS) 7).trans rfl
    have hx8 := (blk_cell (blk_below hX9.out hS) 8).trans rfl
    go_simp
    with_reducible rfl
  rotate_left
  · simp only [Act.put, List.setIfInBounds_toArray, List.set_cons_zero, List.set_cons_succ, i64_w, i32_w]
    rfl
  refine one_ (i := 6) (N := some 50) #[true, true, true, true, true, true, true, false, false, false, false, false, false, false, false, false] rfl rfl (by kernel_rfl) (by decide) (fun K hK => ?_)
  refine goes_ Tryd.func13 (by kernel_rfl) rfl #[.agg #[.int .u8 m.k, .int .u64 m.n, .int .i64 m.r, .int .u64 m.first, .int .u64 m.last, .int .u64 m.commit, .slice A6 m.V.length c6, .slice A7 m.B.length c7, .slice A8 m.S.length c8]] (by rfl) rfl rfl (by (try simp only [List.map_toArray, List.map_cons, List.map_nil]); first | done | rfl) ?_
  refine (of_at m k hW.out A6 A7 A8 c6 c7 c8 _).mono ?_
  rintro e x5 ⟨rfl, HB5⟩
  refine ⟨_, rfl, ?_⟩
  have gB5 := Aside0.mk (below_step hHeld HB5)
  clear hHeld HB5
  refine hK.out _ _ gB5.out (fun hHeld => ?_)
  clear hK K
  refine norm_ (a' := ?_) ?_ ?_
  rotate_left
  · show Act.put _ (some 50) _ = _
    simp only [Act.put, List.setIfInBounds_toArray, List.set_cons_zero, List.set_cons_succ, i64_w, i32_w]
    rfl
  refine one_ (i := 7) (N := some 51) #[true, true, true, true, true, true, true, true, false, false, false, false, false, false, false, false] rfl rfl (by kernel_rfl) (by decide) (fun K hK => ?_)
  refine goes_ Tryd.func16 (by kernel_rfl) rfl #[.agg #[.int .i64 m.k, .int .u64 m.n, .int .i64 m.r, .int .u64 m.first, .int .u64 m.last, .int .u64 m.commit, .slice A6 m.V.length c6, .slice A7 m.B.length c7, .slice A8 m.S.length c8]] (by rfl) rfl rfl (by (try simp only [List.map_toArray, List.map_cons, List.map_nil]); first | done | rfl) ?_
  refine (inside_at m k hW.out hS.out.small hc1.out A6 A7 A8 c6 c7 c8 _ ((hL.out.below hB9.out).below gB5.out)).mono ?_
  rintro e x6 ⟨IA, ic, rfl, hil, hIr, HB6⟩
  refine ⟨_, rfl, ?_⟩
  have gB6 := Aside0.mk (below_step gB5.out HB6)
  have hIl := Aside0.mk hil
  have hI := Aside0.mk hIr
  clear hHeld HB6 hil hIr
  refine hK.out _ _ gB6.out (fun hHeld => ?_)
  clear hK K
  refine norm_ (a' := ?_) ?_ ?_
  rotate_left
  · show Act.put _ (some 51) _ = _
    simp only [Act.put, List.setIfInBounds_toArray, List.set_cons_zero, List.set_cons_succ, i64_w, i32_w]
    rfl
  refine one_ (i := 8) (N := some 52) #[true, true, true, true, true, true, true, true, true, false, false, false, false, false, false, false] rfl rfl (by kernel_rfl) (by decide) (fun K hK => ?_)
  refine goes_ Tryd.func15 (by kernel_rfl) rfl #[.slice IA (bodyB m k).length ic] (by rfl) rfl rfl (by (try simp only [List.map_toArray, List.map_cons, List.map_nil]); first | done | rfl) ?_
  refine (summed_at m k hW.out hS.out.small (known_of_check hc1.out).2 IA ic _ hIl.out hI.out).mono ?_
  rintro e x7 ⟨SA, sc, rfl, hSr, HB7⟩
  refine ⟨_, rfl, ?_⟩
  have gB7 := Aside0.mk (below_step gB6.out HB7)
  have hSr' := Aside0.mk hSr
  clear hHeld HB7 hSr
  refine hK.out _ _ gB7.out (fun hHeld => ?_)
  clear hK K
  refine norm_ (a' := ?_) ?_ ?_
  rotate_left
  · show Act.put _ (some 52) _ = _
    simp only [Act.put, List.setIfInBounds_toArray, List.set_cons_zero, List.set_cons_succ, i64_w, i32_w]
    rfl
  refine one_ (i := 9) (N := some 53) #[true, true, true, true, true, true, true, true, true, true, false, false, false, false, false, false] rfl rfl (by kernel_rfl) (by decide) (fun K hK => ?_)
  have hcv2 := Kd.C_string (P := Tryd.prog) (A := SA) (c := sc) Tryd.underlying27 Tryd.underlying5 Tryd.underlying9 hSr'.out
  refine value_ (v := .string (strOfNums (putB m k))) (w1 := x7) (by rfl) rfl (by go_simp; (try rfl)) ?_
  refine hK.out _ _ gB7.out (fun hHeld => ?_)
  clear hK K hcv2
  refine norm_ (a' := ?_) ?_ ?_
  rotate_left
  · show Act.put _ (some 53) _ = _
    simp only [Act.put, List.setIfInBounds_toArray, List.set_cons_zero, List.set_cons_succ, i64_w, i32_w]
    rfl
  refine pure_ (i := 10) (N := some 54) (v := ?_) (a' := ?_) #[true, true, true, true, true, true, true, true, true, true, true, false, false, false, false, false] rfl rfl (by kernel_rfl) (fun _ _ _ h => h) (Or.inl ⟨by rfl, ?_⟩) ?_ ?_
  rotate_left
  · intro w'
    go_simp
    with_reducible rfl
  rotate_left
  · simp only [Act.put, List.setIfInBounds_toArray, List.set_cons_zero, List.set_cons_succ, i64_w, i32_w]
    rfl
  refine pure_ (i := 11) (N := some 55) (v := ?_) (a' := ?_) #[true, true, true, true, true, true, true, true, true, true, true, true, false, false, false, false] rfl rfl (by kernel_rfl) (fun _ _ _ h => h) (Or.inl ⟨by rfl, ?_⟩) ?_ ?_
  rotate_left
  · intro w'
    go_simp
    with_reducible rfl
  rotate_left
  · simp only [Act.put, List.setIfInBounds_toArray, List.set_cons_zero, List.set_cons_succ, i64_w, i32_w]
    rfl
  refine pure_ (i := 12) (N := some 56) (v := ?_) (a' := ?_) #[true, true, true, true, true, true, true, true, true, true, true, true, true, false, false, false] rfl rfl (by kernel_rfl) (fun _ _ _ h => h) (Or.inl ⟨by rfl, ?_⟩) ?_ ?_
  rotate_left
  · intro w'
    go_simp
    with_reducible rfl
  rotate_left
  · simp only [Act.put, List.setIfInBounds_toArray, List.set_cons_zero, List.set_cons_succ, i64_w, i32_w]
    rfl
  refine one_ (i := 13) (N := some 57) #[true, true, true, true, true, true, true, true, true, true, true, true, true, true, false, false] rfl rfl (by kernel_rfl) (by decide) (fun K hK => ?_)
  refine goes_ Tryd.func8 (by kernel_rfl) rfl #[] (by rfl) rfl rfl (by (try simp only [List.map_toArray, List.map_cons, List.map_nil]); first | done | rfl) ?_
  refine (wakes_at w _ hT.out (below_step hB9.out gB7.out)).mono ?_
  rintro e x8 ⟨rfl, HB8⟩
  refine ⟨_, rfl, ?_⟩
  have gB8 := Aside0.mk (below_step gB7.out HB8)
  clear hHeld HB8
  refine hK.out _ _ gB8.out (fun hHeld => ?_)
  clear hK K
  refine norm_ (a' := ?_) ?_ ?_
  rotate_left
  · show Act.put _ (some 57) _ = _
    simp only [Act.put, List.setIfInBounds_toArray, List.set_cons_zero, List.set_cons_succ, i64_w, i32_w]
    rfl
  refine pure_ (i := 14) (N := some 58) (v := ?_) (a' := ?_) #[true, true, true, true, true, true, true, true, true, true, true, true, true, true, true, false] rfl rfl (by kernel_rfl) (fun _ _ _ h => h) (Or.inl ⟨by rfl, ?_⟩) ?_ ?_
  rotate_left
  · intro w'
    go_simp
    with_reducible rfl
  rotate_left
  · simp only [Act.put, List.setIfInBounds_toArray, List.set_cons_zero, List.set_cons_succ, i64_w, i32_w]
    rfl
  refine pure_ (i := 15) (N := some 2) (v := ?_) (a' := ?_) #[true, true, true, true, true, true, true, true, true, true, true, true, true, true, true, true] rfl rfl (by kernel_rfl) (fun _ _ _ h => h) (Or.inl ⟨by rfl, ?_⟩) ?_ ?_
  rotate_left
  · intro w'
    go_simp
    with_reducible rfl
  rotate_left
  · simp only [Act.put, List.setIfInBounds_toArray, List.set_cons_zero, List.set_cons_succ, i64_w, i32_w]
    rfl
  refine done_ (by kernel_rfl) ?_
  go_wp2
  go_ret
  exact ⟨rfl, below_step hB9.out gB8.out⟩
theorem puts_calls (m : Mg) (k : Nat) (hw : greatB m = false → Whole m k) (A6 A7 A8 : Option Addr) (c6 c7 c8 : Nat) (w : World) (T : Tabs w) (h : Lies m w A6 A7 A8 c6 c7 c8) :
    Calls Tryd.prog 3 #[.agg (m.cells A6 A7 A8 c6 c7 c8)] w fun e w' => e = .returned (.bool true) ∧ Below w.heap.size w w' := by
  by_cases hg : greatB m = true
  · exact puts_great m A6 A7 A8 c6 c7 c8 w T h hg
  have hg0 : greatB m = false := by simpa using hg
  by_cases hc : checkM m k = true
  · exact puts_yes m k (hw hg0) A6 A7 A8 c6 c7 c8 w T h hg0 hc
  · exact puts_no m k (hw hg0) A6 A7 A8 c6 c7 c8 w T h hg0 (by simpa using hc)
end Go.Proofs.YtfkfboigkpofkaaDoor.M
end
section
namespace Go.Proofs.YtfkfboigkpofkaaDoor.M
open Go.RowKit Go.Proofs.YtfkfboigkpofkaaDoorW.PrintWords Go.Proofs.YtfkfboigkpofkaaDoorW.PrintLast Go.Proofs.YtfkfboigkpofkaaDoorW.PrintMore Go.Proofs.YtfkfboigkpofkaaDoor.PMsgPuts
set_option linter.unusedVariables false
set_option linter.unusedSimpArgs false
open Go.ChangeShapes Go.WideShapes Go.ChangeAt Go.Deep
abbrev laidL : List (String × DataW Unit) := [("quorate/crc.steps", Rows.laid_quorate_crc_steps), ("quorate/msg.fields", Rows.laid_quorate_msg_fields)]
theorem gSteps : Tryd.prog.globalNamed "quorate/crc.steps" = some 2 := by kernel_rfl
theorem gFields : Tryd.prog.globalNamed "quorate/msg.fields" = some 0 := by kernel_rfl
theorem tSteps : (Tryd.prog.globals[2]?).map (·.type) = some 115 := by kernel_rfl
theorem tFields : (Tryd.prog.globals[0]?).map (·.type) = some 57 := by kernel_rfl
theorem cells_strs {H : Type} {enc : TypeId × Value → H} {P : Program} {w : World} {base : Nat} {sp : Nat → Bool} {held : Bool} {fuel : Nat} {t e : TypeId} {n : Nat} {cs : List Value} {ls : List (List UInt8)} {p : List MemPlace}
    (ht : P.underlying t = some (.array n e)) (he : P.underlying e = some .string) (hce : P.cellsOf e = 1)
    (h : DataW.trod enc P w base sp held fuel t cs = some (.agg (ls.map fun l => DataW.lit (Lit.string l)), p)) : ∀ (i : Nat) (l : List UInt8), ls[i]? = some l → cs[i]? = some (Value.string ⟨l.toArray⟩) := by
  obtain ⟨xs, m, _, hx, _, hn, hel⟩ := DataW.trod_array ht h
  simp only [Prod.mk.injEq, DataW.agg.injEq] at hx
  intro i l hl
  have h1 : (xs.map (·.1))[i]? = some (DataW.lit (.string l) : DataW H) := by
    rw [← hx.1, List.getElem?_map, hl]
    rfl
  rw [List.getElem?_map, Option.map_eq_some_iff] at h1
  obtain ⟨y, hy, hy2⟩ := h1
  have hin : i < n := by rw [← hn]; exact (List.getElem?_eq_some_iff.1 hy).1
  have h2 := hel i hin
  rw [hy, hce] at h2
  obtain ⟨s, hs1, hs2, _⟩ := DataW.trod_string he h2
  have h3 : cs[i]? = some (.string s) := by
    have := congrArg (·[0]?) hs1
    simpa [List.getElem?_take, List.getElem?_drop] using this
  rw [hs2] at hy2
  simp only [DataW.lit.injEq, Lit.string.injEq] at hy2
  rw [h3, ← hy2]
theorem tabs_of_laid {W : World} (h : laidMetH Tryd.prog laidL W) : Tabs W := by
  rw [MakeChecks.laidMetH_plain _ _ _ (by kernel_rfl)] at h
  obtain ⟨ps, ⟨g0, t0, cs0, f0, p0, q0, hg0, ht0, hv0, hd0, ⟨g1, t1, cs1, f1, p1, q1, hg1, ht1, hv1, hd1, _, _⟩, _⟩, _, _⟩ := h
  obtain rfl := Option.some.inj (gSteps.symm.trans hg0)
  obtain rfl := Option.some.inj (gFields.symm.trans hg1)
  obtain rfl := Option.some.inj (tSteps.symm.trans ht0)
  obtain rfl := Option.some.inj (tFields.symm.trans ht1)
  have e0 := Lib.cells_of_tab (zs := (List.range 16).map fun i => stp i) (k := .u32) Tryd.underlying115 Tryd.underlying64 (by kernel_rfl) (by kernel_rfl) hd0
  have e1 := cells_strs (ls := (List.range 9).map fun i => fld i) Tryd.underlying57 Tryd.underlying9 (by kernel_rfl) hd1
  refine ⟨fun i hi => ?_, fun i hi => ?_⟩
  · rw [World.var?_cell hg1 hv1 i]
    have h1 := e1 i (fld i) (by rw [List.getElem?_map, List.getElem?_range hi]; rfl)
    rw [Array.getElem?_toList] at h1
    exact h1
  · rw [World.var?_cell hg0 hv0 i, ← Array.getElem?_toList, e0]
    simp [List.getElem?_range hi]
section
variable {H : Type} {enc : TypeId × Value → H} {w : World}
theorem slice_C {t e : TypeId} {α : Type} (d : Kd α) (Good : α → Prop) (ht : Tryd.prog.underlying t = some (.slice e)) (hC : Tryd.prog.cellsOf e = d.sz)
    (hel : ∀ (n : Nat) (cs : List Value) (x : DataW H × List MemPlace), cs.length = d.sz → DataW.trod enc Tryd.prog w 0 (fun _ => true) true n e cs = some x → ∃ p : α, d.K w p cs ∧ Good p)
    {fuel : Nat} {cs : List Value} {x : DataW H × List MemPlace} (h : DataW.trod enc Tryd.prog w 0 (fun _ => true) true fuel t cs = some x) :
    ∃ A c l, cs = [.slice A (l : List α).length c] ∧ l.length ≤ c ∧ d.C w A l.length l ∧ ∀ p ∈ l, Good p := by
  rcases open_slice ht h with ⟨rfl, _⟩ | ⟨a, len, cap, m, n, D, Pl, rfl, _, hl, hm, hmm, _, hi⟩
  · exact ⟨none, 0, [], rfl, Nat.le_refl _, Kd.C_nil d w, fun p hp => by cases hp⟩
  · have hmc : m = cap := by simpa using hmm
    have hex : ∀ i : Fin len, ∃ p : α, (∃ cs', w.cells? 0 (a.add (i * d.sz)) d.sz = some cs' ∧ d.K w p cs') ∧ Good p := by
      intro i
      obtain ⟨cs', h1, h2⟩ := hi i.1 (by omega)
      rw [hC] at h1
      obtain ⟨_, hlen, _⟩ := World.cells?_some h1
      obtain ⟨p, hp, hg⟩ := hel n cs' _ hlen h2
      exact ⟨p, ⟨cs', h1, hp⟩, hg⟩
    let f : Fin len → α := fun i => Classical.choose (hex i)
    have hf : ∀ i : Fin len, (∃ cs', w.cells? 0 (a.add (i * d.sz)) d.sz = some cs' ∧ d.K w (f i) cs') ∧ Good (f i) := fun i => Classical.choose_spec (hex i)
    have hlen : (List.ofFn f).length = len := List.length_ofFn
    refine ⟨some a, cap, List.ofFn f, by rw [hlen], by rw [hlen]; exact hl, ⟨rfl, by rw [hlen]; unfold maxLen at hm; omega, fun _ => ⟨a, rfl, fun j p hj => ?_⟩⟩, fun p hp => ?_⟩
    · obtain ⟨hjl, hjp⟩ := List.getElem?_eq_some_iff.1 hj
      rw [hlen] at hjl
      obtain ⟨⟨cs', h1, h2⟩, _⟩ := hf ⟨j, hjl⟩
      have e : p = f ⟨j, hjl⟩ := by rw [← hjp, List.getElem_ofFn]
      rw [e]
      obtain ⟨_, hcl, hat⟩ := World.cells?_some h1
      refine ⟨cs', hcl, h2, fun i u hu => ?_⟩
      have hil : i < d.sz := by rw [← hcl]; exact (List.getElem?_eq_some_iff.1 hu).1
      have h3 := hat i hil
      rw [Deep.add_add] at h3
      exact h3.trans hu
    · obtain ⟨i, rfl⟩ := List.mem_ofFn.1 hp
      exact (hf i).2
theorem wf_u8 {n : Int} (h : (Lit.int .u8 n).wf = true) : 0 ≤ n ∧ n < 256 := by
  simp [Lit.wf, IntKind.min, IntKind.max, IntKind.signed, IntKind.bits] at h
  omega
theorem wf_u64 {n : Int} (h : (Lit.int .u64 n).wf = true) : U n := by
  simp [Lit.wf, IntKind.min, IntKind.max, IntKind.signed, IntKind.bits] at h
  unfold U
  omega
theorem wf_i64 {n : Int} (h : (Lit.int .i64 n).wf = true) : -9223372036854775808 ≤ n ∧ n ≤ 9223372036854775807 := by
  simp [Lit.wf, IntKind.min, IntKind.max, IntKind.signed, IntKind.bits] at h
  omega
theorem open_bytes {fuel : Nat} {cs : List Value} {x : DataW H × List MemPlace} (h : DataW.trod enc Tryd.prog w 0 (fun _ => true) true fuel 27 cs = some x) :
    ∃ A c l, cs = [.slice A (l : List Int).length c] ∧ l.length ≤ c ∧ (Kd.int .u8).C w A l.length l ∧ Bys l :=
  slice_C (Kd.int .u8) (fun n => 0 ≤ n ∧ n < 256) Tryd.underlying27 (by kernel_rfl) (fun n cs x _ h => by
    obtain ⟨n, rfl, _, hw⟩ := DataW.trod_int Tryd.underlying5 h
    exact ⟨n, rfl, wf_u8 hw⟩) h
theorem open_rows {fuel : Nat} {cs : List Value} {x : DataW H × List MemPlace} (h : DataW.trod enc Tryd.prog w 0 (fun _ => true) true fuel 26 cs = some x) :
    ∃ A c l, cs = [.slice A (l : List (List Int)).length c] ∧ l.length ≤ c ∧ (Kd.slice 5 (Kd.int .u8)).C w A l.length l ∧ ∀ p ∈ l, Bys p :=
  slice_C (Kd.slice 5 (Kd.int .u8)) Bys Tryd.underlying26 (by kernel_rfl) (fun n cs x _ h => by
    obtain ⟨A, c, l, rfl, hl, hC, hb⟩ := open_bytes h
    exact ⟨l, ⟨A, c, rfl, hl, hC⟩, hb⟩) h
theorem two_of {l : List Value} (h : l.length = 2) : ∃ a b, l = [a, b] := by
  match l, h with
  | [a, b], _ => exact ⟨a, b, rfl⟩
theorem four_of {l : List Value} (h : l.length = 4) : ∃ a b c d, l = [a, b, c, d] := by
  match l, h with
  | [a, b, c, d], _ => exact ⟨a, b, c, d, rfl⟩
theorem open_ballot {fuel : Nat} {cs : List Value} {x : DataW H × List MemPlace} (h : DataW.trod enc Tryd.prog w 0 (fun _ => true) true fuel 24 cs = some x) (hl : cs.length = 2) :
    ∃ n r, cs = [.int .u64 n, .int .i64 r] ∧ U n ∧ -9223372036854775808 ≤ r ∧ r ≤ 9223372036854775807 := by
  obtain ⟨c0, c1, rfl⟩ := two_of hl
  obtain ⟨ys, n, _, _, _, hyl, hf⟩ := DataW.trod_struct Tryd.underlying24 h
  · have c22 : Tryd.prog.cellsOf 22 = 1 := by kernel_rfl
    have c3 : Tryd.prog.cellsOf 3 = 1 := by kernel_rfl
    have h0 : DataW.trod enc Tryd.prog w 0 (fun _ => true) true n 22 (([c0, c1].drop 0).take (Tryd.prog.cellsOf 22)) = ys[0]? := hf 0 _ rfl
    have h1 : DataW.trod enc Tryd.prog w 0 (fun _ => true) true n 3 (([c0, c1].drop 1).take (Tryd.prog.cellsOf 3)) = ys[1]? := hf 1 _ rfl
    rw [c22] at h0
    rw [c3] at h1
    have hy2 : ys.length = 2 := hyl
    rw [List.getElem?_eq_getElem (by omega)] at h0 h1
    replace h0 : DataW.trod enc Tryd.prog w 0 (fun _ => true) true n 22 [c0] = _ := h0
    replace h1 : DataW.trod enc Tryd.prog w 0 (fun _ => true) true n 3 [c1] = _ := h1
    obtain ⟨a, ha, _, wa⟩ := DataW.trod_int Tryd.underlying22 h0
    obtain ⟨b, hb, _, wb⟩ := DataW.trod_int Tryd.underlying3 h1
    simp only [List.cons.injEq, and_true] at ha hb
    subst ha hb
    exact ⟨a, b, rfl, wf_u64 wa, (wf_i64 wb).1, (wf_i64 wb).2⟩
theorem open_vote {fuel : Nat} {cs : List Value} {x : DataW H × List MemPlace} (hl : cs.length = 4) (h : DataW.trod enc Tryd.prog w 0 (fun _ => true) true fuel 52 cs = some x) :
    ∃ p : S52, k52.K w p cs ∧ UV p ∧ Bys p.f2 := by
  obtain ⟨c0, c1, c2, c3, rfl⟩ := four_of hl
  obtain ⟨ys, n, _, _, _, hyl, hf⟩ := DataW.trod_struct Tryd.underlying52 h
  · have c22 : Tryd.prog.cellsOf 22 = 1 := by kernel_rfl
    have c24 : Tryd.prog.cellsOf 24 = 2 := by kernel_rfl
    have c27 : Tryd.prog.cellsOf 27 = 1 := by kernel_rfl
    have h0 : DataW.trod enc Tryd.prog w 0 (fun _ => true) true n 22 (([c0, c1, c2, c3].drop 0).take (Tryd.prog.cellsOf 22)) = ys[0]? := hf 0 _ rfl
    have h1 : DataW.trod enc Tryd.prog w 0 (fun _ => true) true n 24 (([c0, c1, c2, c3].drop 1).take (Tryd.prog.cellsOf 24)) = ys[1]? := hf 1 _ rfl
    have h2 : DataW.trod enc Tryd.prog w 0 (fun _ => true) true n 27 (([c0, c1, c2, c3].drop 3).take (Tryd.prog.cellsOf 27)) = ys[2]? := hf 2 _ rfl
    rw [c22] at h0
    rw [c24] at h1
    rw [c27] at h2
    have hy3 : ys.length = 3 := hyl
    rw [List.getElem?_eq_getElem (by omega)] at h0 h1 h2
    replace h0 : DataW.trod enc Tryd.prog w 0 (fun _ => true) true n 22 [c0] = _ := h0
    replace h1 : DataW.trod enc Tryd.prog w 0 (fun _ => true) true n 24 [c1, c2] = _ := h1
    replace h2 : DataW.trod enc Tryd.prog w 0 (fun _ => true) true n 27 [c3] = _ := h2
    obtain ⟨a, ha, _, wa⟩ := DataW.trod_int Tryd.underlying22 h0
    obtain ⟨b, r, hbr, wb, _, _⟩ := open_ballot h1 rfl
    obtain ⟨A, c, l, hle, hlc, hC, hb⟩ := open_bytes h2
    simp only [List.cons.injEq, and_true] at ha hbr hle
    obtain ⟨hb1, hb2⟩ := hbr
    subst ha hb1 hb2 hle
    exact ⟨⟨a, ⟨b, r⟩, l⟩, k52_mk w ⟨a, ⟨b, r⟩, l⟩ hlc hC, ⟨wf_u64 wa, wb⟩, hb⟩
theorem cons_of {l : List Value} {n : Nat} (h : l.length = n + 1) : ∃ a t, l = a :: t ∧ t.length = n := by
  cases l with
  | nil => cases h
  | cons a t => exact ⟨a, t, rfl, Nat.succ.inj h⟩
theorem nine_of {l : List Value} (h : l.length = 9) : ∃ a b c d e f g i j, l = [a, b, c, d, e, f, g, i, j] := by
  obtain ⟨x0, l0, rfl, h0⟩ := cons_of h
  obtain ⟨x1, l1, rfl, h1⟩ := cons_of h0
  obtain ⟨x2, l2, rfl, h2⟩ := cons_of h1
  obtain ⟨x3, l3, rfl, h3⟩ := cons_of h2
  obtain ⟨x4, l4, rfl, h4⟩ := cons_of h3
  obtain ⟨x5, l5, rfl, h5⟩ := cons_of h4
  obtain ⟨x6, l6, rfl, h6⟩ := cons_of h5
  obtain ⟨x7, l7, rfl, h7⟩ := cons_of h6
  obtain ⟨x8, l8, rfl, h8⟩ := cons_of h7
  obtain rfl := List.length_eq_zero_iff.mp h8
  exact ⟨x0, x1, x2, x3, x4, x5, x6, x7, x8, rfl⟩
structure Rng (m : Mg) (k : Nat) : Prop where
  n : U m.n
  first : U m.first
  last : U m.last
  commit : U m.commit
  V : ∀ x ∈ m.V, UV x ∧ Bys x.f2
  B : ∀ x ∈ m.B, Bys x
  S : Bys m.S
  hk : m.k = k
  k8 : k < 256
theorem Rng.whole {m : Mg} {k : Nat} (h : Rng m k) (hs : Small m) : Whole m k :=
  ⟨⟨h.n, h.first, h.last, h.commit, fun x hx => (h.V x hx).1, by have := hs.nV; unfold Fits; omega, by have := hs.nB; unfold Fits; omega⟩, h.hk, h.k8⟩
set_option maxRecDepth 100000 in
theorem open_msg {r : Reach} {b0 : Nat} {v : Value} {d : DataW H} {p : List MemPlace} (hv : Value.okWide Tryd.prog w r b0 29 v) (h : DataW.Trod enc Tryd.prog w 0 (fun _ => true) true 29 v d p) :
    ∃ (m : Mg) (k : Nat) (A6 A7 A8 : Option Addr) (c6 c7 c8 : Nat), v = Value.agg (m.cells A6 A7 A8 c6 c7 c8) ∧ Lies m w A6 A7 A8 c6 c7 c8 ∧ Rng m k := by
  obtain ⟨cs, hcs, hsz⟩ := okWide_struct (P := Tryd.prog) (w := w) (r := r) (base := b0) (t := 29) (v := v) Tryd.underlying29 hv
  subst hcs
  have h9 : Tryd.prog.cellsOf 29 = 9 := by kernel_rfl
  rw [h9] at hsz
  obtain ⟨l⟩ := cs
  obtain ⟨c0, c1, c2, c3, c4, c5, c6, c7, c8, rfl⟩ := nine_of hsz
  obtain ⟨fuel, hf0⟩ := h
  obtain ⟨ys, n, _, _, _, hyl, hf⟩ := DataW.trod_struct Tryd.underlying29 hf0
  have c5_ : Tryd.prog.cellsOf 5 = 1 := by kernel_rfl
  have c22 : Tryd.prog.cellsOf 22 = 1 := by kernel_rfl
  have c24 : Tryd.prog.cellsOf 24 = 2 := by kernel_rfl
  have c25 : Tryd.prog.cellsOf 25 = 1 := by kernel_rfl
  have c26 : Tryd.prog.cellsOf 26 = 1 := by kernel_rfl
  have c27 : Tryd.prog.cellsOf 27 = 1 := by kernel_rfl
  have hy8 : ys.length = 8 := hyl
  have h0 : DataW.trod enc Tryd.prog w 0 (fun _ => true) true n 5 (([c0, c1, c2, c3, c4, c5, c6, c7, c8].drop 0).take (Tryd.prog.cellsOf 5)) = ys[0]? := hf 0 _ rfl
  have h1 : DataW.trod enc Tryd.prog w 0 (fun _ => true) true n 24 (([c0, c1, c2, c3, c4, c5, c6, c7, c8].drop 1).take (Tryd.prog.cellsOf 24)) = ys[1]? := hf 1 _ rfl
  have h2 : DataW.trod enc Tryd.prog w 0 (fun _ => true) true n 22 (([c0, c1, c2, c3, c4, c5, c6, c7, c8].drop 3).take (Tryd.prog.cellsOf 22)) = ys[2]? := hf 2 _ rfl
  have h3 : DataW.trod enc Tryd.prog w 0 (fun _ => true) true n 22 (([c0, c1, c2, c3, c4, c5, c6, c7, c8].drop 4).take (Tryd.prog.cellsOf 22)) = ys[3]? := hf 3 _ rfl
  have h4 : DataW.trod enc Tryd.prog w 0 (fun _ => true) true n 22 (([c0, c1, c2, c3, c4, c5, c6, c7, c8].drop 5).take (Tryd.prog.cellsOf 22)) = ys[4]? := hf 4 _ rfl
  have h5 : DataW.trod enc Tryd.prog w 0 (fun _ => true) true n 25 (([c0, c1, c2, c3, c4, c5, c6, c7, c8].drop 6).take (Tryd.prog.cellsOf 25)) = ys[5]? := hf 5 _ rfl
  have h6 : DataW.trod enc Tryd.prog w 0 (fun _ => true) true n 26 (([c0, c1, c2, c3, c4, c5, c6, c7, c8].drop 7).take (Tryd.prog.cellsOf 26)) = ys[6]? := hf 6 _ rfl
  have h7 : DataW.trod enc Tryd.prog w 0 (fun _ => true) true n 27 (([c0, c1, c2, c3, c4, c5, c6, c7, c8].drop 8).take (Tryd.prog.cellsOf 27)) = ys[7]? := hf 7 _ rfl
  rw [c5_] at h0
  rw [c24] at h1
  rw [c22] at h2 h3 h4
  rw [c25] at h5
  rw [c26] at h6
  rw [c27] at h7
  rw [List.getElem?_eq_getElem (by omega)] at h0 h1 h2 h3 h4 h5 h6 h7
  replace h0 : DataW.trod enc Tryd.prog w 0 (fun _ => true) true n 5 [c0] = _ := h0
  replace h1 : DataW.trod enc Tryd.prog w 0 (fun _ => true) true n 24 [c1, c2] = _ := h1
  replace h2 : DataW.trod enc Tryd.prog w 0 (fun _ => true) true n 22 [c3] = _ := h2
  replace h3 : DataW.trod enc Tryd.prog w 0 (fun _ => true) true n 22 [c4] = _ := h3
  replace h4 : DataW.trod enc Tryd.prog w 0 (fun _ => true) true n 22 [c5] = _ := h4
  replace h5 : DataW.trod enc Tryd.prog w 0 (fun _ => true) true n 25 [c6] = _ := h5
  replace h6 : DataW.trod enc Tryd.prog w 0 (fun _ => true) true n 26 [c7] = _ := h6
  replace h7 : DataW.trod enc Tryd.prog w 0 (fun _ => true) true n 27 [c8] = _ := h7
  obtain ⟨k, e0, _, w0⟩ := DataW.trod_int Tryd.underlying5 h0
  obtain ⟨bn, br, e1, w1, _, _⟩ := open_ballot h1 rfl
  obtain ⟨f, e2, _, w2⟩ := DataW.trod_int Tryd.underlying22 h2
  obtain ⟨la, e3, _, w3⟩ := DataW.trod_int Tryd.underlying22 h3
  obtain ⟨co, e4, _, w4⟩ := DataW.trod_int Tryd.underlying22 h4
  obtain ⟨A6, d6, V, e5, l6, r6, g6⟩ := slice_C k52 (fun x => UV x ∧ Bys x.f2) Tryd.underlying25 (by kernel_rfl) (fun n cs x hl h => open_vote hl h) h5
  obtain ⟨A7, d7, B, e6, l7, r7, g7⟩ := open_rows h6
  obtain ⟨A8, d8, S, e7, l8, r8, g8⟩ := open_bytes h7
  simp only [List.cons.injEq, and_true] at e0 e1 e2 e3 e4 e5 e6 e7
  obtain ⟨e1, e1b⟩ := e1
  subst e0 e1 e1b e2 e3 e4 e5 e6 e7
  have hk := wf_u8 w0
  exact ⟨⟨k, bn, br, f, la, co, V, B, S⟩, k.toNat, A6, A7, A8, d6, d7, d8, rfl, ⟨⟨r6, r7, r8⟩, l6, l7, l8⟩, ⟨w1, wf_u64 w2, wf_u64 w3, wf_u64 w4, g6, g7, g8, (Int.toNat_of_nonneg hk.1).symm, by omega⟩⟩
end
end Go.Proofs.YtfkfboigkpofkaaDoor.M
end
