/- Parts of a proof, pruned and joined by flat.py out of: MXc. -/
import Derived.Test.YtfkfboigkpofkaaDoorCOwn10
section
namespace Go.Proofs.YtfkfboigkpofkaaDoor.M
open Go.RowKit Go.Proofs.YtfkfboigkpofkaaDoorW.PrintWords Go.Proofs.YtfkfboigkpofkaaDoorW.PrintLast Go.Proofs.YtfkfboigkpofkaaDoorW.PrintMore Go.Proofs.YtfkfboigkpofkaaDoor.PMsgPuts
set_option linter.unusedVariables false
set_option linter.unusedSimpArgs false
theorem lists_l0v (V : List S52) (hV : V.length < 9223372036854775807) : ∀ (d i k : Nat) (a : Int), i + d = V.length → d + 1 ≤ k → msg_lists.l0 k a V (V.length : Int) (i : Int) = some (votesB a (V.drop i))
  | 0, i, k, a, hi, hk => by
    obtain ⟨k', rfl⟩ : ∃ k', k = k' + 1 := ⟨k - 1, by omega⟩
    rw [msg_lists.l0, if_neg (by omega), List.drop_of_length_le (by omega)]
    rfl
  | d + 1, i, k, a, hi, hk => by
    obtain ⟨k', rfl⟩ : ∃ k', k = k' + 1 := ⟨k - 1, by omega⟩
    have hil : i < V.length := by omega
    have hw : wrap64 ((i : Int) + 1) = ((i + 1 : Nat) : Int) := by unfold wrap64; omega
    have hp : ∀ x y : Int, msg_place.f x y = some (placeB y) := by
      intro x y
      unfold msg_place.f placeB
      by_cases h : y ≥ 0
      · rw [if_pos h]
        congr 1
        simp [h]
      · rw [if_neg h]
        congr 1
        simp
        omega
    rw [msg_lists.l0, if_pos (by omega), if_pos (by omega), if_pos (by omega), rdT_at _ _ hil, hp, hw, List.drop_eq_getElem_cons hil]
    show _ = some (decide (a < V[i].f0) && placeB V[i].f1.f1 && votesB V[i].f0 (V.drop (i + 1)))
    by_cases h1 : V[i].f0 ≤ a
    · rw [if_pos h1, decide_eq_false (by omega)]
      rfl
    · rw [if_neg h1, decide_eq_true (by omega), Option.bind_some]
      by_cases h2 : placeB V[i].f1.f1 = true
      · rw [if_pos h2, h2, lists_l0v V hV d (i + 1) k' V[i].f0 (by omega) (by omega)]
        rfl
      · rw [if_neg h2, Bool.eq_false_iff.mpr h2]
        rfl
def overB (first : Int) (nb : Nat) : Bool := nb == 0 || !decide (IntKind.u64.wrap (IntKind.u64.wrap (first + IntKind.u64.wrap (nb : Int)) - 1) < first)
theorem lists_law (m : Mg) (hf : Fits m.V.length) (hfB : m.B.length < 9223372036854775807) : listsB m = (decide (m.B.length ≤ 16) && decide (m.V.length ≤ 256) && (!(m.k == 7) || !(m.B.length == 0)) && overB m.first m.B.length && votesB m.commit m.V) := by
  have h0 := lists_l0v m.V (by unfold Fits at hf; omega) m.V.length 0 (m.V.length + 1) m.commit (by omega) (by omega)
  rw [List.drop_zero] at h0
  have h1 : ∀ b, msg_lists.j1 (m.V.length + 2) b m.k m.n m.r m.first m.last m.commit m.V m.B m.S = some (!b && votesB m.commit m.V) := by
    intro b
    cases b
    · rw [msg_lists.j1, if_neg (by decide)]
      exact h0
    · rw [msg_lists.j1, if_pos rfl]
      rfl
  have hw : IntKind.u64.wrap (m.B.length : Int) = m.B.length := by rw [IntKind.wrap_u64]; omega
  have h2 : ∀ b, msg_lists.j0 (m.V.length + 3) b m.k m.n m.r m.first m.last m.commit m.V m.B m.S = some (!b && (overB m.first m.B.length && votesB m.commit m.V)) := by
    intro b
    cases b
    · rw [msg_lists.j0, if_neg (by decide), hw]
      unfold overB
      by_cases hn : m.B.length = 0
      · rw [if_neg (by omega), h1, hn]
        rfl
      · rw [if_pos (by omega), h1, beq_eq_false_iff_ne.mpr hn, hw]
        rfl
    · rw [msg_lists.j0, if_pos rfl]
      rfl
  have hl := lists_eq m hf
  apply Option.some.inj
  rw [← hl]
  unfold msg_lists.f
  by_cases c1 : m.B.length ≤ 16
  · rw [if_neg (by omega), decide_eq_true c1]
    by_cases c2 : m.V.length ≤ 256
    · rw [if_neg (by omega), decide_eq_true c2]
      by_cases c3 : m.k = 7
      · rw [if_pos c3, h2, c3]
        have e : ((m.B.length : Int) == 0) = (m.B.length == 0) := by
          by_cases hn : m.B.length = 0
          · rw [hn]; rfl
          · rw [beq_eq_false_iff_ne.mpr hn, beq_eq_false_iff_ne.mpr (by omega)]
        rw [e]
        generalize (m.B.length == 0) = b
        cases b <;> simp
      · rw [if_neg c3, h2, beq_eq_false_iff_ne.mpr c3]
        simp
    · rw [if_pos (by omega), h2, decide_eq_false c2]
      simp
  · rw [if_pos (by omega), h2, decide_eq_false c1]
    simp
end Go.Proofs.YtfkfboigkpofkaaDoor.M
end
