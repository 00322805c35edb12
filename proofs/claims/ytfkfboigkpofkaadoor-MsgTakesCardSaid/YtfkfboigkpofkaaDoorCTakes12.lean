/- Parts of a proof, pruned and joined by flat.py out of: MWb, MWc, MWd, MWe, MWf. -/
import Derived.Test.YtfkfboigkpofkaaDoorCTakes11
section
namespace Go.Proofs.YtfkfboigkpofkaaDoor.M
open Go.RowKit Go.Proofs.YtfkfboigkpofkaaDoorW.PrintWords Go.Proofs.YtfkfboigkpofkaaDoorW.PrintLast Go.Proofs.YtfkfboigkpofkaaDoorW.PrintMore Go.Proofs.YtfkfboigkpofkaaDoor.PMsgPuts
set_option linter.unusedVariables false
set_option linter.unusedSimpArgs false
set_option maxHeartbeats 4000000 in
set_option maxRecDepth 100000 in
theorem may_2 (n r first last commit : Int) (A6 A7 A8 : Option Addr) (nb ns c6 c7 c8 : Nat) (w : World) (V : List S52) (hr0 : Kd.C k52 w A6 V.length V) (hfv : V.length < 9223372036854775807) (hfb : nb < 9223372036854775807) :
    Calls Tryd.prog 14 #[refV 2 n r first last commit (.slice A6 V.length c6) (.slice A7 nb c7) (.slice A8 ns c8)] w fun e w' => e = .returned (.bool (mayB 2 n r first last commit V.length nb ns (votesB commit V))) ∧ Below w.heap.size w w' := by
  have Hr := Aside0.mk hr0
  clear hr0
  have hk : Aside0 (knownB 2 = true) := ⟨by decide⟩
  have hb : hasI 2 98 = true := by decide
  have hc : hasI 2 99 = true := by decide
  have hl : hasI 2 108 = false := by decide
  have hf : hasI 2 102 = false := by decide
  have hpp : hasI 2 112 = false := by decide
  have hs : hasI 2 115 = false := by decide
  have hv : hasI 2 118 = true := by decide
  by_cases hp : placeB r = true
  rotate_left
  · replace hp : placeB r = false := by simpa using hp
    go_enter Tryd.func14, Tryd.ntmps14
    repeat' (first | (go_at_call 28; refine (fields_calls 2 _ rfl _).mono ?_; rintro e w' ⟨rfl, rfl⟩; rw [show fldS 2 = ⟨#[98, 99, 118]⟩ from rfl]; dsimp only) | (go_at_call 29; refine (place29 _ _ _).mono ?_; rintro e w' ⟨rfl, rfl⟩; dsimp only) | (go_at_call 30; refine (has_calls 2 _ _ rfl _).mono ?_; rintro e w' ⟨rfl, rfl⟩; dsimp only) | go_values | go_skip | go_guarded | go_step)
    go_ret
    exact ⟨boolF (by simp [mayB, hp]), (by first | exact bel2 _ _ _ | exact bel1 _ _)⟩
  by_cases el : last = 0
  rotate_left
  · have el' : (last == 0) = false := by simpa using el
    go_enter Tryd.func14, Tryd.ntmps14
    repeat' (first | (go_at_call 28; refine (fields_calls 2 _ rfl _).mono ?_; rintro e w' ⟨rfl, rfl⟩; rw [show fldS 2 = ⟨#[98, 99, 118]⟩ from rfl]; dsimp only) | (go_at_call 29; refine (place29 _ _ _).mono ?_; rintro e w' ⟨rfl, rfl⟩; dsimp only) | (go_at_call 30; refine (has_calls 2 _ _ rfl _).mono ?_; rintro e w' ⟨rfl, rfl⟩; dsimp only) | go_values | go_skip | go_guarded | go_step)
    go_ret
    exact ⟨boolF (by simp [mayB, el, hl]), (by first | exact bel2 _ _ _ | exact bel1 _ _)⟩
  subst el
  by_cases ef : first = 0
  rotate_left
  · have ef' : (first == 0) = false := by simpa using ef
    go_enter Tryd.func14, Tryd.ntmps14
    repeat' (first | (go_at_call 28; refine (fields_calls 2 _ rfl _).mono ?_; rintro e w' ⟨rfl, rfl⟩; rw [show fldS 2 = ⟨#[98, 99, 118]⟩ from rfl]; dsimp only) | (go_at_call 29; refine (place29 _ _ _).mono ?_; rintro e w' ⟨rfl, rfl⟩; dsimp only) | (go_at_call 30; refine (has_calls 2 _ _ rfl _).mono ?_; rintro e w' ⟨rfl, rfl⟩; dsimp only) | go_values | go_skip | go_guarded | go_step)
    go_ret
    exact ⟨boolF (by simp [mayB, ef, hf]), (by first | exact bel2 _ _ _ | exact bel1 _ _)⟩
  subst ef
  by_cases ens : ns = 0
  rotate_left
  · replace ens : 0 < ns := by omega
    go_enter Tryd.func14, Tryd.ntmps14
    repeat' (first | (go_at_call 28; refine (fields_calls 2 _ rfl _).mono ?_; rintro e w' ⟨rfl, rfl⟩; rw [show fldS 2 = ⟨#[98, 99, 118]⟩ from rfl]; dsimp only) | (go_at_call 29; refine (place29 _ _ _).mono ?_; rintro e w' ⟨rfl, rfl⟩; dsimp only) | (go_at_call 30; refine (has_calls 2 _ _ rfl _).mono ?_; rintro e w' ⟨rfl, rfl⟩; dsimp only) | go_values | go_skip | go_guarded | go_step)
    go_ret
    exact ⟨boolF (by simp [mayB, Nat.ne_of_gt ens, hpp]), (by first | exact bel2 _ _ _ | exact bel1 _ _)⟩
  subst ens
  by_cases enb : nb = 0
  rotate_left
  · replace enb : 0 < nb := by omega
    go_enter Tryd.func14, Tryd.ntmps14
    repeat' (first | (go_at_call 28; refine (fields_calls 2 _ rfl _).mono ?_; rintro e w' ⟨rfl, rfl⟩; rw [show fldS 2 = ⟨#[98, 99, 118]⟩ from rfl]; dsimp only) | (go_at_call 29; refine (place29 _ _ _).mono ?_; rintro e w' ⟨rfl, rfl⟩; dsimp only) | (go_at_call 30; refine (has_calls 2 _ _ rfl _).mono ?_; rintro e w' ⟨rfl, rfl⟩; dsimp only) | go_values | go_skip | go_guarded | go_step)
    go_ret
    exact ⟨boolF (by simp [mayB, Nat.ne_of_gt enb, hs]), (by first | exact bel2 _ _ _ | exact bel1 _ _)⟩
  subst enb
  by_cases e256 : V.length ≤ 256
  rotate_left
  · replace e256 : 256 < V.length := by omega
    go_enter Tryd.func14, Tryd.ntmps14
    repeat' (first | (go_at_call 28; refine (fields_calls 2 _ rfl _).mono ?_; rintro e w' ⟨rfl, rfl⟩; rw [show fldS 2 = ⟨#[98, 99, 118]⟩ from rfl]; dsimp only) | (go_at_call 29; refine (place29 _ _ _).mono ?_; rintro e w' ⟨rfl, rfl⟩; dsimp only) | (go_at_call 30; refine (has_calls 2 _ _ rfl _).mono ?_; rintro e w' ⟨rfl, rfl⟩; dsimp only) | go_values | go_skip | go_guarded | go_step)
    go_ret
    exact ⟨boolF (by simp [mayB, show ¬ V.length ≤ 256 by omega]), (by first | exact bel2 _ _ _ | exact bel1 _ _)⟩
  go_enter Tryd.func14, Tryd.ntmps14
  repeat' (first | (go_at_call 28; refine (fields_calls 2 _ rfl _).mono ?_; rintro e w' ⟨rfl, rfl⟩; rw [show fldS 2 = ⟨#[98, 99, 118]⟩ from rfl]; dsimp only) | (go_at_call 29; refine (place29 _ _ _).mono ?_; rintro e w' ⟨rfl, rfl⟩; dsimp only) | (go_at_call 30; refine (has_calls 2 _ _ rfl _).mono ?_; rintro e w' ⟨rfl, rfl⟩; dsimp only) | go_values | go_skip | go_guarded | go_step)
  have hM := Aside0.mk (show mayB 2 n r 0 0 commit V.length 0 0 (votesB commit V) = votesB commit V by simp [mayB, hk.out, hb, hc, hf, hl, hpp, hs, hv, hp, e256])
  go_loopg [3, 4] V.length (fun kq v3 v4 w' => ∃ j : Nat, v3 = .int .i64 j ∧ Aside0 (kq + j = V.length) ∧ Aside0 (votesB commit V = votesB (abv commit V j) (V.drop j)) ∧ Aside0 (Below w.heap.size w w') ∧ Aside0 (w'.heap[w.heap.size]? = some (.cells #[.int .i64 2, .int .u64 n, .int .i64 r, .int .u64 0, .int .u64 0, .int .u64 commit, .slice A6 V.length c6, .slice A7 0 c7, .slice A8 0 c8] 39 (0, 0))))
  case atStart => exact ⟨0, rfl, ⟨rfl⟩, ⟨rfl⟩, ⟨bel2 _ _ _⟩, ⟨blk_alloc (heap_alloc_new w _) _⟩⟩
  case round =>
    obtain ⟨j, rfl, hq, hE, hB, hX⟩ := hrel
    have hz := (blk_cell hX.out 6).trans rfl
    have hz5 := (blk_cell hX.out 5).trans rfl
    cases gk with
    | zero =>
      have c1 : decide (j < V.length) = false := decide_eq_false (by have := hq.out; omega)
      go_wp2
      go_ret
      exact ⟨boolT (by rw [hM.out, hE.out, List.drop_of_length_le (by have := hq.out; omega)]; rfl), hB.out⟩
    | succ k2 =>
      have hj : j < V.length := by have := hq.out; omega
      have c1 : decide (j < V.length) = true := decide_eq_true hj
      have p0 : 0 ≤ (j : Int) := by omega
      have q0 : (j : Int) < (V.length : Int) := by omega
      have hS := Aside0.mk (votes_step commit V j hj)
      obtain ⟨ad1, B1, e1, rfl, hx1, hx2, hx3, _, _, _⟩ := at_T52 Hr.out (j : Int) p0 q0
      replace hx1 := pw_cell_below hB.out hx1
      replace hx2 := pw_cell_below hB.out hx2
      replace hx3 := pw_cell_below hB.out hx3
      rw [Int.toNat_natCast] at hx1 hx2 hx3
      have hw : (j : Int) < 9223372036854775806 := by omega
      replace p0 := eq_true p0
      replace q0 := eq_true q0
      rcases j with _ | j'
      · skip
        have hS2 := Aside0.mk (show votesB commit V = (decide (commit < (rd_T52 V ((0 : Nat) : Int)).f0) && placeB (rd_T52 V ((0 : Nat) : Int)).f1.f1 && votesB (abv commit V (0 + 1)) (V.drop (0 + 1))) from hE.out.trans hS.out)
        clear hE hS
        rw [show ad1.add (0 * 4) = ad1 by simp [Addr.add]] at hx1 hx2 hx3
        rw [show (((0 : Nat) : Int)) = 0 from rfl]
        generalize hx : rd_T52 V ((0 : Nat) : Int) = x at hS2 hx1 hx2 hx3
        clear hx
        by_cases hle : x.f0 ≤ commit
        · have hF := Aside0.mk (show votesB commit V = false by rw [hS2.out, decide_eq_false (by omega)]; rfl)
          repeat' (first | (go_at_call 28; refine (fields_calls 2 _ rfl _).mono ?_; rintro e w' ⟨rfl, rfl⟩; rw [show fldS 2 = ⟨#[98, 99, 118]⟩ from rfl]; dsimp only) | (go_at_call 29; refine (place29 _ _ _).mono ?_; rintro e w' ⟨rfl, rfl⟩; dsimp only) | (go_at_call 30; refine (has_calls 2 _ _ rfl _).mono ?_; rintro e w' ⟨rfl, rfl⟩; dsimp only) | go_values | go_skip | go_guarded | go_step)
          go_ret
          exact ⟨boolF (by rw [hM.out, hF.out]), hB.out⟩
        have hlt : commit < x.f0 := by omega
        clear hle
        by_cases hp2 : placeB x.f1.f1 = true
        rotate_left
        · replace hp2 : placeB x.f1.f1 = false := by simpa using hp2
          have hF := Aside0.mk (show votesB commit V = false by rw [hS2.out, hp2]; simp)
          repeat' (first | (go_at_call 28; refine (fields_calls 2 _ rfl _).mono ?_; rintro e w' ⟨rfl, rfl⟩; rw [show fldS 2 = ⟨#[98, 99, 118]⟩ from rfl]; dsimp only) | (go_at_call 29; refine (place29 _ _ _).mono ?_; rintro e w' ⟨rfl, rfl⟩; dsimp only) | (go_at_call 30; refine (has_calls 2 _ _ rfl _).mono ?_; rintro e w' ⟨rfl, rfl⟩; dsimp only) | go_values | go_skip | go_guarded | go_step)
          go_ret
          exact ⟨boolF (by rw [hM.out, hF.out]), below_alloc hB.out _⟩
        have hN := Aside0.mk (show votesB commit V = votesB (abv commit V (0 + 1)) (V.drop (0 + 1)) by rw [hS2.out, decide_eq_true hlt, hp2]; rfl)
        repeat' (first | (go_at_call 28; refine (fields_calls 2 _ rfl _).mono ?_; rintro e w' ⟨rfl, rfl⟩; rw [show fldS 2 = ⟨#[98, 99, 118]⟩ from rfl]; dsimp only) | (go_at_call 29; refine (place29 _ _ _).mono ?_; rintro e w' ⟨rfl, rfl⟩; dsimp only) | (go_at_call 30; refine (has_calls 2 _ _ rfl _).mono ?_; rintro e w' ⟨rfl, rfl⟩; dsimp only) | go_values | go_skip | go_guarded | go_step)
        go_roundg k2
        case measure => omega
        case rel => exact ⟨0 + 1, by first | go_num | rw [show i + 1 = (((j' + 1 + 1 : Nat)) : Int) by have := HI.out; omega], ⟨by have := hq.out; omega⟩, hN, ⟨below_alloc hB.out _⟩, ⟨blk_alloc hX.out _⟩⟩
      · skip
        have hS2 := Aside0.mk (show votesB commit V = (decide ((rd_T52 V (j' : Int)).f0 < (rd_T52 V ((j' + 1 : Nat) : Int)).f0) && placeB (rd_T52 V ((j' + 1 : Nat) : Int)).f1.f1 && votesB (abv commit V (j' + 1 + 1)) (V.drop (j' + 1 + 1))) from by have h := hE.out.trans hS.out; rw [abv_succ commit V j'] at h; exact h)
        clear hE hS
        have p9 : 0 ≤ (j' : Int) := by omega
        have q9 : (j' : Int) < (V.length : Int) := by omega
        obtain ⟨ad9, B9, e9, he9, hy1, _, _, _, _, _⟩ := at_T52 Hr.out (j' : Int) p9 q9
        cases he9
        replace hy1 := pw_cell_below hB.out hy1
        rw [Int.toNat_natCast] at hy1
        replace p9 := eq_true p9
        replace q9 := eq_true q9
        clear p0 q0 hw c1
        obtain ⟨i, hi⟩ : ∃ i : Int, i = ((j' + 1 : Nat) : Int) := ⟨_, rfl⟩
        rw [← hi]
        have HI := Aside0.mk hi
        have hm1 : i - 1 = (j' : Int) := by omega
        have ht : i.toNat = j' + 1 := by omega
        have hgt : 0 < i := by omega
        have hge : 0 ≤ i := by omega
        have hlt1 : i < (V.length : Int) := by omega
        have hw : i < 9223372036854775806 := by omega
        have c1 : decide (i < (V.length : Int)) = true := decide_eq_true hlt1
        clear hi
        generalize hx : rd_T52 V ((j' + 1 : Nat) : Int) = x at hS2 hx1 hx2 hx3
        clear hx
        by_cases hle : x.f0 ≤ (rd_T52 V (j' : Int)).f0
        · have hF := Aside0.mk (show votesB commit V = false by rw [hS2.out, decide_eq_false (by omega)]; rfl)
          repeat' (first | (go_at_call 28; refine (fields_calls 2 _ rfl _).mono ?_; rintro e w' ⟨rfl, rfl⟩; rw [show fldS 2 = ⟨#[98, 99, 118]⟩ from rfl]; dsimp only) | (go_at_call 29; refine (place29 _ _ _).mono ?_; rintro e w' ⟨rfl, rfl⟩; dsimp only) | (go_at_call 30; refine (has_calls 2 _ _ rfl _).mono ?_; rintro e w' ⟨rfl, rfl⟩; dsimp only) | go_values | go_skip | go_guarded | go_step)
          go_ret
          exact ⟨boolF (by rw [hM.out, hF.out]), hB.out⟩
        have hlt : (rd_T52 V (j' : Int)).f0 < x.f0 := by omega
        clear hle
        by_cases hp2 : placeB x.f1.f1 = true
        rotate_left
        · replace hp2 : placeB x.f1.f1 = false := by simpa using hp2
          have hF := Aside0.mk (show votesB commit V = false by rw [hS2.out, hp2]; simp)
          repeat' (first | (go_at_call 28; refine (fields_calls 2 _ rfl _).mono ?_; rintro e w' ⟨rfl, rfl⟩; rw [show fldS 2 = ⟨#[98, 99, 118]⟩ from rfl]; dsimp only) | (go_at_call 29; refine (place29 _ _ _).mono ?_; rintro e w' ⟨rfl, rfl⟩; dsimp only) | (go_at_call 30; refine (has_calls 2 _ _ rfl _).mono ?_; rintro e w' ⟨rfl, rfl⟩; dsimp only) | go_values | go_skip | go_guarded | go_step)
          go_ret
          exact ⟨boolF (by rw [hM.out, hF.out]), below_alloc hB.out _⟩
        have hN := Aside0.mk (show votesB commit V = votesB (abv commit V (j' + 1 + 1)) (V.drop (j' + 1 + 1)) by rw [hS2.out, decide_eq_true hlt, hp2]; rfl)
        repeat' (first | (go_at_call 28; refine (fields_calls 2 _ rfl _).mono ?_; rintro e w' ⟨rfl, rfl⟩; rw [show fldS 2 = ⟨#[98, 99, 118]⟩ from rfl]; dsimp only) | (go_at_call 29; refine (place29 _ _ _).mono ?_; rintro e w' ⟨rfl, rfl⟩; dsimp only) | (go_at_call 30; refine (has_calls 2 _ _ rfl _).mono ?_; rintro e w' ⟨rfl, rfl⟩; dsimp only) | go_values | go_skip | go_guarded | go_step)
        go_roundg k2
        case measure => omega
        case rel => exact ⟨j' + 1 + 1, by first | go_num | rw [show i + 1 = (((j' + 1 + 1 : Nat)) : Int) by have := HI.out; omega], ⟨by have := hq.out; omega⟩, hN, ⟨below_alloc hB.out _⟩, ⟨blk_alloc hX.out _⟩⟩
end Go.Proofs.YtfkfboigkpofkaaDoor.M
end
section
namespace Go.Proofs.YtfkfboigkpofkaaDoor.M
open Go.RowKit Go.Proofs.YtfkfboigkpofkaaDoorW.PrintWords Go.Proofs.YtfkfboigkpofkaaDoorW.PrintLast Go.Proofs.YtfkfboigkpofkaaDoorW.PrintMore Go.Proofs.YtfkfboigkpofkaaDoor.PMsgPuts
set_option linter.unusedVariables false
set_option linter.unusedSimpArgs false
set_option maxHeartbeats 4000000 in
set_option maxRecDepth 100000 in
theorem may_4 (n r first last commit : Int) (A6 A7 A8 : Option Addr) (nv nb ns c6 c7 c8 : Nat) (w : World) (hfv : nv < 9223372036854775807) (hfb : nb < 9223372036854775807) :
    Calls Tryd.prog 14 #[refV 4 n r first last commit (.slice A6 nv c6) (.slice A7 nb c7) (.slice A8 ns c8)] w fun e w' => e = .returned (.bool (mayB 4 n r first last commit nv nb ns true)) ∧ Below w.heap.size w w' := by
  have hk : Aside0 (knownB 4 = true) := ⟨by decide⟩
  have hb : hasI 4 98 = true := by decide
  have hc : hasI 4 99 = true := by decide
  have hl : hasI 4 108 = false := by decide
  have hf : hasI 4 102 = true := by decide
  have hpp : hasI 4 112 = false := by decide
  have hs : hasI 4 115 = true := by decide
  have hv : hasI 4 118 = false := by decide
  by_cases hp : placeB r = true
  rotate_left
  · replace hp : placeB r = false := by simpa using hp
    go_enter Tryd.func14, Tryd.ntmps14
    repeat' (first | (go_at_call 28; refine (fields_calls 4 _ rfl _).mono ?_; rintro e w' ⟨rfl, rfl⟩; rw [show fldS 4 = ⟨#[98, 99, 102, 115]⟩ from rfl]; dsimp only) | (go_at_call 29; refine (place29 _ _ _).mono ?_; rintro e w' ⟨rfl, rfl⟩; dsimp only) | (go_at_call 30; refine (has_calls 4 _ _ rfl _).mono ?_; rintro e w' ⟨rfl, rfl⟩; dsimp only) | go_values | go_skip | go_guarded | go_step)
    go_ret
    exact ⟨boolF (by simp [mayB, hp]), (by first | exact bel2 _ _ _ | exact bel1 _ _)⟩
  by_cases el : last = 0
  rotate_left
  · have el' : (last == 0) = false := by simpa using el
    go_enter Tryd.func14, Tryd.ntmps14
    repeat' (first | (go_at_call 28; refine (fields_calls 4 _ rfl _).mono ?_; rintro e w' ⟨rfl, rfl⟩; rw [show fldS 4 = ⟨#[98, 99, 102, 115]⟩ from rfl]; dsimp only) | (go_at_call 29; refine (place29 _ _ _).mono ?_; rintro e w' ⟨rfl, rfl⟩; dsimp only) | (go_at_call 30; refine (has_calls 4 _ _ rfl _).mono ?_; rintro e w' ⟨rfl, rfl⟩; dsimp only) | go_values | go_skip | go_guarded | go_step)
    go_ret
    exact ⟨boolF (by simp [mayB, el, hl]), (by first | exact bel2 _ _ _ | exact bel1 _ _)⟩
  subst el
  by_cases ens : ns = 0
  rotate_left
  · replace ens : 0 < ns := by omega
    go_enter Tryd.func14, Tryd.ntmps14
    repeat' (first | (go_at_call 28; refine (fields_calls 4 _ rfl _).mono ?_; rintro e w' ⟨rfl, rfl⟩; rw [show fldS 4 = ⟨#[98, 99, 102, 115]⟩ from rfl]; dsimp only) | (go_at_call 29; refine (place29 _ _ _).mono ?_; rintro e w' ⟨rfl, rfl⟩; dsimp only) | (go_at_call 30; refine (has_calls 4 _ _ rfl _).mono ?_; rintro e w' ⟨rfl, rfl⟩; dsimp only) | go_values | go_skip | go_guarded | go_step)
    go_ret
    exact ⟨boolF (by simp [mayB, Nat.ne_of_gt ens, hpp]), (by first | exact bel2 _ _ _ | exact bel1 _ _)⟩
  subst ens
  by_cases env : nv = 0
  rotate_left
  · replace env : 0 < nv := by omega
    go_enter Tryd.func14, Tryd.ntmps14
    repeat' (first | (go_at_call 28; refine (fields_calls 4 _ rfl _).mono ?_; rintro e w' ⟨rfl, rfl⟩; rw [show fldS 4 = ⟨#[98, 99, 102, 115]⟩ from rfl]; dsimp only) | (go_at_call 29; refine (place29 _ _ _).mono ?_; rintro e w' ⟨rfl, rfl⟩; dsimp only) | (go_at_call 30; refine (has_calls 4 _ _ rfl _).mono ?_; rintro e w' ⟨rfl, rfl⟩; dsimp only) | go_values | go_skip | go_guarded | go_step)
    go_ret
    exact ⟨boolF (by simp [mayB, Nat.ne_of_gt env, hv]), (by first | exact bel2 _ _ _ | exact bel1 _ _)⟩
  subst env
  by_cases ef : first = 0
  · subst ef
    go_enter Tryd.func14, Tryd.ntmps14
    repeat' (first | (go_at_call 28; refine (fields_calls 4 _ rfl _).mono ?_; rintro e w' ⟨rfl, rfl⟩; rw [show fldS 4 = ⟨#[98, 99, 102, 115]⟩ from rfl]; dsimp only) | (go_at_call 29; refine (place29 _ _ _).mono ?_; rintro e w' ⟨rfl, rfl⟩; dsimp only) | (go_at_call 30; refine (has_calls 4 _ _ rfl _).mono ?_; rintro e w' ⟨rfl, rfl⟩; dsimp only) | go_values | go_skip | go_guarded | go_step)
    go_ret
    exact ⟨boolF (by simp [mayB, hf]), (by first | exact bel2 _ _ _ | exact bel1 _ _)⟩
  have ef' : (first == 0) = false := by simpa using ef
  by_cases e16 : nb ≤ 16
  rotate_left
  · replace e16 : 16 < nb := by omega
    go_enter Tryd.func14, Tryd.ntmps14
    repeat' (first | (go_at_call 28; refine (fields_calls 4 _ rfl _).mono ?_; rintro e w' ⟨rfl, rfl⟩; rw [show fldS 4 = ⟨#[98, 99, 102, 115]⟩ from rfl]; dsimp only) | (go_at_call 29; refine (place29 _ _ _).mono ?_; rintro e w' ⟨rfl, rfl⟩; dsimp only) | (go_at_call 30; refine (has_calls 4 _ _ rfl _).mono ?_; rintro e w' ⟨rfl, rfl⟩; dsimp only) | go_values | go_skip | go_guarded | go_step)
    go_ret
    exact ⟨boolF (by simp [mayB, show ¬ nb ≤ 16 by omega]), (by first | exact bel2 _ _ _ | exact bel1 _ _)⟩
  by_cases e1 : nb ≤ 1
  · skip
    go_enter Tryd.func14, Tryd.ntmps14
    repeat' (first | (go_at_call 28; refine (fields_calls 4 _ rfl _).mono ?_; rintro e w' ⟨rfl, rfl⟩; rw [show fldS 4 = ⟨#[98, 99, 102, 115]⟩ from rfl]; dsimp only) | (go_at_call 29; refine (place29 _ _ _).mono ?_; rintro e w' ⟨rfl, rfl⟩; dsimp only) | (go_at_call 30; refine (has_calls 4 _ _ rfl _).mono ?_; rintro e w' ⟨rfl, rfl⟩; dsimp only) | go_values | go_skip | go_guarded | go_step)
    go_loopg [3] 0 (fun kq v3 w' => v3 = .int .i64 0 ∧ Aside0 (Below w.heap.size w w') ∧ Aside0 (w'.heap[w.heap.size]? = some (.cells #[.int .i64 4, .int .u64 n, .int .i64 r, .int .u64 first, .int .u64 0, .int .u64 commit, .slice A6 0 c6, .slice A7 nb c7, .slice A8 0 c8] 39 (0, 0))))
    case atStart => exact ⟨rfl, ⟨bel2 _ _ _⟩, ⟨blk_alloc (heap_alloc_new w _) _⟩⟩
    case round =>
      obtain ⟨rfl, hB, hX⟩ := hrel
      have hz := (blk_cell hX.out 6).trans rfl
      go_wp2
      go_ret
      exact ⟨boolT (by have hk' := hk.out; simp [mayB, hk', hb, hc, hf, hl, hpp, hs, hv, hp, ef, e16, e1]), hB.out⟩
  · replace e1 : 1 < nb := by omega
    have e1z : (1 : Int) < nb := by omega
    have e1y : (0 : Int) ≤ (nb : Int) - 1 := by omega
    have e16z : (nb : Int) ≤ 16 := by omega
    go_enter Tryd.func14, Tryd.ntmps14
    repeat' (first | (go_at_call 28; refine (fields_calls 4 _ rfl _).mono ?_; rintro e w' ⟨rfl, rfl⟩; rw [show fldS 4 = ⟨#[98, 99, 102, 115]⟩ from rfl]; dsimp only) | (go_at_call 29; refine (place29 _ _ _).mono ?_; rintro e w' ⟨rfl, rfl⟩; dsimp only) | (go_at_call 30; refine (has_calls 4 _ _ rfl _).mono ?_; rintro e w' ⟨rfl, rfl⟩; dsimp only) | go_values | go_skip | go_guarded | go_step)
    · go_ret
      exact ⟨boolF (may_topN e1 (by assumption)), (by first | exact bel2 _ _ _ | exact bel1 _ _)⟩
    · skip
      have hh : first ≤ 18446744073709551615 - ((nb : Int) - 1) := by assumption
      have hH := Aside0.mk hh
      clear hh
      go_loopg [3] 0 (fun kq v3 w' => v3 = .int .i64 0 ∧ Aside0 (Below w.heap.size w w') ∧ Aside0 (w'.heap[w.heap.size]? = some (.cells #[.int .i64 4, .int .u64 n, .int .i64 r, .int .u64 first, .int .u64 0, .int .u64 commit, .slice A6 0 c6, .slice A7 nb c7, .slice A8 0 c8] 39 (0, 0))))
      case atStart => exact ⟨rfl, ⟨bel2 _ _ _⟩, ⟨blk_alloc (heap_alloc_new w _) _⟩⟩
      case round =>
        obtain ⟨rfl, hB, hX⟩ := hrel
        have hz := (blk_cell hX.out 6).trans rfl
        go_wp2
        go_ret
        exact ⟨boolT (by have hk' := hk.out; have hh := hH.out; have ht : first ≤ topU - ((nb : Int) - 1) := hh; simp [mayB, hk', hb, hc, hf, hl, hpp, hs, hv, hp, ef, e16, e1, ht]), hB.out⟩
set_option maxHeartbeats 4000000 in
set_option maxRecDepth 100000 in
theorem may_3 (n r first last commit : Int) (A6 A7 A8 : Option Addr) (nv nb ns c6 c7 c8 : Nat) (w : World) (hfv : nv < 9223372036854775807) (hfb : nb < 9223372036854775807) :
    Calls Tryd.prog 14 #[refV 3 n r first last commit (.slice A6 nv c6) (.slice A7 nb c7) (.slice A8 ns c8)] w fun e w' => e = .returned (.bool (mayB 3 n r first last commit nv nb ns true)) ∧ Below w.heap.size w w' := by
  have hk : Aside0 (knownB 3 = true) := ⟨by decide⟩
  have hb : hasI 3 98 = true := by decide
  have hc : hasI 3 99 = false := by decide
  have hl : hasI 3 108 = false := by decide
  have hf : hasI 3 102 = false := by decide
  have hpp : hasI 3 112 = false := by decide
  have hs : hasI 3 115 = false := by decide
  have hv : hasI 3 118 = false := by decide
  by_cases hp : placeB r = true
  rotate_left
  · replace hp : placeB r = false := by simpa using hp
    go_enter Tryd.func14, Tryd.ntmps14
    repeat' (first | (go_at_call 28; refine (fields_calls 3 _ rfl _).mono ?_; rintro e w' ⟨rfl, rfl⟩; rw [show fldS 3 = ⟨#[98]⟩ from rfl]; dsimp only) | (go_at_call 29; refine (place29 _ _ _).mono ?_; rintro e w' ⟨rfl, rfl⟩; dsimp only) | (go_at_call 30; refine (has_calls 3 _ _ rfl _).mono ?_; rintro e w' ⟨rfl, rfl⟩; dsimp only) | go_values | go_skip | go_guarded | go_step)
    go_ret
    exact ⟨boolF (by simp [mayB, hp]), (by first | exact bel2 _ _ _ | exact bel1 _ _)⟩
  by_cases ec : commit = 0
  rotate_left
  · have ec' : (commit == 0) = false := by simpa using ec
    go_enter Tryd.func14, Tryd.ntmps14
    repeat' (first | (go_at_call 28; refine (fields_calls 3 _ rfl _).mono ?_; rintro e w' ⟨rfl, rfl⟩; rw [show fldS 3 = ⟨#[98]⟩ from rfl]; dsimp only) | (go_at_call 29; refine (place29 _ _ _).mono ?_; rintro e w' ⟨rfl, rfl⟩; dsimp only) | (go_at_call 30; refine (has_calls 3 _ _ rfl _).mono ?_; rintro e w' ⟨rfl, rfl⟩; dsimp only) | go_values | go_skip | go_guarded | go_step)
    go_ret
    exact ⟨boolF (by simp [mayB, ec, hc]), (by first | exact bel2 _ _ _ | exact bel1 _ _)⟩
  subst ec
  by_cases el : last = 0
  rotate_left
  · have el' : (last == 0) = false := by simpa using el
    go_enter Tryd.func14, Tryd.ntmps14
    repeat' (first | (go_at_call 28; refine (fields_calls 3 _ rfl _).mono ?_; rintro e w' ⟨rfl, rfl⟩; rw [show fldS 3 = ⟨#[98]⟩ from rfl]; dsimp only) | (go_at_call 29; refine (place29 _ _ _).mono ?_; rintro e w' ⟨rfl, rfl⟩; dsimp only) | (go_at_call 30; refine (has_calls 3 _ _ rfl _).mono ?_; rintro e w' ⟨rfl, rfl⟩; dsimp only) | go_values | go_skip | go_guarded | go_step)
    go_ret
    exact ⟨boolF (by simp [mayB, el, hl]), (by first | exact bel2 _ _ _ | exact bel1 _ _)⟩
  subst el
  by_cases ef : first = 0
  rotate_left
  · have ef' : (first == 0) = false := by simpa using ef
    go_enter Tryd.func14, Tryd.ntmps14
    repeat' (first | (go_at_call 28; refine (fields_calls 3 _ rfl _).mono ?_; rintro e w' ⟨rfl, rfl⟩; rw [show fldS 3 = ⟨#[98]⟩ from rfl]; dsimp only) | (go_at_call 29; refine (place29 _ _ _).mono ?_; rintro e w' ⟨rfl, rfl⟩; dsimp only) | (go_at_call 30; refine (has_calls 3 _ _ rfl _).mono ?_; rintro e w' ⟨rfl, rfl⟩; dsimp only) | go_values | go_skip | go_guarded | go_step)
    go_ret
    exact ⟨boolF (by simp [mayB, ef, hf]), (by first | exact bel2 _ _ _ | exact bel1 _ _)⟩
  subst ef
  by_cases ens : ns = 0
  rotate_left
  · replace ens : 0 < ns := by omega
    go_enter Tryd.func14, Tryd.ntmps14
    repeat' (first | (go_at_call 28; refine (fields_calls 3 _ rfl _).mono ?_; rintro e w' ⟨rfl, rfl⟩; rw [show fldS 3 = ⟨#[98]⟩ from rfl]; dsimp only) | (go_at_call 29; refine (place29 _ _ _).mono ?_; rintro e w' ⟨rfl, rfl⟩; dsimp only) | (go_at_call 30; refine (has_calls 3 _ _ rfl _).mono ?_; rintro e w' ⟨rfl, rfl⟩; dsimp only) | go_values | go_skip | go_guarded | go_step)
    go_ret
    exact ⟨boolF (by simp [mayB, Nat.ne_of_gt ens, hpp]), (by first | exact bel2 _ _ _ | exact bel1 _ _)⟩
  subst ens
  by_cases enb : nb = 0
  rotate_left
  · replace enb : 0 < nb := by omega
    go_enter Tryd.func14, Tryd.ntmps14
    repeat' (first | (go_at_call 28; refine (fields_calls 3 _ rfl _).mono ?_; rintro e w' ⟨rfl, rfl⟩; rw [show fldS 3 = ⟨#[98]⟩ from rfl]; dsimp only) | (go_at_call 29; refine (place29 _ _ _).mono ?_; rintro e w' ⟨rfl, rfl⟩; dsimp only) | (go_at_call 30; refine (has_calls 3 _ _ rfl _).mono ?_; rintro e w' ⟨rfl, rfl⟩; dsimp only) | go_values | go_skip | go_guarded | go_step)
    go_ret
    exact ⟨boolF (by simp [mayB, Nat.ne_of_gt enb, hs]), (by first | exact bel2 _ _ _ | exact bel1 _ _)⟩
  subst enb
  by_cases env : nv = 0
  rotate_left
  · replace env : 0 < nv := by omega
    go_enter Tryd.func14, Tryd.ntmps14
    repeat' (first | (go_at_call 28; refine (fields_calls 3 _ rfl _).mono ?_; rintro e w' ⟨rfl, rfl⟩; rw [show fldS 3 = ⟨#[98]⟩ from rfl]; dsimp only) | (go_at_call 29; refine (place29 _ _ _).mono ?_; rintro e w' ⟨rfl, rfl⟩; dsimp only) | (go_at_call 30; refine (has_calls 3 _ _ rfl _).mono ?_; rintro e w' ⟨rfl, rfl⟩; dsimp only) | go_values | go_skip | go_guarded | go_step)
    go_ret
    exact ⟨boolF (by simp [mayB, Nat.ne_of_gt env, hv]), (by first | exact bel2 _ _ _ | exact bel1 _ _)⟩
  subst env
  go_enter Tryd.func14, Tryd.ntmps14
  repeat' (first | (go_at_call 28; refine (fields_calls 3 _ rfl _).mono ?_; rintro e w' ⟨rfl, rfl⟩; rw [show fldS 3 = ⟨#[98]⟩ from rfl]; dsimp only) | (go_at_call 29; refine (place29 _ _ _).mono ?_; rintro e w' ⟨rfl, rfl⟩; dsimp only) | (go_at_call 30; refine (has_calls 3 _ _ rfl _).mono ?_; rintro e w' ⟨rfl, rfl⟩; dsimp only) | go_values | go_skip | go_guarded | go_step)
  go_loopg [3] 0 (fun kq v3 w' => v3 = .int .i64 0 ∧ Aside0 (Below w.heap.size w w') ∧ Aside0 (w'.heap[w.heap.size]? = some (.cells #[.int .i64 3, .int .u64 n, .int .i64 r, .int .u64 0, .int .u64 0, .int .u64 0, .slice A6 0 c6, .slice A7 0 c7, .slice A8 0 c8] 39 (0, 0))))
  case atStart => exact ⟨rfl, ⟨bel2 _ _ _⟩, ⟨blk_alloc (heap_alloc_new w _) _⟩⟩
  case round =>
    obtain ⟨rfl, hB, hX⟩ := hrel
    have hz := (blk_cell hX.out 6).trans rfl
    go_wp2
    go_ret
    exact ⟨boolT (by have hk' := hk.out; simp_all [mayB]), hB.out⟩
end Go.Proofs.YtfkfboigkpofkaaDoor.M
end
section
namespace Go.Proofs.YtfkfboigkpofkaaDoor.M
open Go.RowKit Go.Proofs.YtfkfboigkpofkaaDoorW.PrintWords Go.Proofs.YtfkfboigkpofkaaDoorW.PrintLast Go.Proofs.YtfkfboigkpofkaaDoorW.PrintMore Go.Proofs.YtfkfboigkpofkaaDoor.PMsgPuts
set_option linter.unusedVariables false
set_option linter.unusedSimpArgs false
set_option maxHeartbeats 4000000 in
set_option maxRecDepth 100000 in
theorem may_7 (n r first last commit : Int) (A6 A7 A8 : Option Addr) (nv nb ns c6 c7 c8 : Nat) (w : World) (hfv : nv < 9223372036854775807) (hfb : nb < 9223372036854775807) :
    Calls Tryd.prog 14 #[refV 7 n r first last commit (.slice A6 nv c6) (.slice A7 nb c7) (.slice A8 ns c8)] w fun e w' => e = .returned (.bool (mayB 7 n r first last commit nv nb ns true)) ∧ Below w.heap.size w w' := by
  have hk : Aside0 (knownB 7 = true) := ⟨by decide⟩
  have hb : hasI 7 98 = false := by decide
  have hc : hasI 7 99 = false := by decide
  have hl : hasI 7 108 = false := by decide
  have hf : hasI 7 102 = true := by decide
  have hpp : hasI 7 112 = false := by decide
  have hs : hasI 7 115 = true := by decide
  have hv : hasI 7 118 = false := by decide
  by_cases hp : placeB r = true
  rotate_left
  · replace hp : placeB r = false := by simpa using hp
    go_enter Tryd.func14, Tryd.ntmps14
    repeat' (first | (go_at_call 28; refine (fields_calls 7 _ rfl _).mono ?_; rintro e w' ⟨rfl, rfl⟩; rw [show fldS 7 = ⟨#[102, 115]⟩ from rfl]; dsimp only) | (go_at_call 29; refine (place29 _ _ _).mono ?_; rintro e w' ⟨rfl, rfl⟩; dsimp only) | (go_at_call 30; refine (has_calls 7 _ _ rfl _).mono ?_; rintro e w' ⟨rfl, rfl⟩; dsimp only) | go_values | go_skip | go_guarded | go_step)
    go_ret
    exact ⟨boolF (by simp [mayB, hp]), (by first | exact bel2 _ _ _ | exact bel1 _ _)⟩
  by_cases en : n = 0
  rotate_left
  · have en' : (n == 0) = false := by simpa using en
    go_enter Tryd.func14, Tryd.ntmps14
    repeat' (first | (go_at_call 28; refine (fields_calls 7 _ rfl _).mono ?_; rintro e w' ⟨rfl, rfl⟩; rw [show fldS 7 = ⟨#[102, 115]⟩ from rfl]; dsimp only) | (go_at_call 29; refine (place29 _ _ _).mono ?_; rintro e w' ⟨rfl, rfl⟩; dsimp only) | (go_at_call 30; refine (has_calls 7 _ _ rfl _).mono ?_; rintro e w' ⟨rfl, rfl⟩; dsimp only) | go_values | go_skip | go_guarded | go_step)
    go_ret
    exact ⟨boolF (by simp [mayB, en, hb]), (by first | exact bel2 _ _ _ | exact bel1 _ _)⟩
  subst en
  by_cases er : r = 0
  rotate_left
  · have er' : (r == 0) = false := by simpa using er
    go_enter Tryd.func14, Tryd.ntmps14
    repeat' (first | (go_at_call 28; refine (fields_calls 7 _ rfl _).mono ?_; rintro e w' ⟨rfl, rfl⟩; rw [show fldS 7 = ⟨#[102, 115]⟩ from rfl]; dsimp only) | (go_at_call 29; refine (place29 _ _ _).mono ?_; rintro e w' ⟨rfl, rfl⟩; dsimp only) | (go_at_call 30; refine (has_calls 7 _ _ rfl _).mono ?_; rintro e w' ⟨rfl, rfl⟩; dsimp only) | go_values | go_skip | go_guarded | go_step)
    go_ret
    exact ⟨boolF (by simp [mayB, er, hb]), (by first | exact bel2 _ _ _ | exact bel1 _ _)⟩
  subst er
  by_cases ec : commit = 0
  rotate_left
  · have ec' : (commit == 0) = false := by simpa using ec
    go_enter Tryd.func14, Tryd.ntmps14
    repeat' (first | (go_at_call 28; refine (fields_calls 7 _ rfl _).mono ?_; rintro e w' ⟨rfl, rfl⟩; rw [show fldS 7 = ⟨#[102, 115]⟩ from rfl]; dsimp only) | (go_at_call 29; refine (place29 _ _ _).mono ?_; rintro e w' ⟨rfl, rfl⟩; dsimp only) | (go_at_call 30; refine (has_calls 7 _ _ rfl _).mono ?_; rintro e w' ⟨rfl, rfl⟩; dsimp only) | go_values | go_skip | go_guarded | go_step)
    go_ret
    exact ⟨boolF (by simp [mayB, ec, hc]), (by first | exact bel2 _ _ _ | exact bel1 _ _)⟩
  subst ec
  by_cases el : last = 0
  rotate_left
  · have el' : (last == 0) = false := by simpa using el
    go_enter Tryd.func14, Tryd.ntmps14
    repeat' (first | (go_at_call 28; refine (fields_calls 7 _ rfl _).mono ?_; rintro e w' ⟨rfl, rfl⟩; rw [show fldS 7 = ⟨#[102, 115]⟩ from rfl]; dsimp only) | (go_at_call 29; refine (place29 _ _ _).mono ?_; rintro e w' ⟨rfl, rfl⟩; dsimp only) | (go_at_call 30; refine (has_calls 7 _ _ rfl _).mono ?_; rintro e w' ⟨rfl, rfl⟩; dsimp only) | go_values | go_skip | go_guarded | go_step)
    go_ret
    exact ⟨boolF (by simp [mayB, el, hl]), (by first | exact bel2 _ _ _ | exact bel1 _ _)⟩
  subst el
  by_cases ens : ns = 0
  rotate_left
  · replace ens : 0 < ns := by omega
    go_enter Tryd.func14, Tryd.ntmps14
    repeat' (first | (go_at_call 28; refine (fields_calls 7 _ rfl _).mono ?_; rintro e w' ⟨rfl, rfl⟩; rw [show fldS 7 = ⟨#[102, 115]⟩ from rfl]; dsimp only) | (go_at_call 29; refine (place29 _ _ _).mono ?_; rintro e w' ⟨rfl, rfl⟩; dsimp only) | (go_at_call 30; refine (has_calls 7 _ _ rfl _).mono ?_; rintro e w' ⟨rfl, rfl⟩; dsimp only) | go_values | go_skip | go_guarded | go_step)
    go_ret
    exact ⟨boolF (by simp [mayB, Nat.ne_of_gt ens, hpp]), (by first | exact bel2 _ _ _ | exact bel1 _ _)⟩
  subst ens
  by_cases env : nv = 0
  rotate_left
  · replace env : 0 < nv := by omega
    go_enter Tryd.func14, Tryd.ntmps14
    repeat' (first | (go_at_call 28; refine (fields_calls 7 _ rfl _).mono ?_; rintro e w' ⟨rfl, rfl⟩; rw [show fldS 7 = ⟨#[102, 115]⟩ from rfl]; dsimp only) | (go_at_call 29; refine (place29 _ _ _).mono ?_; rintro e w' ⟨rfl, rfl⟩; dsimp only) | (go_at_call 30; refine (has_calls 7 _ _ rfl _).mono ?_; rintro e w' ⟨rfl, rfl⟩; dsimp only) | go_values | go_skip | go_guarded | go_step)
    go_ret
    exact ⟨boolF (by simp [mayB, Nat.ne_of_gt env, hv]), (by first | exact bel2 _ _ _ | exact bel1 _ _)⟩
  subst env
  by_cases ef : first = 0
  · subst ef
    go_enter Tryd.func14, Tryd.ntmps14
    repeat' (first | (go_at_call 28; refine (fields_calls 7 _ rfl _).mono ?_; rintro e w' ⟨rfl, rfl⟩; rw [show fldS 7 = ⟨#[102, 115]⟩ from rfl]; dsimp only) | (go_at_call 29; refine (place29 _ _ _).mono ?_; rintro e w' ⟨rfl, rfl⟩; dsimp only) | (go_at_call 30; refine (has_calls 7 _ _ rfl _).mono ?_; rintro e w' ⟨rfl, rfl⟩; dsimp only) | go_values | go_skip | go_guarded | go_step)
    go_ret
    exact ⟨boolF (by simp [mayB, hf]), (by first | exact bel2 _ _ _ | exact bel1 _ _)⟩
  have ef' : (first == 0) = false := by simpa using ef
  by_cases e16 : nb ≤ 16
  rotate_left
  · replace e16 : 16 < nb := by omega
    go_enter Tryd.func14, Tryd.ntmps14
    repeat' (first | (go_at_call 28; refine (fields_calls 7 _ rfl _).mono ?_; rintro e w' ⟨rfl, rfl⟩; rw [show fldS 7 = ⟨#[102, 115]⟩ from rfl]; dsimp only) | (go_at_call 29; refine (place29 _ _ _).mono ?_; rintro e w' ⟨rfl, rfl⟩; dsimp only) | (go_at_call 30; refine (has_calls 7 _ _ rfl _).mono ?_; rintro e w' ⟨rfl, rfl⟩; dsimp only) | go_values | go_skip | go_guarded | go_step)
    go_ret
    exact ⟨boolF (by simp [mayB, show ¬ nb ≤ 16 by omega]), (by first | exact bel2 _ _ _ | exact bel1 _ _)⟩
  by_cases e7 : nb = 0
  · subst e7
    go_enter Tryd.func14, Tryd.ntmps14
    repeat' (first | (go_at_call 28; refine (fields_calls 7 _ rfl _).mono ?_; rintro e w' ⟨rfl, rfl⟩; rw [show fldS 7 = ⟨#[102, 115]⟩ from rfl]; dsimp only) | (go_at_call 29; refine (place29 _ _ _).mono ?_; rintro e w' ⟨rfl, rfl⟩; dsimp only) | (go_at_call 30; refine (has_calls 7 _ _ rfl _).mono ?_; rintro e w' ⟨rfl, rfl⟩; dsimp only) | go_values | go_skip | go_guarded | go_step)
    go_ret
    exact ⟨boolF (by simp [mayB]), (by first | exact bel2 _ _ _ | exact bel1 _ _)⟩
  have e7' : ((nb : Int) == 0) = false := beq_eq_false_iff_ne.mpr (by omega)
  have e7q : (nb == 0) = false := beq_eq_false_iff_ne.mpr e7
  by_cases e1 : nb ≤ 1
  · skip
    go_enter Tryd.func14, Tryd.ntmps14
    repeat' (first | (go_at_call 28; refine (fields_calls 7 _ rfl _).mono ?_; rintro e w' ⟨rfl, rfl⟩; rw [show fldS 7 = ⟨#[102, 115]⟩ from rfl]; dsimp only) | (go_at_call 29; refine (place29 _ _ _).mono ?_; rintro e w' ⟨rfl, rfl⟩; dsimp only) | (go_at_call 30; refine (has_calls 7 _ _ rfl _).mono ?_; rintro e w' ⟨rfl, rfl⟩; dsimp only) | go_values | go_skip | go_guarded | go_step)
    go_loopg [3] 0 (fun kq v3 w' => v3 = .int .i64 0 ∧ Aside0 (Below w.heap.size w w') ∧ Aside0 (w'.heap[w.heap.size]? = some (.cells #[.int .i64 7, .int .u64 0, .int .i64 0, .int .u64 first, .int .u64 0, .int .u64 0, .slice A6 0 c6, .slice A7 nb c7, .slice A8 0 c8] 39 (0, 0))))
    case atStart => exact ⟨rfl, ⟨bel2 _ _ _⟩, ⟨blk_alloc (heap_alloc_new w _) _⟩⟩
    case round =>
      obtain ⟨rfl, hB, hX⟩ := hrel
      have hz := (blk_cell hX.out 6).trans rfl
      go_wp2
      go_ret
      exact ⟨boolT (by have hk' := hk.out; simp [mayB, hk', hb, hc, hf, hl, hpp, hs, hv, hp, ef, e16, e1, e7]), hB.out⟩
  · replace e1 : 1 < nb := by omega
    have e1z : (1 : Int) < nb := by omega
    have e1y : (0 : Int) ≤ (nb : Int) - 1 := by omega
    have e16z : (nb : Int) ≤ 16 := by omega
    go_enter Tryd.func14, Tryd.ntmps14
    repeat' (first | (go_at_call 28; refine (fields_calls 7 _ rfl _).mono ?_; rintro e w' ⟨rfl, rfl⟩; rw [show fldS 7 = ⟨#[102, 115]⟩ from rfl]; dsimp only) | (go_at_call 29; refine (place29 _ _ _).mono ?_; rintro e w' ⟨rfl, rfl⟩; dsimp only) | (go_at_call 30; refine (has_calls 7 _ _ rfl _).mono ?_; rintro e w' ⟨rfl, rfl⟩; dsimp only) | go_values | go_skip | go_guarded | go_step)
    · go_ret
      exact ⟨boolF (may_topN e1 (by assumption)), (by first | exact bel2 _ _ _ | exact bel1 _ _)⟩
    · skip
      have hh : first ≤ 18446744073709551615 - ((nb : Int) - 1) := by assumption
      have hH := Aside0.mk hh
      clear hh
      go_loopg [3] 0 (fun kq v3 w' => v3 = .int .i64 0 ∧ Aside0 (Below w.heap.size w w') ∧ Aside0 (w'.heap[w.heap.size]? = some (.cells #[.int .i64 7, .int .u64 0, .int .i64 0, .int .u64 first, .int .u64 0, .int .u64 0, .slice A6 0 c6, .slice A7 nb c7, .slice A8 0 c8] 39 (0, 0))))
      case atStart => exact ⟨rfl, ⟨bel2 _ _ _⟩, ⟨blk_alloc (heap_alloc_new w _) _⟩⟩
      case round =>
        obtain ⟨rfl, hB, hX⟩ := hrel
        have hz := (blk_cell hX.out 6).trans rfl
        go_wp2
        go_ret
        exact ⟨boolT (by have hk' := hk.out; have hh := hH.out; have ht : first ≤ topU - ((nb : Int) - 1) := hh; simp [mayB, hk', hb, hc, hf, hl, hpp, hs, hv, hp, ef, e16, e1, e7, ht]), hB.out⟩
set_option maxHeartbeats 4000000 in
set_option maxRecDepth 100000 in
theorem may_6 (n r first last commit : Int) (A6 A7 A8 : Option Addr) (nv nb ns c6 c7 c8 : Nat) (w : World) (hfv : nv < 9223372036854775807) (hfb : nb < 9223372036854775807) :
    Calls Tryd.prog 14 #[refV 6 n r first last commit (.slice A6 nv c6) (.slice A7 nb c7) (.slice A8 ns c8)] w fun e w' => e = .returned (.bool (mayB 6 n r first last commit nv nb ns true)) ∧ Below w.heap.size w w' := by
  have hk : Aside0 (knownB 6 = true) := ⟨by decide⟩
  have hb : hasI 6 98 = false := by decide
  have hc : hasI 6 99 = false := by decide
  have hl : hasI 6 108 = false := by decide
  have hf : hasI 6 102 = true := by decide
  have hpp : hasI 6 112 = false := by decide
  have hs : hasI 6 115 = false := by decide
  have hv : hasI 6 118 = false := by decide
  by_cases hp : placeB r = true
  rotate_left
  · replace hp : placeB r = false := by simpa using hp
    go_enter Tryd.func14, Tryd.ntmps14
    repeat' (first | (go_at_call 28; refine (fields_calls 6 _ rfl _).mono ?_; rintro e w' ⟨rfl, rfl⟩; rw [show fldS 6 = ⟨#[102]⟩ from rfl]; dsimp only) | (go_at_call 29; refine (place29 _ _ _).mono ?_; rintro e w' ⟨rfl, rfl⟩; dsimp only) | (go_at_call 30; refine (has_calls 6 _ _ rfl _).mono ?_; rintro e w' ⟨rfl, rfl⟩; dsimp only) | go_values | go_skip | go_guarded | go_step)
    go_ret
    exact ⟨boolF (by simp [mayB, hp]), (by first | exact bel2 _ _ _ | exact bel1 _ _)⟩
  by_cases en : n = 0
  rotate_left
  · have en' : (n == 0) = false := by simpa using en
    go_enter Tryd.func14, Tryd.ntmps14
    repeat' (first | (go_at_call 28; refine (fields_calls 6 _ rfl _).mono ?_; rintro e w' ⟨rfl, rfl⟩; rw [show fldS 6 = ⟨#[102]⟩ from rfl]; dsimp only) | (go_at_call 29; refine (place29 _ _ _).mono ?_; rintro e w' ⟨rfl, rfl⟩; dsimp only) | (go_at_call 30; refine (has_calls 6 _ _ rfl _).mono ?_; rintro e w' ⟨rfl, rfl⟩; dsimp only) | go_values | go_skip | go_guarded | go_step)
    go_ret
    exact ⟨boolF (by simp [mayB, en, hb]), (by first | exact bel2 _ _ _ | exact bel1 _ _)⟩
  subst en
  by_cases er : r = 0
  rotate_left
  · have er' : (r == 0) = false := by simpa using er
    go_enter Tryd.func14, Tryd.ntmps14
    repeat' (first | (go_at_call 28; refine (fields_calls 6 _ rfl _).mono ?_; rintro e w' ⟨rfl, rfl⟩; rw [show fldS 6 = ⟨#[102]⟩ from rfl]; dsimp only) | (go_at_call 29; refine (place29 _ _ _).mono ?_; rintro e w' ⟨rfl, rfl⟩; dsimp only) | (go_at_call 30; refine (has_calls 6 _ _ rfl _).mono ?_; rintro e w' ⟨rfl, rfl⟩; dsimp only) | go_values | go_skip | go_guarded | go_step)
    go_ret
    exact ⟨boolF (by simp [mayB, er, hb]), (by first | exact bel2 _ _ _ | exact bel1 _ _)⟩
  subst er
  by_cases ec : commit = 0
  rotate_left
  · have ec' : (commit == 0) = false := by simpa using ec
    go_enter Tryd.func14, Tryd.ntmps14
    repeat' (first | (go_at_call 28; refine (fields_calls 6 _ rfl _).mono ?_; rintro e w' ⟨rfl, rfl⟩; rw [show fldS 6 = ⟨#[102]⟩ from rfl]; dsimp only) | (go_at_call 29; refine (place29 _ _ _).mono ?_; rintro e w' ⟨rfl, rfl⟩; dsimp only) | (go_at_call 30; refine (has_calls 6 _ _ rfl _).mono ?_; rintro e w' ⟨rfl, rfl⟩; dsimp only) | go_values | go_skip | go_guarded | go_step)
    go_ret
    exact ⟨boolF (by simp [mayB, ec, hc]), (by first | exact bel2 _ _ _ | exact bel1 _ _)⟩
  subst ec
  by_cases el : last = 0
  rotate_left
  · have el' : (last == 0) = false := by simpa using el
    go_enter Tryd.func14, Tryd.ntmps14
    repeat' (first | (go_at_call 28; refine (fields_calls 6 _ rfl _).mono ?_; rintro e w' ⟨rfl, rfl⟩; rw [show fldS 6 = ⟨#[102]⟩ from rfl]; dsimp only) | (go_at_call 29; refine (place29 _ _ _).mono ?_; rintro e w' ⟨rfl, rfl⟩; dsimp only) | (go_at_call 30; refine (has_calls 6 _ _ rfl _).mono ?_; rintro e w' ⟨rfl, rfl⟩; dsimp only) | go_values | go_skip | go_guarded | go_step)
    go_ret
    exact ⟨boolF (by simp [mayB, el, hl]), (by first | exact bel2 _ _ _ | exact bel1 _ _)⟩
  subst el
  by_cases ens : ns = 0
  rotate_left
  · replace ens : 0 < ns := by omega
    go_enter Tryd.func14, Tryd.ntmps14
    repeat' (first | (go_at_call 28; refine (fields_calls 6 _ rfl _).mono ?_; rintro e w' ⟨rfl, rfl⟩; rw [show fldS 6 = ⟨#[102]⟩ from rfl]; dsimp only) | (go_at_call 29; refine (place29 _ _ _).mono ?_; rintro e w' ⟨rfl, rfl⟩; dsimp only) | (go_at_call 30; refine (has_calls 6 _ _ rfl _).mono ?_; rintro e w' ⟨rfl, rfl⟩; dsimp only) | go_values | go_skip | go_guarded | go_step)
    go_ret
    exact ⟨boolF (by simp [mayB, Nat.ne_of_gt ens, hpp]), (by first | exact bel2 _ _ _ | exact bel1 _ _)⟩
  subst ens
  by_cases enb : nb = 0
  rotate_left
  · replace enb : 0 < nb := by omega
    go_enter Tryd.func14, Tryd.ntmps14
    repeat' (first | (go_at_call 28; refine (fields_calls 6 _ rfl _).mono ?_; rintro e w' ⟨rfl, rfl⟩; rw [show fldS 6 = ⟨#[102]⟩ from rfl]; dsimp only) | (go_at_call 29; refine (place29 _ _ _).mono ?_; rintro e w' ⟨rfl, rfl⟩; dsimp only) | (go_at_call 30; refine (has_calls 6 _ _ rfl _).mono ?_; rintro e w' ⟨rfl, rfl⟩; dsimp only) | go_values | go_skip | go_guarded | go_step)
    go_ret
    exact ⟨boolF (by simp [mayB, Nat.ne_of_gt enb, hs]), (by first | exact bel2 _ _ _ | exact bel1 _ _)⟩
  subst enb
  by_cases env : nv = 0
  rotate_left
  · replace env : 0 < nv := by omega
    go_enter Tryd.func14, Tryd.ntmps14
    repeat' (first | (go_at_call 28; refine (fields_calls 6 _ rfl _).mono ?_; rintro e w' ⟨rfl, rfl⟩; rw [show fldS 6 = ⟨#[102]⟩ from rfl]; dsimp only) | (go_at_call 29; refine (place29 _ _ _).mono ?_; rintro e w' ⟨rfl, rfl⟩; dsimp only) | (go_at_call 30; refine (has_calls 6 _ _ rfl _).mono ?_; rintro e w' ⟨rfl, rfl⟩; dsimp only) | go_values | go_skip | go_guarded | go_step)
    go_ret
    exact ⟨boolF (by simp [mayB, Nat.ne_of_gt env, hv]), (by first | exact bel2 _ _ _ | exact bel1 _ _)⟩
  subst env
  by_cases ef : first = 0
  · subst ef
    go_enter Tryd.func14, Tryd.ntmps14
    repeat' (first | (go_at_call 28; refine (fields_calls 6 _ rfl _).mono ?_; rintro e w' ⟨rfl, rfl⟩; rw [show fldS 6 = ⟨#[102]⟩ from rfl]; dsimp only) | (go_at_call 29; refine (place29 _ _ _).mono ?_; rintro e w' ⟨rfl, rfl⟩; dsimp only) | (go_at_call 30; refine (has_calls 6 _ _ rfl _).mono ?_; rintro e w' ⟨rfl, rfl⟩; dsimp only) | go_values | go_skip | go_guarded | go_step)
    go_ret
    exact ⟨boolF (by simp [mayB, hf]), (by first | exact bel2 _ _ _ | exact bel1 _ _)⟩
  have ef' : (first == 0) = false := by simpa using ef
  go_enter Tryd.func14, Tryd.ntmps14
  repeat' (first | (go_at_call 28; refine (fields_calls 6 _ rfl _).mono ?_; rintro e w' ⟨rfl, rfl⟩; rw [show fldS 6 = ⟨#[102]⟩ from rfl]; dsimp only) | (go_at_call 29; refine (place29 _ _ _).mono ?_; rintro e w' ⟨rfl, rfl⟩; dsimp only) | (go_at_call 30; refine (has_calls 6 _ _ rfl _).mono ?_; rintro e w' ⟨rfl, rfl⟩; dsimp only) | go_values | go_skip | go_guarded | go_step)
  go_loopg [3] 0 (fun kq v3 w' => v3 = .int .i64 0 ∧ Aside0 (Below w.heap.size w w') ∧ Aside0 (w'.heap[w.heap.size]? = some (.cells #[.int .i64 6, .int .u64 0, .int .i64 0, .int .u64 first, .int .u64 0, .int .u64 0, .slice A6 0 c6, .slice A7 0 c7, .slice A8 0 c8] 39 (0, 0))))
  case atStart => exact ⟨rfl, ⟨bel2 _ _ _⟩, ⟨blk_alloc (heap_alloc_new w _) _⟩⟩
  case round =>
    obtain ⟨rfl, hB, hX⟩ := hrel
    have hz := (blk_cell hX.out 6).trans rfl
    go_wp2
    go_ret
    exact ⟨boolT (by have hk' := hk.out; simp_all [mayB]), hB.out⟩
end Go.Proofs.YtfkfboigkpofkaaDoor.M
end
section
namespace Go.Proofs.YtfkfboigkpofkaaDoor.M
open Go.RowKit Go.Proofs.YtfkfboigkpofkaaDoorW.PrintWords Go.Proofs.YtfkfboigkpofkaaDoorW.PrintLast Go.Proofs.YtfkfboigkpofkaaDoorW.PrintMore Go.Proofs.YtfkfboigkpofkaaDoor.PMsgPuts
set_option linter.unusedVariables false
set_option linter.unusedSimpArgs false
set_option maxHeartbeats 4000000 in
set_option maxRecDepth 100000 in
theorem may_5 (n r first last commit : Int) (A6 A7 A8 : Option Addr) (nv nb ns c6 c7 c8 : Nat) (w : World) (hfv : nv < 9223372036854775807) (hfb : nb < 9223372036854775807) :
    Calls Tryd.prog 14 #[refV 5 n r first last commit (.slice A6 nv c6) (.slice A7 nb c7) (.slice A8 ns c8)] w fun e w' => e = .returned (.bool (mayB 5 n r first last commit nv nb ns true)) ∧ Below w.heap.size w w' := by
  have hk : Aside0 (knownB 5 = true) := ⟨by decide⟩
  have hb : hasI 5 98 = true := by decide
  have hc : hasI 5 99 = false := by decide
  have hl : hasI 5 108 = true := by decide
  have hf : hasI 5 102 = true := by decide
  have hpp : hasI 5 112 = false := by decide
  have hs : hasI 5 115 = false := by decide
  have hv : hasI 5 118 = false := by decide
  by_cases hp : placeB r = true
  rotate_left
  · replace hp : placeB r = false := by simpa using hp
    go_enter Tryd.func14, Tryd.ntmps14
    repeat' (first | (go_at_call 28; refine (fields_calls 5 _ rfl _).mono ?_; rintro e w' ⟨rfl, rfl⟩; rw [show fldS 5 = ⟨#[98, 102, 108]⟩ from rfl]; dsimp only) | (go_at_call 29; refine (place29 _ _ _).mono ?_; rintro e w' ⟨rfl, rfl⟩; dsimp only) | (go_at_call 30; refine (has_calls 5 _ _ rfl _).mono ?_; rintro e w' ⟨rfl, rfl⟩; dsimp only) | go_values | go_skip | go_guarded | go_step)
    go_ret
    exact ⟨boolF (by simp [mayB, hp]), (by first | exact bel2 _ _ _ | exact bel1 _ _)⟩
  by_cases ec : commit = 0
  rotate_left
  · have ec' : (commit == 0) = false := by simpa using ec
    go_enter Tryd.func14, Tryd.ntmps14
    repeat' (first | (go_at_call 28; refine (fields_calls 5 _ rfl _).mono ?_; rintro e w' ⟨rfl, rfl⟩; rw [show fldS 5 = ⟨#[98, 102, 108]⟩ from rfl]; dsimp only) | (go_at_call 29; refine (place29 _ _ _).mono ?_; rintro e w' ⟨rfl, rfl⟩; dsimp only) | (go_at_call 30; refine (has_calls 5 _ _ rfl _).mono ?_; rintro e w' ⟨rfl, rfl⟩; dsimp only) | go_values | go_skip | go_guarded | go_step)
    go_ret
    exact ⟨boolF (by simp [mayB, ec, hc]), (by first | exact bel2 _ _ _ | exact bel1 _ _)⟩
  subst ec
  by_cases ens : ns = 0
  rotate_left
  · replace ens : 0 < ns := by omega
    go_enter Tryd.func14, Tryd.ntmps14
    repeat' (first | (go_at_call 28; refine (fields_calls 5 _ rfl _).mono ?_; rintro e w' ⟨rfl, rfl⟩; rw [show fldS 5 = ⟨#[98, 102, 108]⟩ from rfl]; dsimp only) | (go_at_call 29; refine (place29 _ _ _).mono ?_; rintro e w' ⟨rfl, rfl⟩; dsimp only) | (go_at_call 30; refine (has_calls 5 _ _ rfl _).mono ?_; rintro e w' ⟨rfl, rfl⟩; dsimp only) | go_values | go_skip | go_guarded | go_step)
    go_ret
    exact ⟨boolF (by simp [mayB, Nat.ne_of_gt ens, hpp]), (by first | exact bel2 _ _ _ | exact bel1 _ _)⟩
  subst ens
  by_cases enb : nb = 0
  rotate_left
  · replace enb : 0 < nb := by omega
    go_enter Tryd.func14, Tryd.ntmps14
    repeat' (first | (go_at_call 28; refine (fields_calls 5 _ rfl _).mono ?_; rintro e w' ⟨rfl, rfl⟩; rw [show fldS 5 = ⟨#[98, 102, 108]⟩ from rfl]; dsimp only) | (go_at_call 29; refine (place29 _ _ _).mono ?_; rintro e w' ⟨rfl, rfl⟩; dsimp only) | (go_at_call 30; refine (has_calls 5 _ _ rfl _).mono ?_; rintro e w' ⟨rfl, rfl⟩; dsimp only) | go_values | go_skip | go_guarded | go_step)
    go_ret
    exact ⟨boolF (by simp [mayB, Nat.ne_of_gt enb, hs]), (by first | exact bel2 _ _ _ | exact bel1 _ _)⟩
  subst enb
  by_cases env : nv = 0
  rotate_left
  · replace env : 0 < nv := by omega
    go_enter Tryd.func14, Tryd.ntmps14
    repeat' (first | (go_at_call 28; refine (fields_calls 5 _ rfl _).mono ?_; rintro e w' ⟨rfl, rfl⟩; rw [show fldS 5 = ⟨#[98, 102, 108]⟩ from rfl]; dsimp only) | (go_at_call 29; refine (place29 _ _ _).mono ?_; rintro e w' ⟨rfl, rfl⟩; dsimp only) | (go_at_call 30; refine (has_calls 5 _ _ rfl _).mono ?_; rintro e w' ⟨rfl, rfl⟩; dsimp only) | go_values | go_skip | go_guarded | go_step)
    go_ret
    exact ⟨boolF (by simp [mayB, Nat.ne_of_gt env, hv]), (by first | exact bel2 _ _ _ | exact bel1 _ _)⟩
  subst env
  by_cases ef : first = 0
  · subst ef
    go_enter Tryd.func14, Tryd.ntmps14
    repeat' (first | (go_at_call 28; refine (fields_calls 5 _ rfl _).mono ?_; rintro e w' ⟨rfl, rfl⟩; rw [show fldS 5 = ⟨#[98, 102, 108]⟩ from rfl]; dsimp only) | (go_at_call 29; refine (place29 _ _ _).mono ?_; rintro e w' ⟨rfl, rfl⟩; dsimp only) | (go_at_call 30; refine (has_calls 5 _ _ rfl _).mono ?_; rintro e w' ⟨rfl, rfl⟩; dsimp only) | go_values | go_skip | go_guarded | go_step)
    go_ret
    exact ⟨boolF (by simp [mayB, hf]), (by first | exact bel2 _ _ _ | exact bel1 _ _)⟩
  have ef' : (first == 0) = false := by simpa using ef
  by_cases el : first ≤ last
  rotate_left
  · have el' : last < first := by omega
    go_enter Tryd.func14, Tryd.ntmps14
    repeat' (first | (go_at_call 28; refine (fields_calls 5 _ rfl _).mono ?_; rintro e w' ⟨rfl, rfl⟩; rw [show fldS 5 = ⟨#[98, 102, 108]⟩ from rfl]; dsimp only) | (go_at_call 29; refine (place29 _ _ _).mono ?_; rintro e w' ⟨rfl, rfl⟩; dsimp only) | (go_at_call 30; refine (has_calls 5 _ _ rfl _).mono ?_; rintro e w' ⟨rfl, rfl⟩; dsimp only) | go_values | go_skip | go_guarded | go_step)
    go_ret
    exact ⟨boolF (by simp [mayB, el, hl]), (by first | exact bel2 _ _ _ | exact bel1 _ _)⟩
  go_enter Tryd.func14, Tryd.ntmps14
  repeat' (first | (go_at_call 28; refine (fields_calls 5 _ rfl _).mono ?_; rintro e w' ⟨rfl, rfl⟩; rw [show fldS 5 = ⟨#[98, 102, 108]⟩ from rfl]; dsimp only) | (go_at_call 29; refine (place29 _ _ _).mono ?_; rintro e w' ⟨rfl, rfl⟩; dsimp only) | (go_at_call 30; refine (has_calls 5 _ _ rfl _).mono ?_; rintro e w' ⟨rfl, rfl⟩; dsimp only) | go_values | go_skip | go_guarded | go_step)
  go_loopg [3] 0 (fun kq v3 w' => v3 = .int .i64 0 ∧ Aside0 (Below w.heap.size w w') ∧ Aside0 (w'.heap[w.heap.size]? = some (.cells #[.int .i64 5, .int .u64 n, .int .i64 r, .int .u64 first, .int .u64 last, .int .u64 0, .slice A6 0 c6, .slice A7 0 c7, .slice A8 0 c8] 39 (0, 0))))
  case atStart => exact ⟨rfl, ⟨bel2 _ _ _⟩, ⟨blk_alloc (heap_alloc_new w _) _⟩⟩
  case round =>
    obtain ⟨rfl, hB, hX⟩ := hrel
    have hz := (blk_cell hX.out 6).trans rfl
    go_wp2
    go_ret
    exact ⟨boolT (by have hk' := hk.out; simp [mayB, hk', hb, hc, hf, hl, hpp, hs, hv, hp, ef, el]), hB.out⟩
set_option maxHeartbeats 4000000 in
set_option maxRecDepth 100000 in
theorem may_8 (n r first last commit : Int) (A6 A7 A8 : Option Addr) (nv nb ns c6 c7 c8 : Nat) (w : World) (hfv : nv < 9223372036854775807) (hfb : nb < 9223372036854775807) :
    Calls Tryd.prog 14 #[refV 8 n r first last commit (.slice A6 nv c6) (.slice A7 nb c7) (.slice A8 ns c8)] w fun e w' => e = .returned (.bool (mayB 8 n r first last commit nv nb ns true)) ∧ Below w.heap.size w w' := by
  have hk : Aside0 (knownB 8 = true) := ⟨by decide⟩
  have hb : hasI 8 98 = false := by decide
  have hc : hasI 8 99 = false := by decide
  have hl : hasI 8 108 = false := by decide
  have hf : hasI 8 102 = true := by decide
  have hpp : hasI 8 112 = true := by decide
  have hs : hasI 8 115 = false := by decide
  have hv : hasI 8 118 = false := by decide
  by_cases hp : placeB r = true
  rotate_left
  · replace hp : placeB r = false := by simpa using hp
    go_enter Tryd.func14, Tryd.ntmps14
    repeat' (first | (go_at_call 28; refine (fields_calls 8 _ rfl _).mono ?_; rintro e w' ⟨rfl, rfl⟩; rw [show fldS 8 = ⟨#[102, 112]⟩ from rfl]; dsimp only) | (go_at_call 29; refine (place29 _ _ _).mono ?_; rintro e w' ⟨rfl, rfl⟩; dsimp only) | (go_at_call 30; refine (has_calls 8 _ _ rfl _).mono ?_; rintro e w' ⟨rfl, rfl⟩; dsimp only) | go_values | go_skip | go_guarded | go_step)
    go_ret
    exact ⟨boolF (by simp [mayB, hp]), (by first | exact bel2 _ _ _ | exact bel1 _ _)⟩
  by_cases en : n = 0
  rotate_left
  · have en' : (n == 0) = false := by simpa using en
    go_enter Tryd.func14, Tryd.ntmps14
    repeat' (first | (go_at_call 28; refine (fields_calls 8 _ rfl _).mono ?_; rintro e w' ⟨rfl, rfl⟩; rw [show fldS 8 = ⟨#[102, 112]⟩ from rfl]; dsimp only) | (go_at_call 29; refine (place29 _ _ _).mono ?_; rintro e w' ⟨rfl, rfl⟩; dsimp only) | (go_at_call 30; refine (has_calls 8 _ _ rfl _).mono ?_; rintro e w' ⟨rfl, rfl⟩; dsimp only) | go_values | go_skip | go_guarded | go_step)
    go_ret
    exact ⟨boolF (by simp [mayB, en, hb]), (by first | exact bel2 _ _ _ | exact bel1 _ _)⟩
  subst en
  by_cases er : r = 0
  rotate_left
  · have er' : (r == 0) = false := by simpa using er
    go_enter Tryd.func14, Tryd.ntmps14
    repeat' (first | (go_at_call 28; refine (fields_calls 8 _ rfl _).mono ?_; rintro e w' ⟨rfl, rfl⟩; rw [show fldS 8 = ⟨#[102, 112]⟩ from rfl]; dsimp only) | (go_at_call 29; refine (place29 _ _ _).mono ?_; rintro e w' ⟨rfl, rfl⟩; dsimp only) | (go_at_call 30; refine (has_calls 8 _ _ rfl _).mono ?_; rintro e w' ⟨rfl, rfl⟩; dsimp only) | go_values | go_skip | go_guarded | go_step)
    go_ret
    exact ⟨boolF (by simp [mayB, er, hb]), (by first | exact bel2 _ _ _ | exact bel1 _ _)⟩
  subst er
  by_cases ec : commit = 0
  rotate_left
  · have ec' : (commit == 0) = false := by simpa using ec
    go_enter Tryd.func14, Tryd.ntmps14
    repeat' (first | (go_at_call 28; refine (fields_calls 8 _ rfl _).mono ?_; rintro e w' ⟨rfl, rfl⟩; rw [show fldS 8 = ⟨#[102, 112]⟩ from rfl]; dsimp only) | (go_at_call 29; refine (place29 _ _ _).mono ?_; rintro e w' ⟨rfl, rfl⟩; dsimp only) | (go_at_call 30; refine (has_calls 8 _ _ rfl _).mono ?_; rintro e w' ⟨rfl, rfl⟩; dsimp only) | go_values | go_skip | go_guarded | go_step)
    go_ret
    exact ⟨boolF (by simp [mayB, ec, hc]), (by first | exact bel2 _ _ _ | exact bel1 _ _)⟩
  subst ec
  by_cases el : last = 0
  rotate_left
  · have el' : (last == 0) = false := by simpa using el
    go_enter Tryd.func14, Tryd.ntmps14
    repeat' (first | (go_at_call 28; refine (fields_calls 8 _ rfl _).mono ?_; rintro e w' ⟨rfl, rfl⟩; rw [show fldS 8 = ⟨#[102, 112]⟩ from rfl]; dsimp only) | (go_at_call 29; refine (place29 _ _ _).mono ?_; rintro e w' ⟨rfl, rfl⟩; dsimp only) | (go_at_call 30; refine (has_calls 8 _ _ rfl _).mono ?_; rintro e w' ⟨rfl, rfl⟩; dsimp only) | go_values | go_skip | go_guarded | go_step)
    go_ret
    exact ⟨boolF (by simp [mayB, el, hl]), (by first | exact bel2 _ _ _ | exact bel1 _ _)⟩
  subst el
  by_cases enb : nb = 0
  rotate_left
  · replace enb : 0 < nb := by omega
    go_enter Tryd.func14, Tryd.ntmps14
    repeat' (first | (go_at_call 28; refine (fields_calls 8 _ rfl _).mono ?_; rintro e w' ⟨rfl, rfl⟩; rw [show fldS 8 = ⟨#[102, 112]⟩ from rfl]; dsimp only) | (go_at_call 29; refine (place29 _ _ _).mono ?_; rintro e w' ⟨rfl, rfl⟩; dsimp only) | (go_at_call 30; refine (has_calls 8 _ _ rfl _).mono ?_; rintro e w' ⟨rfl, rfl⟩; dsimp only) | go_values | go_skip | go_guarded | go_step)
    go_ret
    exact ⟨boolF (by simp [mayB, Nat.ne_of_gt enb, hs]), (by first | exact bel2 _ _ _ | exact bel1 _ _)⟩
  subst enb
  by_cases env : nv = 0
  rotate_left
  · replace env : 0 < nv := by omega
    go_enter Tryd.func14, Tryd.ntmps14
    repeat' (first | (go_at_call 28; refine (fields_calls 8 _ rfl _).mono ?_; rintro e w' ⟨rfl, rfl⟩; rw [show fldS 8 = ⟨#[102, 112]⟩ from rfl]; dsimp only) | (go_at_call 29; refine (place29 _ _ _).mono ?_; rintro e w' ⟨rfl, rfl⟩; dsimp only) | (go_at_call 30; refine (has_calls 8 _ _ rfl _).mono ?_; rintro e w' ⟨rfl, rfl⟩; dsimp only) | go_values | go_skip | go_guarded | go_step)
    go_ret
    exact ⟨boolF (by simp [mayB, Nat.ne_of_gt env, hv]), (by first | exact bel2 _ _ _ | exact bel1 _ _)⟩
  subst env
  by_cases ef : first = 0
  · subst ef
    go_enter Tryd.func14, Tryd.ntmps14
    repeat' (first | (go_at_call 28; refine (fields_calls 8 _ rfl _).mono ?_; rintro e w' ⟨rfl, rfl⟩; rw [show fldS 8 = ⟨#[102, 112]⟩ from rfl]; dsimp only) | (go_at_call 29; refine (place29 _ _ _).mono ?_; rintro e w' ⟨rfl, rfl⟩; dsimp only) | (go_at_call 30; refine (has_calls 8 _ _ rfl _).mono ?_; rintro e w' ⟨rfl, rfl⟩; dsimp only) | go_values | go_skip | go_guarded | go_step)
    go_ret
    exact ⟨boolF (by simp [mayB, hf]), (by first | exact bel2 _ _ _ | exact bel1 _ _)⟩
  have ef' : (first == 0) = false := by simpa using ef
  go_enter Tryd.func14, Tryd.ntmps14
  repeat' (first | (go_at_call 28; refine (fields_calls 8 _ rfl _).mono ?_; rintro e w' ⟨rfl, rfl⟩; rw [show fldS 8 = ⟨#[102, 112]⟩ from rfl]; dsimp only) | (go_at_call 29; refine (place29 _ _ _).mono ?_; rintro e w' ⟨rfl, rfl⟩; dsimp only) | (go_at_call 30; refine (has_calls 8 _ _ rfl _).mono ?_; rintro e w' ⟨rfl, rfl⟩; dsimp only) | go_values | go_skip | go_guarded | go_step)
  go_loopg [3] 0 (fun kq v3 w' => v3 = .int .i64 0 ∧ Aside0 (Below w.heap.size w w') ∧ Aside0 (w'.heap[w.heap.size]? = some (.cells #[.int .i64 8, .int .u64 0, .int .i64 0, .int .u64 first, .int .u64 0, .int .u64 0, .slice A6 0 c6, .slice A7 0 c7, .slice A8 ns c8] 39 (0, 0))))
  case atStart => exact ⟨rfl, ⟨bel2 _ _ _⟩, ⟨blk_alloc (heap_alloc_new w _) _⟩⟩
  case round =>
    obtain ⟨rfl, hB, hX⟩ := hrel
    have hz := (blk_cell hX.out 6).trans rfl
    go_wp2
    go_ret
    exact ⟨boolT (by have hk' := hk.out; simp_all [mayB]), hB.out⟩
end Go.Proofs.YtfkfboigkpofkaaDoor.M
end
section
namespace Go.Proofs.YtfkfboigkpofkaaDoor.M
open Go.RowKit Go.Proofs.YtfkfboigkpofkaaDoorW.PrintWords Go.Proofs.YtfkfboigkpofkaaDoorW.PrintLast Go.Proofs.YtfkfboigkpofkaaDoorW.PrintMore Go.Proofs.YtfkfboigkpofkaaDoor.PMsgPuts
set_option linter.unusedVariables false
set_option linter.unusedSimpArgs false
set_option maxHeartbeats 1000000 in
set_option maxRecDepth 100000 in
theorem may_un (k : Nat) (hkn : knownB k = false) (n r first last commit : Int) (A6 A7 A8 : Option Addr) (nv nb ns c6 c7 c8 : Nat) (L : Bool) (w : World) :
    Calls Tryd.prog 14 #[refV k n r first last commit (.slice A6 nv c6) (.slice A7 nb c7) (.slice A8 ns c8)] w fun e w' => e = .returned (.bool (mayB k n r first last commit nv nb ns L)) ∧ Below w.heap.size w w' := by
  have hk := Aside0.mk hkn
  have hf : Aside0 (fldS k = ⟨#[]⟩) := ⟨by
    by_cases h : k = 0
    · subst h; rfl
    · exact fld_big (by have := of_decide_eq_false hkn; omega)⟩
  clear hkn
  go_enter Tryd.func14, Tryd.ntmps14
  repeat' (first | (go_at_call 28; refine (fields_calls k _ rfl _).mono ?_; rintro e w' ⟨rfl, rfl⟩; rw [hf.out]; dsimp only) | go_values | go_skip | go_guarded | go_step)
  go_ret
  exact ⟨boolF (by simp [mayB, hk.out]), bel1 _ _⟩
def mayM (m : Mg) (k : Nat) : Bool := mayB k m.n m.r m.first m.last m.commit m.V.length m.B.length m.S.length (votesB m.commit m.V)
theorem may_nov {k : Nat} {n r first last commit : Int} {nv nb ns : Nat} {L : Bool} (hv : hasI k 118 = false) (hL : nv = 0 → L = true) : mayB k n r first last commit nv nb ns true = mayB k n r first last commit nv nb ns L := by
  by_cases h : nv = 0
  · rw [hL h]
  · unfold mayB
    rw [hv, beq_eq_false_iff_ne.mpr h]
    simp only [Bool.or_false, Bool.and_false, Bool.false_and]
theorem may_calls (m : Mg) (k : Nat) (hk : m.k = k) (hV : m.V.length < 9223372036854775807) (hB : m.B.length < 9223372036854775807) (A6 A7 A8 : Option Addr) (c6 c7 c8 : Nat) (w : World) (hr : Kd.C k52 w A6 m.V.length m.V) :
    Calls Tryd.prog 14 #[.agg (m.ofs A6 A7 A8 c6 c7 c8)] w fun e w' => e = .returned (.bool (mayM m k)) ∧ Below w.heap.size w w' := by
  have hL : m.V.length = 0 → votesB m.commit m.V = true := fun h => by rw [List.length_eq_zero_iff.mp h]; rfl
  by_cases hkn : knownB k = true
  · have h1 : 1 ≤ k ∧ k ≤ 8 := by
      have := of_decide_eq_true hkn
      omega
    show Calls Tryd.prog 14 #[refV m.k m.n m.r m.first m.last m.commit (.slice A6 m.V.length c6) (.slice A7 m.B.length c7) (.slice A8 m.S.length c8)] w _
    rw [hk]
    unfold mayM
    clear hkn hk
    match k, h1 with
    | 2, _ => exact may_2 m.n m.r m.first m.last m.commit A6 A7 A8 m.B.length m.S.length c6 c7 c8 w m.V hr hV hB
    | 1, _ => rw [← may_nov (by decide) hL]; exact may_1 m.n m.r m.first m.last m.commit A6 A7 A8 m.V.length m.B.length m.S.length c6 c7 c8 w hV hB
    | 3, _ => rw [← may_nov (by decide) hL]; exact may_3 m.n m.r m.first m.last m.commit A6 A7 A8 m.V.length m.B.length m.S.length c6 c7 c8 w hV hB
    | 4, _ => rw [← may_nov (by decide) hL]; exact may_4 m.n m.r m.first m.last m.commit A6 A7 A8 m.V.length m.B.length m.S.length c6 c7 c8 w hV hB
    | 5, _ => rw [← may_nov (by decide) hL]; exact may_5 m.n m.r m.first m.last m.commit A6 A7 A8 m.V.length m.B.length m.S.length c6 c7 c8 w hV hB
    | 6, _ => rw [← may_nov (by decide) hL]; exact may_6 m.n m.r m.first m.last m.commit A6 A7 A8 m.V.length m.B.length m.S.length c6 c7 c8 w hV hB
    | 7, _ => rw [← may_nov (by decide) hL]; exact may_7 m.n m.r m.first m.last m.commit A6 A7 A8 m.V.length m.B.length m.S.length c6 c7 c8 w hV hB
    | 8, _ => rw [← may_nov (by decide) hL]; exact may_8 m.n m.r m.first m.last m.commit A6 A7 A8 m.V.length m.B.length m.S.length c6 c7 c8 w hV hB
  · show Calls Tryd.prog 14 #[refV m.k m.n m.r m.first m.last m.commit (.slice A6 m.V.length c6) (.slice A7 m.B.length c7) (.slice A8 m.S.length c8)] w _
    rw [hk]
    exact may_un k (by simpa using hkn) m.n m.r m.first m.last m.commit A6 A7 A8 m.V.length m.B.length m.S.length c6 c7 c8 _ w
end Go.Proofs.YtfkfboigkpofkaaDoor.M
end
