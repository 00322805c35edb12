/- Parts of a proof, pruned and joined by flat.py out of: MU, MV, MW. -/
import Derived.Test.YtfkfboigkpofkaaDoorCTakes10
section
namespace Go.Proofs.YtfkfboigkpofkaaDoor.M
open Go.RowKit Go.Proofs.YtfkfboigkpofkaaDoorW.PrintWords Go.Proofs.YtfkfboigkpofkaaDoorW.PrintLast Go.Proofs.YtfkfboigkpofkaaDoorW.PrintMore Go.Proofs.YtfkfboigkpofkaaDoor.PMsgPuts
set_option linter.unusedVariables false
set_option linter.unusedSimpArgs false
attribute [local go_sem high] eqA24
abbrev Mg.ofs (m : Mg) (A6 A7 A8 : Option Addr) (c6 c7 c8 : Nat) : Array Value := #[.int .i64 m.k, .int .u64 m.n, .int .i64 m.r, .int .u64 m.first, .int .u64 m.last, .int .u64 m.commit, .slice A6 m.V.length c6, .slice A7 m.B.length c7, .slice A8 m.S.length c8]
theorem new1 (w : World) (o o2 : Obj) : ((w.alloc o).alloc o2).heap[w.heap.size + 1]? = some o2 := by
  have h := heap_alloc_new (w.alloc o) o2
  simpa using h
set_option maxHeartbeats 1000000 in
set_option maxRecDepth 100000 in
theorem of_calls (m : Mg) (hk0 : 0 ≤ m.k) (hk1 : m.k < 256) (A6 A7 A8 : Option Addr) (c6 c7 c8 : Nat) (w : World) :
    Calls Tryd.prog 13 #[.agg (m.cells A6 A7 A8 c6 c7 c8)] w fun e w' => e = .returned (.agg (m.ofs A6 A7 A8 c6 c7 c8)) ∧ Below w.heap.size w w' := by
  have hX := new1 w (.cells (m.cells A6 A7 A8 c6 c7 c8) 29) (.cells (m.ofs A6 A7 A8 c6 c7 c8) 39)
  go_enter Tryd.func13, Tryd.ntmps13
  go_wp2
  refine bodyPost_ret (results_cell_row rfl _ _ (w.heap.size + 1) 39 _ (0, 0) _ rfl hX Tryd.underlying39 rfl (by kernel_rfl)) rfl ?_
  exact ⟨rfl, bel2 _ _ _⟩
structure Pair (w W : World) (g1 g2 : Nat) (a b : Array Value) : Prop where
  x : W.heap[g1]? = some (.cells a 39 (0, 0))
  y : W.heap[g2]? = some (.cells b 39 (0, 0))
  bel : Below w.heap.size w W
theorem Pair.drewN {w W : World} {g1 g2 : Nat} {a b : Array Value} (h : Pair w W g1 g2 a b) (q : Nat) : Pair w (W.drewN q) g1 g2 a b := ⟨h.x, h.y, pw_below_drewN h.bel q⟩
theorem pair_start (w : World) (a b : Array Value) : Pair w ((w.alloc (.cells a 39)).alloc (.cells b 39)) w.heap.size (w.heap.size + 1) a b :=
  ⟨blk_alloc (heap_alloc_new w _) _, new1 w _ _, bel2 _ _ _⟩
theorem Pair.str {w W : World} {g1 g2 : Nat} {a b : Array Value} (h : Pair w W g1 g2 a b) {A : Option Addr} {n c : Nat} {xs : List Int} (hr : Kd.C (Kd.int .u8) w A n xs) : (convert 27 9 (.slice A n c)).run Tryd.prog W = .ok (.string (strOfNums xs)) W :=
  Kd.C_string (P := Tryd.prog) (c := c) Tryd.underlying27 Tryd.underlying5 Tryd.underlying9 (Kd.C_below hr h.bel)
theorem Pair.at_ {w W : World} {g1 g2 : Nat} {a b : Array Value} (h : Pair w W g1 g2 a b) {p : Addr} {v : Value} (hc : w.cell? p = some v) : W.cell? p = some v := pw_cell_below h.bel hc
set_option maxHeartbeats 2000000 in
set_option maxRecDepth 100000 in
theorem same_calls (m : Mg) (hB9 : m.B.length < 9223372036854775807) (hV9 : m.V.length < 9223372036854775807) (A6 A7 A8 : Option Addr) (c6 c7 c8 : Nat) (E6 E7 E8 : Option Addr) (d6 d7 d8 : Nat) (w : World) (ha : m.At w A6 A7 A8) (hb : m.At w E6 E7 E8) :
    Calls Tryd.prog 12 #[.agg (m.ofs A6 A7 A8 c6 c7 c8), .agg (m.ofs E6 E7 E8 d6 d7 d8)] w fun e w' => e = .returned (.bool true) ∧ Below w.heap.size w w' := by
  have P0 := Aside0.mk (pair_start w (m.ofs A6 A7 A8 c6 c7 c8) (m.ofs E6 E7 E8 d6 d7 d8))
  have hv1 := P0.out.str (c := c8) ha.S
  have hv2 := P0.out.str (c := d8) hb.S
  have Ha := Aside0.mk ha
  have Hb := Aside0.mk hb
  clear ha hb
  go_enter Tryd.func12, Tryd.ntmps12
  go_wp2
  clear hv1 hv2
  go_loopg [5] m.B.length (fun kq v5 w' => ∃ i : Nat, v5 = .int .i64 i ∧ Aside0 (kq + i = m.B.length) ∧ Aside0 (Pair w w' w.heap.size (w.heap.size + 1) (m.ofs A6 A7 A8 c6 c7 c8) (m.ofs E6 E7 E8 d6 d7 d8)))
  case atStart => exact ⟨0, rfl, ⟨rfl⟩, P0⟩
  case round =>
    obtain ⟨i, rfl, hk, P1⟩ := hrel
    have hz1 := (blk_cell P1.out.x 7).trans rfl
    have hz2 := (blk_cell P1.out.y 7).trans rfl
    cases gk with
    | zero =>
      have c1 : decide ((i : Int) < (m.B.length : Int)) = false := decide_eq_false (by have := hk.out; omega)
      have c2 : decide (i < m.B.length) = false := decide_eq_false (by have := hk.out; omega)
      go_wp2
      clear c1 c2 hz1 hz2
      go_loopg [6] m.V.length (fun kq v6 w' => ∃ j : Nat, v6 = .int .i64 j ∧ Aside0 (kq + j = m.V.length) ∧ Aside0 (Pair w w' w.heap.size (w.heap.size + 1) (m.ofs A6 A7 A8 c6 c7 c8) (m.ofs E6 E7 E8 d6 d7 d8)))
      case atStart => exact ⟨0, rfl, ⟨rfl⟩, P1⟩
      case round =>
        clear hk
        obtain ⟨j, rfl, hk, P2⟩ := hrel
        have hz1 := (blk_cell P2.out.x 6).trans rfl
        have hz2 := (blk_cell P2.out.y 6).trans rfl
        cases gk with
        | zero =>
          have c1 : decide ((j : Int) < (m.V.length : Int)) = false := decide_eq_false (by have := hk.out; omega)
          have c2 : decide (j < m.V.length) = false := decide_eq_false (by have := hk.out; omega)
          go_wp2
          go_ret
          exact ⟨rfl, P2.out.bel⟩
        | succ k2 =>
          have c1 : decide ((j : Int) < (m.V.length : Int)) = true := decide_eq_true (by have := hk.out; omega)
          have c2 : decide (j < m.V.length) = true := decide_eq_true (by have := hk.out; omega)
          have p0 : 0 ≤ (j : Int) := by omega
          have q0 : (j : Int) < (m.V.length : Int) := by have := hk.out; omega
          obtain ⟨ad1, B1, e1, rfl, hx1, hx2, hx3, hx4, _, hi1⟩ := at_T52 Ha.out.V (j : Int) p0 q0
          obtain ⟨ad2, B2, e2, rfl, hy1, hy2, hy3, hy4, _, hi2⟩ := at_T52 Hb.out.V (j : Int) p0 q0
          replace hx1 := P2.out.at_ hx1
          replace hx2 := P2.out.at_ hx2
          replace hx3 := P2.out.at_ hx3
          replace hx4 := P2.out.at_ hx4
          replace hy1 := P2.out.at_ hy1
          replace hy2 := P2.out.at_ hy2
          replace hy3 := P2.out.at_ hy3
          replace hy4 := P2.out.at_ hy4
          rw [Int.toNat_natCast] at hx1 hx2 hx3 hx4 hy1 hy2 hy3 hy4
          have hv1 := fun q => (P2.out.drewN q).str (c := e1) hi1
          have hv2 := fun q => (P2.out.drewN q).str (c := e2) hi2
          clear hi1 hi2
          have hw : (j : Int) < 9223372036854775806 := by omega
          replace p0 := eq_true p0
          replace q0 := eq_true q0
          go_wp2
          go_quiet (fail)
          go_wp2
          go_roundg k2
          case measure => omega
          case rel => exact ⟨j + 1, by go_num, ⟨by have := hk.out; omega⟩, ⟨P2.out.drewN _⟩⟩
    | succ k2 =>
      have c1 : decide ((i : Int) < (m.B.length : Int)) = true := decide_eq_true (by have := hk.out; omega)
      have c2 : decide (i < m.B.length) = true := decide_eq_true (by have := hk.out; omega)
      have p0 : 0 ≤ (i : Int) := by omega
      have q0 : (i : Int) < (m.B.length : Int) := by have := hk.out; omega
      obtain ⟨ad1, B1, e1, rfl, hx1, _, hi1⟩ := at_L4 Ha.out.B (i : Int) p0 q0
      obtain ⟨ad2, B2, e2, rfl, hx2, _, hi2⟩ := at_L4 Hb.out.B (i : Int) p0 q0
      replace hx1 := P1.out.at_ hx1
      replace hx2 := P1.out.at_ hx2
      rw [Int.toNat_natCast] at hx1 hx2
      have hv1 := fun q => (P1.out.drewN q).str (c := e1) hi1
      have hv2 := fun q => (P1.out.drewN q).str (c := e2) hi2
      clear hi1 hi2
      have hw : (i : Int) < 9223372036854775806 := by omega
      replace p0 := eq_true p0
      replace q0 := eq_true q0
      go_wp2
      go_quiet (fail)
      go_wp2
      go_roundg k2
      case measure => omega
      case rel => exact ⟨i + 1, by go_num, ⟨by have := hk.out; omega⟩, ⟨P1.out.drewN _⟩⟩
end Go.Proofs.YtfkfboigkpofkaaDoor.M
end
section
namespace Go.Proofs.YtfkfboigkpofkaaDoor.M
open Go.RowKit Go.Proofs.YtfkfboigkpofkaaDoorW.PrintWords Go.Proofs.YtfkfboigkpofkaaDoorW.PrintLast Go.Proofs.YtfkfboigkpofkaaDoorW.PrintMore Go.Proofs.YtfkfboigkpofkaaDoor.PMsgPuts
set_option linter.unusedVariables false
set_option linter.unusedSimpArgs false
theorem fld_big {k : Nat} (h : 9 ≤ k) : fldS k = ⟨#[]⟩ := by
  unfold fldS
  have : fld k = [] := by
    unfold fld
    split <;> first | rfl | omega
  rw [this]
set_option maxHeartbeats 1000000 in
set_option maxRecDepth 100000 in
theorem fields_calls (k : Nat) (kI : Int) (hk : kI = k) (w : World) : Calls Tryd.prog 28 #[.int .i64 kI] w fun e w' => e = .returned (.string (fldS k)) ∧ w = w' := by
  subst hk
  by_cases h9 : k < 9
  · match k, h9 with
    | 0, _ | 1, _ | 2, _ | 3, _ | 4, _ | 5, _ | 6, _ | 7, _ | 8, _ =>
      go_enter Tryd.func28, Tryd.ntmps28
      go_wp2
      go_ret
      exact ⟨rfl, rfl⟩
  · have e := fld_big (k := k) (by omega)
    have h1 : ((k : Int) == 1) = false := beq_eq_false_iff_ne.mpr (by omega)
    have h2 : ((k : Int) == 2) = false := beq_eq_false_iff_ne.mpr (by omega)
    have h3 : ((k : Int) == 3) = false := beq_eq_false_iff_ne.mpr (by omega)
    have h4 : ((k : Int) == 4) = false := beq_eq_false_iff_ne.mpr (by omega)
    have h5 : ((k : Int) == 5) = false := beq_eq_false_iff_ne.mpr (by omega)
    have h6 : ((k : Int) == 6) = false := beq_eq_false_iff_ne.mpr (by omega)
    have h7 : ((k : Int) == 7) = false := beq_eq_false_iff_ne.mpr (by omega)
    have h8 : ((k : Int) == 8) = false := beq_eq_false_iff_ne.mpr (by omega)
    rw [e]
    clear e h9
    go_enter Tryd.func28, Tryd.ntmps28
    go_wp2
    go_ret
    exact ⟨rfl, rfl⟩
def hasI (k : Nat) (c : Int) : Bool := (fld k).any fun x => (x.toNat : Int) == c
theorem any_take (l : List UInt8) (c : Int) (i : Nat) (h : i < l.length) : (l.take (i + 1)).any (fun x => (x.toNat : Int) == c) = ((l.take i).any (fun x => (x.toNat : Int) == c) || ((l[i].toNat : Int) == c)) := by
  rw [List.take_succ_eq_append_getElem h, List.any_append]
  simp
set_option maxHeartbeats 1000000 in
set_option maxRecDepth 100000 in
theorem has_calls (k : Nat) (kI c : Int) (hk : kI = k) (w : World) : Calls Tryd.prog 30 #[.int .i64 kI, .int .u8 c] w fun e w' => e = .returned (.bool (hasI k c)) ∧ w = w' := by
  have hs : (fldS k).size = (fld k).length := rfl
  have hs4 : (fld k).length < 100 := by unfold fld; split <;> decide
  have HS := Aside0.mk hs
  have HS4 := Aside0.mk hs4
  have HK := Aside0.mk hk
  clear hs hs4 hk
  go_enter Tryd.func30, Tryd.ntmps30
  go_wp2_with (first | (go_at_call 28; refine (fields_calls k _ HK.out _).mono ?_; rintro e w' ⟨rfl, rfl⟩))
  go_loopg [6] (fld k).length (fun kq v6 w' => ∃ i : Nat, v6 = .int .i64 i ∧ Aside0 (kq + i = (fld k).length) ∧ Aside0 (((fld k).take i).any (fun x => (x.toNat : Int) == c) = false) ∧ w = w')
  case atStart => exact ⟨0, rfl, ⟨rfl⟩, ⟨rfl⟩, rfl⟩
  case round =>
    obtain ⟨i, rfl, hq, ha, rfl⟩ := hrel
    cases gk with
    | zero =>
      have c1 : decide (i < (fldS k).size) = false := decide_eq_false (by have := hq.out; have := HS.out; omega)
      have c2 : decide ((i : Int) < ((fldS k).size : Int)) = false := decide_eq_false (by have := hq.out; have := HS.out; omega)
      have e : hasI k c = false := by
        have h1 := ha.out
        rw [List.take_of_length_le (by have := hq.out; omega)] at h1
        exact h1
      have e' := Aside0.mk e
      clear e
      go_wp2
      go_ret
      exact ⟨by rw [e'.out]; rfl, rfl⟩
    | succ k2 =>
      have hi : i < (fld k).length := by have := hq.out; omega
      have hi2 : i < (fldS k).size := by rw [HS.out]; exact hi
      have c1 : decide (i < (fldS k).size) = true := decide_eq_true hi2
      have hw : (i : Int) < 100 := by have := HS4.out; omega
      have he : (fldS k)[i] = (fld k)[i] := rfl
      by_cases hc : (((fldS k)[i].toNat : Int) == c) = true
      · have e : hasI k c = true := by
          unfold hasI
          rw [List.any_eq_true]
          exact ⟨(fld k)[i], List.getElem_mem hi, hc⟩
        have e' := Aside0.mk e
        clear e he
        go_wp2
        go_ret
        exact ⟨by rw [e'.out]; rfl, rfl⟩
      · replace hc : (((fldS k)[i].toNat : Int) == c) = false := by simpa using hc
        have h2 := Aside0.mk (any_take (fld k) c i hi)
        have hc' := Aside0.mk hc
        clear he
        go_wp2
        go_roundg k2
        case measure => omega
        case rel => exact ⟨i + 1, by go_num, ⟨by have := hq.out; omega⟩, ⟨by rw [h2.out, ha.out]; exact hc'.out⟩, rfl⟩
set_option maxHeartbeats 1000000 in
set_option maxRecDepth 100000 in
theorem place29 (n r : Int) (w : World) :
    Calls Tryd.prog 29 #[.agg #[.int .u64 n, .int .i64 r]] w fun e w' => e = .returned (.bool (placeB r)) ∧ w.alloc (.cells #[.int .u64 n, .int .i64 r] 24) = w' := by
  by_cases h : 0 ≤ r
  · go_enter Tryd.func29, Tryd.ntmps29
    go_wp2
    go_ret
    exact ⟨by rw [show placeB r = decide (r ≤ 6) from by simp [placeB, h]; omega]; rfl, rfl⟩
  · go_enter Tryd.func29, Tryd.ntmps29
    go_wp2
    go_ret
    exact ⟨by rw [show placeB r = false from by simp [placeB]; omega]; rfl, rfl⟩
end Go.Proofs.YtfkfboigkpofkaaDoor.M
end
section
namespace Go.Proofs.YtfkfboigkpofkaaDoor.M
open Go.RowKit Go.Proofs.YtfkfboigkpofkaaDoorW.PrintWords Go.Proofs.YtfkfboigkpofkaaDoorW.PrintLast Go.Proofs.YtfkfboigkpofkaaDoorW.PrintMore Go.Proofs.YtfkfboigkpofkaaDoor.PMsgPuts
set_option linter.unusedVariables false
set_option linter.unusedSimpArgs false
def votesB : Int → List S52 → Bool
  | _, [] => true
  | a, x :: t => decide (a < x.f0) && placeB x.f1.f1 && votesB x.f0 t
def topU : Int := 18446744073709551615
def mayB (k : Nat) (n r first last commit : Int) (nv nb ns : Nat) (L : Bool) : Bool :=
  knownB k && placeB r && (hasI k 98 || (n == 0 && r == 0)) && (hasI k 99 || commit == 0) && (hasI k 108 || last == 0) && (hasI k 102 || first == 0) &&
  (hasI k 112 || ns == 0) && (hasI k 115 || nb == 0) && (hasI k 118 || nv == 0) && (!hasI k 102 || !(first == 0)) && (!hasI k 108 || decide (first ≤ last)) && decide (nb ≤ 16) && (!(k == 7) || !(nb == 0)) && decide (nv ≤ 256) &&
  (decide (nb ≤ 1) || decide (first ≤ topU - (nb - 1))) && L
theorem boolF {b : Bool} (h : b = false) : Ending.returned (.bool false) = .returned (.bool b) := by rw [h]
theorem boolT {b : Bool} (h : b = true) : Ending.returned (.bool true) = .returned (.bool b) := by rw [h]
abbrev refV (k n r first last commit : Int) (V B S : Value) : Value := .agg #[.int .i64 k, .int .u64 n, .int .i64 r, .int .u64 first, .int .u64 last, .int .u64 commit, V, B, S]
theorem may_topN {k : Nat} {n r first last commit : Int} {nv nb ns : Nat} {L : Bool} (h1 : 1 < nb) (h : 18446744073709551615 - ((nb : Int) - 1) < first) : mayB k n r first last commit nv nb ns L = false := by
  unfold mayB
  rw [decide_eq_false (show ¬ nb ≤ 1 by omega), decide_eq_false (show ¬ first ≤ topU - ((nb : Int) - 1) by unfold topU; omega)]
  simp only [Bool.or_false, Bool.and_false, Bool.false_and]
def abv (commit : Int) (V : List S52) (j : Nat) : Int := if j = 0 then commit else (rd_T52 V ((j : Int) - 1)).f0
theorem abv_succ (commit : Int) (V : List S52) (j : Nat) : abv commit V (j + 1) = (rd_T52 V (j : Int)).f0 := by
  unfold abv
  rw [if_neg (by omega), show (((j + 1 : Nat) : Int) - 1) = (j : Int) by omega]
theorem votes_step (commit : Int) (V : List S52) (j : Nat) (h : j < V.length) : votesB (abv commit V j) (V.drop j) = (decide (abv commit V j < (rd_T52 V (j : Int)).f0) && placeB (rd_T52 V (j : Int)).f1.f1 && votesB (abv commit V (j + 1)) (V.drop (j + 1))) := by
  have e : rd_T52 V (j : Int) = V[j] := by
    show V.getD (j : Int).toNat z52 = _
    rw [Int.toNat_natCast, List.getD_eq_getElem?_getD, List.getElem?_eq_getElem h]
    rfl
  have e2 : abv commit V (j + 1) = V[j].f0 := by
    unfold abv
    rw [if_neg (by omega), show (((j + 1 : Nat) : Int) - 1) = (j : Int) by omega, e]
  rw [e, e2, List.drop_eq_getElem_cons h]
  rfl
set_option maxHeartbeats 4000000 in
set_option maxRecDepth 100000 in
theorem may_1 (n r first last commit : Int) (A6 A7 A8 : Option Addr) (nv nb ns c6 c7 c8 : Nat) (w : World) (hfv : nv < 9223372036854775807) (hfb : nb < 9223372036854775807) :
    Calls Tryd.prog 14 #[refV 1 n r first last commit (.slice A6 nv c6) (.slice A7 nb c7) (.slice A8 ns c8)] w fun e w' => e = .returned (.bool (mayB 1 n r first last commit nv nb ns true)) ∧ Below w.heap.size w w' := by
  have hk : Aside0 (knownB 1 = true) := ⟨by decide⟩
  have hb : hasI 1 98 = true := by decide
  have hc : hasI 1 99 = false := by decide
  have hl : hasI 1 108 = false := by decide
  have hf : hasI 1 102 = false := by decide
  have hpp : hasI 1 112 = false := by decide
  have hs : hasI 1 115 = false := by decide
  have hv : hasI 1 118 = false := by decide
  by_cases hp : placeB r = true
  rotate_left
  · replace hp : placeB r = false := by simpa using hp
    go_enter Tryd.func14, Tryd.ntmps14
    repeat' (first | (go_at_call 28; refine (fields_calls 1 _ rfl _).mono ?_; rintro e w' ⟨rfl, rfl⟩; rw [show fldS 1 = ⟨#[98]⟩ from rfl]; dsimp only) | (go_at_call 29; refine (place29 _ _ _).mono ?_; rintro e w' ⟨rfl, rfl⟩; dsimp only) | (go_at_call 30; refine (has_calls 1 _ _ rfl _).mono ?_; rintro e w' ⟨rfl, rfl⟩; dsimp only) | go_values | go_skip | go_guarded | go_step)
    go_ret
    exact ⟨boolF (by simp [mayB, hp]), (by first | exact bel2 _ _ _ | exact bel1 _ _)⟩
  by_cases ec : commit = 0
  rotate_left
  · have ec' : (commit == 0) = false := by simpa using ec
    go_enter Tryd.func14, Tryd.ntmps14
    repeat' (first | (go_at_call 28; refine (fields_calls 1 _ rfl _).mono ?_; rintro e w' ⟨rfl, rfl⟩; rw [show fldS 1 = ⟨#[98]⟩ from rfl]; dsimp only) | (go_at_call 29; refine (place29 _ _ _).mono ?_; rintro e w' ⟨rfl, rfl⟩; dsimp only) | (go_at_call 30; refine (has_calls 1 _ _ rfl _).mono ?_; rintro e w' ⟨rfl, rfl⟩; dsimp only) | go_values | go_skip | go_guarded | go_step)
    go_ret
    exact ⟨boolF (by simp [mayB, ec, hc]), (by first | exact bel2 _ _ _ | exact bel1 _ _)⟩
  subst ec
  by_cases el : last = 0
  rotate_left
  · have el' : (last == 0) = false := by simpa using el
    go_enter Tryd.func14, Tryd.ntmps14
    repeat' (first | (go_at_call 28; refine (fields_calls 1 _ rfl _).mono ?_; rintro e w' ⟨rfl, rfl⟩; rw [show fldS 1 = ⟨#[98]⟩ from rfl]; dsimp only) | (go_at_call 29; refine (place29 _ _ _).mono ?_; rintro e w' ⟨rfl, rfl⟩; dsimp only) | (go_at_call 30; refine (has_calls 1 _ _ rfl _).mono ?_; rintro e w' ⟨rfl, rfl⟩; dsimp only) | go_values | go_skip | go_guarded | go_step)
    go_ret
    exact ⟨boolF (by simp [mayB, el, hl]), (by first | exact bel2 _ _ _ | exact bel1 _ _)⟩
  subst el
  by_cases ef : first = 0
  rotate_left
  · have ef' : (first == 0) = false := by simpa using ef
    go_enter Tryd.func14, Tryd.ntmps14
    repeat' (first | (go_at_call 28; refine (fields_calls 1 _ rfl _).mono ?_; rintro e w' ⟨rfl, rfl⟩; rw [show fldS 1 = ⟨#[98]⟩ from rfl]; dsimp only) | (go_at_call 29; refine (place29 _ _ _).mono ?_; rintro e w' ⟨rfl, rfl⟩; dsimp only) | (go_at_call 30; refine (has_calls 1 _ _ rfl _).mono ?_; rintro e w' ⟨rfl, rfl⟩; dsimp only) | go_values | go_skip | go_guarded | go_step)
    go_ret
    exact ⟨boolF (by simp [mayB, ef, hf]), (by first | exact bel2 _ _ _ | exact bel1 _ _)⟩
  subst ef
  by_cases ens : ns = 0
  rotate_left
  · replace ens : 0 < ns := by omega
    go_enter Tryd.func14, Tryd.ntmps14
    repeat' (first | (go_at_call 28; refine (fields_calls 1 _ rfl _).mono ?_; rintro e w' ⟨rfl, rfl⟩; rw [show fldS 1 = ⟨#[98]⟩ from rfl]; dsimp only) | (go_at_call 29; refine (place29 _ _ _).mono ?_; rintro e w' ⟨rfl, rfl⟩; dsimp only) | (go_at_call 30; refine (has_calls 1 _ _ rfl _).mono ?_; rintro e w' ⟨rfl, rfl⟩; dsimp only) | go_values | go_skip | go_guarded | go_step)
    go_ret
    exact ⟨boolF (by simp [mayB, Nat.ne_of_gt ens, hpp]), (by first | exact bel2 _ _ _ | exact bel1 _ _)⟩
  subst ens
  by_cases enb : nb = 0
  rotate_left
  · replace enb : 0 < nb := by omega
    go_enter Tryd.func14, Tryd.ntmps14
    repeat' (first | (go_at_call 28; refine (fields_calls 1 _ rfl _).mono ?_; rintro e w' ⟨rfl, rfl⟩; rw [show fldS 1 = ⟨#[98]⟩ from rfl]; dsimp only) | (go_at_call 29; refine (place29 _ _ _).mono ?_; rintro e w' ⟨rfl, rfl⟩; dsimp only) | (go_at_call 30; refine (has_calls 1 _ _ rfl _).mono ?_; rintro e w' ⟨rfl, rfl⟩; dsimp only) | go_values | go_skip | go_guarded | go_step)
    go_ret
    exact ⟨boolF (by simp [mayB, Nat.ne_of_gt enb, hs]), (by first | exact bel2 _ _ _ | exact bel1 _ _)⟩
  subst enb
  by_cases env : nv = 0
  rotate_left
  · replace env : 0 < nv := by omega
    go_enter Tryd.func14, Tryd.ntmps14
    repeat' (first | (go_at_call 28; refine (fields_calls 1 _ rfl _).mono ?_; rintro e w' ⟨rfl, rfl⟩; rw [show fldS 1 = ⟨#[98]⟩ from rfl]; dsimp only) | (go_at_call 29; refine (place29 _ _ _).mono ?_; rintro e w' ⟨rfl, rfl⟩; dsimp only) | (go_at_call 30; refine (has_calls 1 _ _ rfl _).mono ?_; rintro e w' ⟨rfl, rfl⟩; dsimp only) | go_values | go_skip | go_guarded | go_step)
    go_ret
    exact ⟨boolF (by simp [mayB, Nat.ne_of_gt env, hv]), (by first | exact bel2 _ _ _ | exact bel1 _ _)⟩
  subst env
  go_enter Tryd.func14, Tryd.ntmps14
  repeat' (first | (go_at_call 28; refine (fields_calls 1 _ rfl _).mono ?_; rintro e w' ⟨rfl, rfl⟩; rw [show fldS 1 = ⟨#[98]⟩ from rfl]; dsimp only) | (go_at_call 29; refine (place29 _ _ _).mono ?_; rintro e w' ⟨rfl, rfl⟩; dsimp only) | (go_at_call 30; refine (has_calls 1 _ _ rfl _).mono ?_; rintro e w' ⟨rfl, rfl⟩; dsimp only) | go_values | go_skip | go_guarded | go_step)
  go_loopg [3] 0 (fun kq v3 w' => v3 = .int .i64 0 ∧ Aside0 (Below w.heap.size w w') ∧ Aside0 (w'.heap[w.heap.size]? = some (.cells #[.int .i64 1, .int .u64 n, .int .i64 r, .int .u64 0, .int .u64 0, .int .u64 0, .slice A6 0 c6, .slice A7 0 c7, .slice A8 0 c8] 39 (0, 0))))
  case atStart => exact ⟨rfl, ⟨bel2 _ _ _⟩, ⟨blk_alloc (heap_alloc_new w _) _⟩⟩
  case round =>
    obtain ⟨rfl, hB, hX⟩ := hrel
    have hz := (blk_cell hX.out 6).trans rfl
    go_wp2
    go_ret
    exact ⟨boolT (by have hk' := hk.out; simp_all [mayB]), hB.out⟩
end Go.Proofs.YtfkfboigkpofkaaDoor.M
end
