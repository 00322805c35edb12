/- Parts of a proof, pruned and joined by flat.py out of: MB. -/
import Derived.Test.YtfkfboigkpofkaaDoorCOwn1
section
namespace Go.Proofs.YtfkfboigkpofkaaDoor.M
open Go.RowKit Go.Proofs.YtfkfboigkpofkaaDoorW.PrintWords Go.Proofs.YtfkfboigkpofkaaDoorW.PrintLast Go.Proofs.YtfkfboigkpofkaaDoorW.PrintMore Go.Proofs.YtfkfboigkpofkaaDoor.PMsgPuts
def placeB (r : Int) : Bool := decide (0 ≤ r ∧ r < 7)
set_option maxHeartbeats 400000 in
theorem place_calls (n r : Int) (w : World) :
    Calls Tryd.prog 23 #[.agg #[.int .u64 n, .int .i64 r]] w fun e w' => e = .returned (.bool (placeB r)) ∧ w.alloc (.cells #[.int .u64 n, .int .i64 r] 24) = w' := by
  by_cases h : 0 ≤ r
  · go_enter Tryd.func23, Tryd.ntmps23
    go_wp2
    go_ret
    exact ⟨by rw [show placeB r = decide (r < 7) from by simp [placeB, h]]; rfl, rfl⟩
  · go_enter Tryd.func23, Tryd.ntmps23
    go_wp2
    go_ret
    exact ⟨by rw [show placeB r = false from by simp [placeB]; omega]; rfl, rfl⟩
theorem no_quiet (c : UInt8) (k g : Nat) (hk : k < 9) (w : World) (T : Tabs w) (hg : w.cell? ⟨g, 0, none⟩ = some (.int .u8 k)) (q : Nat) :
    Calls Tryd.prog 21 #[.string ⟨#[c]⟩, .pointer (some ⟨g, 0, none⟩)] (w.drewN q) fun e w' => e = .returned (.bool (!hasB k c)) ∧ w' = w.drewN q :=
  (no_calls c k g hk (w.drewN q) (T.drewN q) hg).mono fun _ _ h => ⟨h.1, h.2.symm⟩
theorem no_at (c : UInt8) (k g : Nat) (hk : k < 9) (w : World) (T : Tabs w) (hg : w.cell? ⟨g, 0, none⟩ = some (.int .u8 k)) (q : Nat) :
    Calls Tryd.prog 21 #[.string ⟨#[c]⟩, .pointer (some ⟨g, 0, none⟩)] (w.drewN q) fun e w' => e = .returned (.bool (!hasB k c)) ∧ w.drewN q = w' :=
  no_calls c k g hk (w.drewN q) (T.drewN q) hg
def checkB (k : Nat) (n r first last commit : Int) (nv nb ns : Nat) (L : Bool) : Bool :=
  knownB k && (hasB k 98 || (n == 0 && r == 0)) && placeB r && (hasB k 99 || commit == 0) && (hasB k 102 == !(first == 0)) && (hasB k 108 || last == 0) && (!hasB k 108 || decide (first ≤ last)) &&
  (hasB k 112 || ns == 0) && (hasB k 115 || nb == 0) && (hasB k 118 || nv == 0) && L
def errI (b : Bool) : Int := if b then 0 else 1
theorem errI_no {b : Bool} (h : b = false) : Ending.returned (.int .i64 1) = .returned (.int .i64 (errI b)) := by rw [h]; rfl
theorem errI_yes {b : Bool} (h : b = true) : Ending.returned (.int .i64 0) = .returned (.int .i64 (errI b)) := by rw [h]; rfl
abbrev msgV (k n r first last commit : Int) (V B S : Value) : Value := .agg #[.int .u8 k, .int .u64 n, .int .i64 r, .int .u64 first, .int .u64 last, .int .u64 commit, V, B, S]
def Looks (w : World) (k n r first last commit : Int) (V B S : Value) (L : Bool) : Prop :=
  ∀ W : World, Below w.heap.size w W → Calls Tryd.prog 24 #[msgV k n r first last commit V B S] W fun e w' => e = .returned (.bool L) ∧ Below W.heap.size W w'
theorem Looks.at_ {w W : World} {k n r first last commit : Int} {V B S : Value} {L : Bool} (h : Aside0 (Looks w k n r first last commit V B S L)) (hb : Below w.heap.size w W) :
    Calls Tryd.prog 24 #[.agg #[.int .u8 k, .int .u64 n, .int .i64 r, .int .u64 first, .int .u64 last, .int .u64 commit, V, B, S]] W fun e w' => e = .returned (.bool L) ∧ Below W.heap.size W w' := h.out W hb
theorem bel1 (w : World) (o : Obj) : Below w.heap.size w (w.alloc o) := below_alloc (Below.refl _ _) _
theorem bel2 (w : World) (o p : Obj) : Below w.heap.size w ((w.alloc o).alloc p) := below_alloc (bel1 w o) _
theorem bel2q (w : World) (o p : Obj) (q : Nat) : Below w.heap.size w (((w.alloc o).alloc p).drewN q) := pw_below_drewN (bel2 w o p) q
set_option maxHeartbeats 4000000 in
set_option maxRecDepth 100000 in
theorem check_1 (n r first last commit : Int) (A6 A7 A8 : Option Addr) (nv nb ns c6 c7 c8 : Nat) (L : Bool) (w : World) (T : Tabs w) (hL0 : Looks w 1 n r first last commit (.slice A6 nv c6) (.slice A7 nb c7) (.slice A8 ns c8) L) :
    Calls Tryd.prog 10 #[msgV 1 n r first last commit (.slice A6 nv c6) (.slice A7 nb c7) (.slice A8 ns c8)] w fun e w' => e = .returned (.int .i64 (errI (checkB 1 n r first last commit nv nb ns L))) ∧ Below w.heap.size w w' := by
  have hL := Aside0.mk hL0
  clear hL0
  have hk : Aside0 (knownB 1 = true) := ⟨by decide⟩
  have hb : hasB 1 98 = true := by decide
  have hc : hasB 1 99 = false := by decide
  have hf : hasB 1 102 = false := by decide
  have hl : hasB 1 108 = false := by decide
  have hpp : hasB 1 112 = false := by decide
  have hs : hasB 1 115 = false := by decide
  have hv : hasB 1 118 = false := by decide
  by_cases hp : placeB r = true
  rotate_left
  · replace hp : placeB r = false := by simpa using hp
    go_enter Tryd.func10, Tryd.ntmps10
    repeat' (first | (go_at_call 20; refine (known_calls _ (by omega) _ (T.al _)).mono ?_; rintro e w' ⟨rfl, rfl⟩; dsimp only; rw [show knownB _ = true from hk.out]) | (go_at_call 23; refine (place_calls _ _ _).mono ?_; rintro e w' ⟨rfl, rfl⟩; dsimp only) | ((with_reducible refine gate_tmp rfl ?_); refine closL_ _ rfl rfl Tryd.func21 (by kernel_rfl) rfl #[.string ⟨#[_]⟩, .pointer (some ⟨w.heap.size, 0, none⟩)] rfl rfl (by simp only [List.map_toArray, List.map_cons, List.map_nil]; rfl) ?_; first | ((with_reducible refine (no_calls _ 1 _ (by omega) _ (T.al _) (cell_new _ _ _ _)).mono ?_); rintro e w' ⟨rfl, rfl⟩; refine ⟨_, rfl, ?_⟩) | ((with_reducible refine (no_calls _ 1 _ (by omega) _ ((T.al _).al _) (cell_new1 _ _ _ _ _)).mono ?_); rintro e w' ⟨rfl, rfl⟩; refine ⟨_, rfl, ?_⟩)) | go_values | go_skip | go_guarded | go_step)
    go_ret
    exact ⟨errI_no (by simp [checkB, hp]), (by first | exact bel2q _ _ _ _ | exact bel2 _ _ _ | exact bel1 _ _)⟩
  by_cases ec : commit = 0
  rotate_left
  · have ec' : (commit == 0) = false := by simpa using ec
    go_enter Tryd.func10, Tryd.ntmps10
    repeat' (first | (go_at_call 20; refine (known_calls _ (by omega) _ (T.al _)).mono ?_; rintro e w' ⟨rfl, rfl⟩; dsimp only; rw [show knownB _ = true from hk.out]) | (go_at_call 23; refine (place_calls _ _ _).mono ?_; rintro e w' ⟨rfl, rfl⟩; dsimp only) | ((with_reducible refine gate_tmp rfl ?_); refine closL_ _ rfl rfl Tryd.func21 (by kernel_rfl) rfl #[.string ⟨#[_]⟩, .pointer (some ⟨w.heap.size, 0, none⟩)] rfl rfl (by simp only [List.map_toArray, List.map_cons, List.map_nil]; rfl) ?_; first | ((with_reducible refine (no_calls _ 1 _ (by omega) _ (T.al _) (cell_new _ _ _ _)).mono ?_); rintro e w' ⟨rfl, rfl⟩; refine ⟨_, rfl, ?_⟩) | ((with_reducible refine (no_calls _ 1 _ (by omega) _ ((T.al _).al _) (cell_new1 _ _ _ _ _)).mono ?_); rintro e w' ⟨rfl, rfl⟩; refine ⟨_, rfl, ?_⟩)) | go_values | go_skip | go_guarded | go_step)
    go_ret
    exact ⟨errI_no (by simp [checkB, ec, hc]), (by first | exact bel2q _ _ _ _ | exact bel2 _ _ _ | exact bel1 _ _)⟩
  subst ec
  by_cases ef : first = 0
  rotate_left
  · have ef' : (first == 0) = false := by simpa using ef
    go_enter Tryd.func10, Tryd.ntmps10
    repeat' (first | (go_at_call 20; refine (known_calls _ (by omega) _ (T.al _)).mono ?_; rintro e w' ⟨rfl, rfl⟩; dsimp only; rw [show knownB _ = true from hk.out]) | (go_at_call 23; refine (place_calls _ _ _).mono ?_; rintro e w' ⟨rfl, rfl⟩; dsimp only) | ((with_reducible refine gate_tmp rfl ?_); refine closL_ _ rfl rfl Tryd.func21 (by kernel_rfl) rfl #[.string ⟨#[_]⟩, .pointer (some ⟨w.heap.size, 0, none⟩)] rfl rfl (by simp only [List.map_toArray, List.map_cons, List.map_nil]; rfl) ?_; first | ((with_reducible refine (no_calls _ 1 _ (by omega) _ (T.al _) (cell_new _ _ _ _)).mono ?_); rintro e w' ⟨rfl, rfl⟩; refine ⟨_, rfl, ?_⟩) | ((with_reducible refine (no_calls _ 1 _ (by omega) _ ((T.al _).al _) (cell_new1 _ _ _ _ _)).mono ?_); rintro e w' ⟨rfl, rfl⟩; refine ⟨_, rfl, ?_⟩)) | go_values | go_skip | go_guarded | go_step)
    go_quiet ((go_at_call 21; exact Calls.quiet_of_same (no_quiet _ 1 _ (by omega) _ ((T.al _).al _) (cell_new1 _ _ _ _ _) _)))
    repeat' (first | ((with_reducible refine gate_tmp rfl ?_); refine closL_ _ rfl rfl Tryd.func21 (by kernel_rfl) rfl #[.string ⟨#[_]⟩, .pointer (some ⟨w.heap.size, 0, none⟩)] rfl rfl (by simp only [List.map_toArray, List.map_cons, List.map_nil]; rfl) ?_; (with_reducible refine (no_at _ 1 _ (by omega) _ ((T.al _).al _) (cell_new1 _ _ _ _ _) _).mono ?_); rintro e w' ⟨rfl, rfl⟩; refine ⟨_, rfl, ?_⟩) | (go_at_call 24; refine (Looks.at_ hL (bel2q _ _ _ _)).mono ?_; rintro e w2 ⟨rfl, hb2⟩; have B2 := Aside0.mk (below_then (bel2q _ _ _ _) (bel2q _ _ _ _).size hb2); clear hb2; dsimp only) | go_values | go_skip | go_guarded | go_step)
    go_ret
    exact ⟨errI_no (by simp [checkB, ef, hf]), (by first | exact bel2q _ _ _ _ | exact bel2 _ _ _ | exact bel1 _ _)⟩
  subst ef
  go_enter Tryd.func10, Tryd.ntmps10
  repeat' (first | (go_at_call 20; refine (known_calls _ (by omega) _ (T.al _)).mono ?_; rintro e w' ⟨rfl, rfl⟩; dsimp only; rw [show knownB _ = true from hk.out]) | (go_at_call 23; refine (place_calls _ _ _).mono ?_; rintro e w' ⟨rfl, rfl⟩; dsimp only) | ((with_reducible refine gate_tmp rfl ?_); refine closL_ _ rfl rfl Tryd.func21 (by kernel_rfl) rfl #[.string ⟨#[_]⟩, .pointer (some ⟨w.heap.size, 0, none⟩)] rfl rfl (by simp only [List.map_toArray, List.map_cons, List.map_nil]; rfl) ?_; first | ((with_reducible refine (no_calls _ 1 _ (by omega) _ (T.al _) (cell_new _ _ _ _)).mono ?_); rintro e w' ⟨rfl, rfl⟩; refine ⟨_, rfl, ?_⟩) | ((with_reducible refine (no_calls _ 1 _ (by omega) _ ((T.al _).al _) (cell_new1 _ _ _ _ _)).mono ?_); rintro e w' ⟨rfl, rfl⟩; refine ⟨_, rfl, ?_⟩)) | go_values | go_skip | go_guarded | go_step)
  go_quiet ((go_at_call 21; exact Calls.quiet_of_same (no_quiet _ 1 _ (by omega) _ ((T.al _).al _) (cell_new1 _ _ _ _ _) _)))
  by_cases el : last = 0
  rotate_left
  · have el' : (last == 0) = false := by simpa using el
    repeat' (first | ((with_reducible refine gate_tmp rfl ?_); refine closL_ _ rfl rfl Tryd.func21 (by kernel_rfl) rfl #[.string ⟨#[_]⟩, .pointer (some ⟨w.heap.size, 0, none⟩)] rfl rfl (by simp only [List.map_toArray, List.map_cons, List.map_nil]; rfl) ?_; (with_reducible refine (no_at _ 1 _ (by omega) _ ((T.al _).al _) (cell_new1 _ _ _ _ _) _).mono ?_); rintro e w' ⟨rfl, rfl⟩; refine ⟨_, rfl, ?_⟩) | (go_at_call 24; refine (Looks.at_ hL (bel2q _ _ _ _)).mono ?_; rintro e w2 ⟨rfl, hb2⟩; have B2 := Aside0.mk (below_then (bel2q _ _ _ _) (bel2q _ _ _ _).size hb2); clear hb2; dsimp only) | go_values | go_skip | go_guarded | go_step)
    go_ret
    exact ⟨errI_no (by simp [checkB, el, hl]), (by first | exact bel2q _ _ _ _ | exact bel2 _ _ _ | exact bel1 _ _)⟩
  have el' : (last == 0) = true := by simpa using el
  have elh := Aside0.mk el
  clear el
  by_cases ens : 0 < ns
  · skip
    repeat' (first | ((with_reducible refine gate_tmp rfl ?_); refine closL_ _ rfl rfl Tryd.func21 (by kernel_rfl) rfl #[.string ⟨#[_]⟩, .pointer (some ⟨w.heap.size, 0, none⟩)] rfl rfl (by simp only [List.map_toArray, List.map_cons, List.map_nil]; rfl) ?_; (with_reducible refine (no_at _ 1 _ (by omega) _ ((T.al _).al _) (cell_new1 _ _ _ _ _) _).mono ?_); rintro e w' ⟨rfl, rfl⟩; refine ⟨_, rfl, ?_⟩) | (go_at_call 24; refine (Looks.at_ hL (bel2q _ _ _ _)).mono ?_; rintro e w2 ⟨rfl, hb2⟩; have B2 := Aside0.mk (below_then (bel2q _ _ _ _) (bel2q _ _ _ _).size hb2); clear hb2; dsimp only) | go_values | go_skip | go_guarded | go_step)
    go_ret
    exact ⟨errI_no (by simp [checkB, Nat.ne_of_gt ens, hpp]), (by first | exact bel2q _ _ _ _ | exact bel2 _ _ _ | exact bel1 _ _)⟩
  by_cases enb : 0 < nb
  · skip
    repeat' (first | ((with_reducible refine gate_tmp rfl ?_); refine closL_ _ rfl rfl Tryd.func21 (by kernel_rfl) rfl #[.string ⟨#[_]⟩, .pointer (some ⟨w.heap.size, 0, none⟩)] rfl rfl (by simp only [List.map_toArray, List.map_cons, List.map_nil]; rfl) ?_; (with_reducible refine (no_at _ 1 _ (by omega) _ ((T.al _).al _) (cell_new1 _ _ _ _ _) _).mono ?_); rintro e w' ⟨rfl, rfl⟩; refine ⟨_, rfl, ?_⟩) | (go_at_call 24; refine (Looks.at_ hL (bel2q _ _ _ _)).mono ?_; rintro e w2 ⟨rfl, hb2⟩; have B2 := Aside0.mk (below_then (bel2q _ _ _ _) (bel2q _ _ _ _).size hb2); clear hb2; dsimp only) | go_values | go_skip | go_guarded | go_step)
    go_ret
    exact ⟨errI_no (by simp [checkB, Nat.ne_of_gt enb, hs]), (by first | exact bel2q _ _ _ _ | exact bel2 _ _ _ | exact bel1 _ _)⟩
  by_cases env : 0 < nv
  · skip
    repeat' (first | ((with_reducible refine gate_tmp rfl ?_); refine closL_ _ rfl rfl Tryd.func21 (by kernel_rfl) rfl #[.string ⟨#[_]⟩, .pointer (some ⟨w.heap.size, 0, none⟩)] rfl rfl (by simp only [List.map_toArray, List.map_cons, List.map_nil]; rfl) ?_; (with_reducible refine (no_at _ 1 _ (by omega) _ ((T.al _).al _) (cell_new1 _ _ _ _ _) _).mono ?_); rintro e w' ⟨rfl, rfl⟩; refine ⟨_, rfl, ?_⟩) | (go_at_call 24; refine (Looks.at_ hL (bel2q _ _ _ _)).mono ?_; rintro e w2 ⟨rfl, hb2⟩; have B2 := Aside0.mk (below_then (bel2q _ _ _ _) (bel2q _ _ _ _).size hb2); clear hb2; dsimp only) | go_values | go_skip | go_guarded | go_step)
    go_ret
    exact ⟨errI_no (by simp [checkB, Nat.ne_of_gt env, hv]), (by first | exact bel2q _ _ _ _ | exact bel2 _ _ _ | exact bel1 _ _)⟩
  cases L
  · skip
    repeat' (first | ((with_reducible refine gate_tmp rfl ?_); refine closL_ _ rfl rfl Tryd.func21 (by kernel_rfl) rfl #[.string ⟨#[_]⟩, .pointer (some ⟨w.heap.size, 0, none⟩)] rfl rfl (by simp only [List.map_toArray, List.map_cons, List.map_nil]; rfl) ?_; (with_reducible refine (no_at _ 1 _ (by omega) _ ((T.al _).al _) (cell_new1 _ _ _ _ _) _).mono ?_); rintro e w' ⟨rfl, rfl⟩; refine ⟨_, rfl, ?_⟩) | (go_at_call 24; refine (Looks.at_ hL (bel2q _ _ _ _)).mono ?_; rintro e w2 ⟨rfl, hb2⟩; have B2 := Aside0.mk (below_then (bel2q _ _ _ _) (bel2q _ _ _ _).size hb2); clear hb2; dsimp only) | go_values | go_skip | go_guarded | go_step)
    go_ret
    exact ⟨errI_no (by simp [checkB]), B2.out⟩
  · skip
    repeat' (first | ((with_reducible refine gate_tmp rfl ?_); refine closL_ _ rfl rfl Tryd.func21 (by kernel_rfl) rfl #[.string ⟨#[_]⟩, .pointer (some ⟨w.heap.size, 0, none⟩)] rfl rfl (by simp only [List.map_toArray, List.map_cons, List.map_nil]; rfl) ?_; (with_reducible refine (no_at _ 1 _ (by omega) _ ((T.al _).al _) (cell_new1 _ _ _ _ _) _).mono ?_); rintro e w' ⟨rfl, rfl⟩; refine ⟨_, rfl, ?_⟩) | (go_at_call 24; refine (Looks.at_ hL (bel2q _ _ _ _)).mono ?_; rintro e w2 ⟨rfl, hb2⟩; have B2 := Aside0.mk (below_then (bel2q _ _ _ _) (bel2q _ _ _ _).size hb2); clear hb2; dsimp only) | go_values | go_skip | go_guarded | go_step)
    go_ret
    exact ⟨errI_yes (by have hk' := hk.out; have el := elh.out; have zns : ns = 0 := (by omega); have znb : nb = 0 := (by omega); have znv : nv = 0 := (by omega); simp_all [checkB]), B2.out⟩
set_option maxHeartbeats 4000000 in
set_option maxRecDepth 100000 in
theorem check_2 (n r first last commit : Int) (A6 A7 A8 : Option Addr) (nv nb ns c6 c7 c8 : Nat) (L : Bool) (w : World) (T : Tabs w) (hL0 : Looks w 2 n r first last commit (.slice A6 nv c6) (.slice A7 nb c7) (.slice A8 ns c8) L) :
    Calls Tryd.prog 10 #[msgV 2 n r first last commit (.slice A6 nv c6) (.slice A7 nb c7) (.slice A8 ns c8)] w fun e w' => e = .returned (.int .i64 (errI (checkB 2 n r first last commit nv nb ns L))) ∧ Below w.heap.size w w' := by
  have hL := Aside0.mk hL0
  clear hL0
  have hk : Aside0 (knownB 2 = true) := ⟨by decide⟩
  have hb : hasB 2 98 = true := by decide
  have hc : hasB 2 99 = true := by decide
  have hf : hasB 2 102 = false := by decide
  have hl : hasB 2 108 = false := by decide
  have hpp : hasB 2 112 = false := by decide
  have hs : hasB 2 115 = false := by decide
  have hv : hasB 2 118 = true := by decide
  by_cases hp : placeB r = true
  rotate_left
  · replace hp : placeB r = false := by simpa using hp
    go_enter Tryd.func10, Tryd.ntmps10
    repeat' (first | (go_at_call 20; refine (known_calls _ (by omega) _ (T.al _)).mono ?_; rintro e w' ⟨rfl, rfl⟩; dsimp only; rw [show knownB _ = true from hk.out]) | (go_at_call 23; refine (place_calls _ _ _).mono ?_; rintro e w' ⟨rfl, rfl⟩; dsimp only) | ((with_reducible refine gate_tmp rfl ?_); refine closL_ _ rfl rfl Tryd.func21 (by kernel_rfl) rfl #[.string ⟨#[_]⟩, .pointer (some ⟨w.heap.size, 0, none⟩)] rfl rfl (by simp only [List.map_toArray, List.map_cons, List.map_nil]; rfl) ?_; first | ((with_reducible refine (no_calls _ 2 _ (by omega) _ (T.al _) (cell_new _ _ _ _)).mono ?_); rintro e w' ⟨rfl, rfl⟩; refine ⟨_, rfl, ?_⟩) | ((with_reducible refine (no_calls _ 2 _ (by omega) _ ((T.al _).al _) (cell_new1 _ _ _ _ _)).mono ?_); rintro e w' ⟨rfl, rfl⟩; refine ⟨_, rfl, ?_⟩)) | go_values | go_skip | go_guarded | go_step)
    go_ret
    exact ⟨errI_no (by simp [checkB, hp]), (by first | exact bel2q _ _ _ _ | exact bel2 _ _ _ | exact bel1 _ _)⟩
  by_cases ef : first = 0
  rotate_left
  · have ef' : (first == 0) = false := by simpa using ef
    go_enter Tryd.func10, Tryd.ntmps10
    repeat' (first | (go_at_call 20; refine (known_calls _ (by omega) _ (T.al _)).mono ?_; rintro e w' ⟨rfl, rfl⟩; dsimp only; rw [show knownB _ = true from hk.out]) | (go_at_call 23; refine (place_calls _ _ _).mono ?_; rintro e w' ⟨rfl, rfl⟩; dsimp only) | ((with_reducible refine gate_tmp rfl ?_); refine closL_ _ rfl rfl Tryd.func21 (by kernel_rfl) rfl #[.string ⟨#[_]⟩, .pointer (some ⟨w.heap.size, 0, none⟩)] rfl rfl (by simp only [List.map_toArray, List.map_cons, List.map_nil]; rfl) ?_; first | ((with_reducible refine (no_calls _ 2 _ (by omega) _ (T.al _) (cell_new _ _ _ _)).mono ?_); rintro e w' ⟨rfl, rfl⟩; refine ⟨_, rfl, ?_⟩) | ((with_reducible refine (no_calls _ 2 _ (by omega) _ ((T.al _).al _) (cell_new1 _ _ _ _ _)).mono ?_); rintro e w' ⟨rfl, rfl⟩; refine ⟨_, rfl, ?_⟩)) | go_values | go_skip | go_guarded | go_step)
    go_quiet ((go_at_call 21; exact Calls.quiet_of_same (no_quiet _ 2 _ (by omega) _ ((T.al _).al _) (cell_new1 _ _ _ _ _) _)))
    repeat' (first | ((with_reducible refine gate_tmp rfl ?_); refine closL_ _ rfl rfl Tryd.func21 (by kernel_rfl) rfl #[.string ⟨#[_]⟩, .pointer (some ⟨w.heap.size, 0, none⟩)] rfl rfl (by simp only [List.map_toArray, List.map_cons, List.map_nil]; rfl) ?_; (with_reducible refine (no_at _ 2 _ (by omega) _ ((T.al _).al _) (cell_new1 _ _ _ _ _) _).mono ?_); rintro e w' ⟨rfl, rfl⟩; refine ⟨_, rfl, ?_⟩) | (go_at_call 24; refine (Looks.at_ hL (bel2q _ _ _ _)).mono ?_; rintro e w2 ⟨rfl, hb2⟩; have B2 := Aside0.mk (below_then (bel2q _ _ _ _) (bel2q _ _ _ _).size hb2); clear hb2; dsimp only) | go_values | go_skip | go_guarded | go_step)
    go_ret
    exact ⟨errI_no (by simp [checkB, ef, hf]), (by first | exact bel2q _ _ _ _ | exact bel2 _ _ _ | exact bel1 _ _)⟩
  subst ef
  go_enter Tryd.func10, Tryd.ntmps10
  repeat' (first | (go_at_call 20; refine (known_calls _ (by omega) _ (T.al _)).mono ?_; rintro e w' ⟨rfl, rfl⟩; dsimp only; rw [show knownB _ = true from hk.out]) | (go_at_call 23; refine (place_calls _ _ _).mono ?_; rintro e w' ⟨rfl, rfl⟩; dsimp only) | ((with_reducible refine gate_tmp rfl ?_); refine closL_ _ rfl rfl Tryd.func21 (by kernel_rfl) rfl #[.string ⟨#[_]⟩, .pointer (some ⟨w.heap.size, 0, none⟩)] rfl rfl (by simp only [List.map_toArray, List.map_cons, List.map_nil]; rfl) ?_; first | ((with_reducible refine (no_calls _ 2 _ (by omega) _ (T.al _) (cell_new _ _ _ _)).mono ?_); rintro e w' ⟨rfl, rfl⟩; refine ⟨_, rfl, ?_⟩) | ((with_reducible refine (no_calls _ 2 _ (by omega) _ ((T.al _).al _) (cell_new1 _ _ _ _ _)).mono ?_); rintro e w' ⟨rfl, rfl⟩; refine ⟨_, rfl, ?_⟩)) | go_values | go_skip | go_guarded | go_step)
  go_quiet ((go_at_call 21; exact Calls.quiet_of_same (no_quiet _ 2 _ (by omega) _ ((T.al _).al _) (cell_new1 _ _ _ _ _) _)))
  by_cases el : last = 0
  rotate_left
  · have el' : (last == 0) = false := by simpa using el
    repeat' (first | ((with_reducible refine gate_tmp rfl ?_); refine closL_ _ rfl rfl Tryd.func21 (by kernel_rfl) rfl #[.string ⟨#[_]⟩, .pointer (some ⟨w.heap.size, 0, none⟩)] rfl rfl (by simp only [List.map_toArray, List.map_cons, List.map_nil]; rfl) ?_; (with_reducible refine (no_at _ 2 _ (by omega) _ ((T.al _).al _) (cell_new1 _ _ _ _ _) _).mono ?_); rintro e w' ⟨rfl, rfl⟩; refine ⟨_, rfl, ?_⟩) | (go_at_call 24; refine (Looks.at_ hL (bel2q _ _ _ _)).mono ?_; rintro e w2 ⟨rfl, hb2⟩; have B2 := Aside0.mk (below_then (bel2q _ _ _ _) (bel2q _ _ _ _).size hb2); clear hb2; dsimp only) | go_values | go_skip | go_guarded | go_step)
    go_ret
    exact ⟨errI_no (by simp [checkB, el, hl]), (by first | exact bel2q _ _ _ _ | exact bel2 _ _ _ | exact bel1 _ _)⟩
  have el' : (last == 0) = true := by simpa using el
  have elh := Aside0.mk el
  clear el
  by_cases ens : 0 < ns
  · skip
    repeat' (first | ((with_reducible refine gate_tmp rfl ?_); refine closL_ _ rfl rfl Tryd.func21 (by kernel_rfl) rfl #[.string ⟨#[_]⟩, .pointer (some ⟨w.heap.size, 0, none⟩)] rfl rfl (by simp only [List.map_toArray, List.map_cons, List.map_nil]; rfl) ?_; (with_reducible refine (no_at _ 2 _ (by omega) _ ((T.al _).al _) (cell_new1 _ _ _ _ _) _).mono ?_); rintro e w' ⟨rfl, rfl⟩; refine ⟨_, rfl, ?_⟩) | (go_at_call 24; refine (Looks.at_ hL (bel2q _ _ _ _)).mono ?_; rintro e w2 ⟨rfl, hb2⟩; have B2 := Aside0.mk (below_then (bel2q _ _ _ _) (bel2q _ _ _ _).size hb2); clear hb2; dsimp only) | go_values | go_skip | go_guarded | go_step)
    go_ret
    exact ⟨errI_no (by simp [checkB, Nat.ne_of_gt ens, hpp]), (by first | exact bel2q _ _ _ _ | exact bel2 _ _ _ | exact bel1 _ _)⟩
  by_cases enb : 0 < nb
  · skip
    repeat' (first | ((with_reducible refine gate_tmp rfl ?_); refine closL_ _ rfl rfl Tryd.func21 (by kernel_rfl) rfl #[.string ⟨#[_]⟩, .pointer (some ⟨w.heap.size, 0, none⟩)] rfl rfl (by simp only [List.map_toArray, List.map_cons, List.map_nil]; rfl) ?_; (with_reducible refine (no_at _ 2 _ (by omega) _ ((T.al _).al _) (cell_new1 _ _ _ _ _) _).mono ?_); rintro e w' ⟨rfl, rfl⟩; refine ⟨_, rfl, ?_⟩) | (go_at_call 24; refine (Looks.at_ hL (bel2q _ _ _ _)).mono ?_; rintro e w2 ⟨rfl, hb2⟩; have B2 := Aside0.mk (below_then (bel2q _ _ _ _) (bel2q _ _ _ _).size hb2); clear hb2; dsimp only) | go_values | go_skip | go_guarded | go_step)
    go_ret
    exact ⟨errI_no (by simp [checkB, Nat.ne_of_gt enb, hs]), (by first | exact bel2q _ _ _ _ | exact bel2 _ _ _ | exact bel1 _ _)⟩
  cases L
  · skip
    repeat' (first | ((with_reducible refine gate_tmp rfl ?_); refine closL_ _ rfl rfl Tryd.func21 (by kernel_rfl) rfl #[.string ⟨#[_]⟩, .pointer (some ⟨w.heap.size, 0, none⟩)] rfl rfl (by simp only [List.map_toArray, List.map_cons, List.map_nil]; rfl) ?_; (with_reducible refine (no_at _ 2 _ (by omega) _ ((T.al _).al _) (cell_new1 _ _ _ _ _) _).mono ?_); rintro e w' ⟨rfl, rfl⟩; refine ⟨_, rfl, ?_⟩) | (go_at_call 24; refine (Looks.at_ hL (bel2q _ _ _ _)).mono ?_; rintro e w2 ⟨rfl, hb2⟩; have B2 := Aside0.mk (below_then (bel2q _ _ _ _) (bel2q _ _ _ _).size hb2); clear hb2; dsimp only) | go_values | go_skip | go_guarded | go_step)
    go_ret
    exact ⟨errI_no (by simp [checkB]), B2.out⟩
  · skip
    repeat' (first | ((with_reducible refine gate_tmp rfl ?_); refine closL_ _ rfl rfl Tryd.func21 (by kernel_rfl) rfl #[.string ⟨#[_]⟩, .pointer (some ⟨w.heap.size, 0, none⟩)] rfl rfl (by simp only [List.map_toArray, List.map_cons, List.map_nil]; rfl) ?_; (with_reducible refine (no_at _ 2 _ (by omega) _ ((T.al _).al _) (cell_new1 _ _ _ _ _) _).mono ?_); rintro e w' ⟨rfl, rfl⟩; refine ⟨_, rfl, ?_⟩) | (go_at_call 24; refine (Looks.at_ hL (bel2q _ _ _ _)).mono ?_; rintro e w2 ⟨rfl, hb2⟩; have B2 := Aside0.mk (below_then (bel2q _ _ _ _) (bel2q _ _ _ _).size hb2); clear hb2; dsimp only) | go_values | go_skip | go_guarded | go_step)
    go_ret
    exact ⟨errI_yes (by have hk' := hk.out; have el := elh.out; have zns : ns = 0 := (by omega); have znb : nb = 0 := (by omega); simp_all [checkB]), B2.out⟩
set_option maxHeartbeats 4000000 in
set_option maxRecDepth 100000 in
theorem check_3 (n r first last commit : Int) (A6 A7 A8 : Option Addr) (nv nb ns c6 c7 c8 : Nat) (L : Bool) (w : World) (T : Tabs w) (hL0 : Looks w 3 n r first last commit (.slice A6 nv c6) (.slice A7 nb c7) (.slice A8 ns c8) L) :
    Calls Tryd.prog 10 #[msgV 3 n r first last commit (.slice A6 nv c6) (.slice A7 nb c7) (.slice A8 ns c8)] w fun e w' => e = .returned (.int .i64 (errI (checkB 3 n r first last commit nv nb ns L))) ∧ Below w.heap.size w w' := by
  have hL := Aside0.mk hL0
  clear hL0
  have hk : Aside0 (knownB 3 = true) := ⟨by decide⟩
  have hb : hasB 3 98 = true := by decide
  have hc : hasB 3 99 = false := by decide
  have hf : hasB 3 102 = false := by decide
  have hl : hasB 3 108 = false := by decide
  have hpp : hasB 3 112 = false := by decide
  have hs : hasB 3 115 = false := by decide
  have hv : hasB 3 118 = false := by decide
  by_cases hp : placeB r = true
  rotate_left
  · replace hp : placeB r = false := by simpa using hp
    go_enter Tryd.func10, Tryd.ntmps10
    repeat' (first | (go_at_call 20; refine (known_calls _ (by omega) _ (T.al _)).mono ?_; rintro e w' ⟨rfl, rfl⟩; dsimp only; rw [show knownB _ = true from hk.out]) | (go_at_call 23; refine (place_calls _ _ _).mono ?_; rintro e w' ⟨rfl, rfl⟩; dsimp only) | ((with_reducible refine gate_tmp rfl ?_); refine closL_ _ rfl rfl Tryd.func21 (by kernel_rfl) rfl #[.string ⟨#[_]⟩, .pointer (some ⟨w.heap.size, 0, none⟩)] rfl rfl (by simp only [List.map_toArray, List.map_cons, List.map_nil]; rfl) ?_; first | ((with_reducible refine (no_calls _ 3 _ (by omega) _ (T.al _) (cell_new _ _ _ _)).mono ?_); rintro e w' ⟨rfl, rfl⟩; refine ⟨_, rfl, ?_⟩) | ((with_reducible refine (no_calls _ 3 _ (by omega) _ ((T.al _).al _) (cell_new1 _ _ _ _ _)).mono ?_); rintro e w' ⟨rfl, rfl⟩; refine ⟨_, rfl, ?_⟩)) | go_values | go_skip | go_guarded | go_step)
    go_ret
    exact ⟨errI_no (by simp [checkB, hp]), (by first | exact bel2q _ _ _ _ | exact bel2 _ _ _ | exact bel1 _ _)⟩
  by_cases ec : commit = 0
  rotate_left
  · have ec' : (commit == 0) = false := by simpa using ec
    go_enter Tryd.func10, Tryd.ntmps10
    repeat' (first | (go_at_call 20; refine (known_calls _ (by omega) _ (T.al _)).mono ?_; rintro e w' ⟨rfl, rfl⟩; dsimp only; rw [show knownB _ = true from hk.out]) | (go_at_call 23; refine (place_calls _ _ _).mono ?_; rintro e w' ⟨rfl, rfl⟩; dsimp only) | ((with_reducible refine gate_tmp rfl ?_); refine closL_ _ rfl rfl Tryd.func21 (by kernel_rfl) rfl #[.string ⟨#[_]⟩, .pointer (some ⟨w.heap.size, 0, none⟩)] rfl rfl (by simp only [List.map_toArray, List.map_cons, List.map_nil]; rfl) ?_; first | ((with_reducible refine (no_calls _ 3 _ (by omega) _ (T.al _) (cell_new _ _ _ _)).mono ?_); rintro e w' ⟨rfl, rfl⟩; refine ⟨_, rfl, ?_⟩) | ((with_reducible refine (no_calls _ 3 _ (by omega) _ ((T.al _).al _) (cell_new1 _ _ _ _ _)).mono ?_); rintro e w' ⟨rfl, rfl⟩; refine ⟨_, rfl, ?_⟩)) | go_values | go_skip | go_guarded | go_step)
    go_ret
    exact ⟨errI_no (by simp [checkB, ec, hc]), (by first | exact bel2q _ _ _ _ | exact bel2 _ _ _ | exact bel1 _ _)⟩
  subst ec
  by_cases ef : first = 0
  rotate_left
  · have ef' : (first == 0) = false := by simpa using ef
    go_enter Tryd.func10, Tryd.ntmps10
    repeat' (first | (go_at_call 20; refine (known_calls _ (by omega) _ (T.al _)).mono ?_; rintro e w' ⟨rfl, rfl⟩; dsimp only; rw [show knownB _ = true from hk.out]) | (go_at_call 23; refine (place_calls _ _ _).mono ?_; rintro e w' ⟨rfl, rfl⟩; dsimp only) | ((with_reducible refine gate_tmp rfl ?_); refine closL_ _ rfl rfl Tryd.func21 (by kernel_rfl) rfl #[.string ⟨#[_]⟩, .pointer (some ⟨w.heap.size, 0, none⟩)] rfl rfl (by simp only [List.map_toArray, List.map_cons, List.map_nil]; rfl) ?_; first | ((with_reducible refine (no_calls _ 3 _ (by omega) _ (T.al _) (cell_new _ _ _ _)).mono ?_); rintro e w' ⟨rfl, rfl⟩; refine ⟨_, rfl, ?_⟩) | ((with_reducible refine (no_calls _ 3 _ (by omega) _ ((T.al _).al _) (cell_new1 _ _ _ _ _)).mono ?_); rintro e w' ⟨rfl, rfl⟩; refine ⟨_, rfl, ?_⟩)) | go_values | go_skip | go_guarded | go_step)
    go_quiet ((go_at_call 21; exact Calls.quiet_of_same (no_quiet _ 3 _ (by omega) _ ((T.al _).al _) (cell_new1 _ _ _ _ _) _)))
    repeat' (first | ((with_reducible refine gate_tmp rfl ?_); refine closL_ _ rfl rfl Tryd.func21 (by kernel_rfl) rfl #[.string ⟨#[_]⟩, .pointer (some ⟨w.heap.size, 0, none⟩)] rfl rfl (by simp only [List.map_toArray, List.map_cons, List.map_nil]; rfl) ?_; (with_reducible refine (no_at _ 3 _ (by omega) _ ((T.al _).al _) (cell_new1 _ _ _ _ _) _).mono ?_); rintro e w' ⟨rfl, rfl⟩; refine ⟨_, rfl, ?_⟩) | (go_at_call 24; refine (Looks.at_ hL (bel2q _ _ _ _)).mono ?_; rintro e w2 ⟨rfl, hb2⟩; have B2 := Aside0.mk (below_then (bel2q _ _ _ _) (bel2q _ _ _ _).size hb2); clear hb2; dsimp only) | go_values | go_skip | go_guarded | go_step)
    go_ret
    exact ⟨errI_no (by simp [checkB, ef, hf]), (by first | exact bel2q _ _ _ _ | exact bel2 _ _ _ | exact bel1 _ _)⟩
  subst ef
  go_enter Tryd.func10, Tryd.ntmps10
  repeat' (first | (go_at_call 20; refine (known_calls _ (by omega) _ (T.al _)).mono ?_; rintro e w' ⟨rfl, rfl⟩; dsimp only; rw [show knownB _ = true from hk.out]) | (go_at_call 23; refine (place_calls _ _ _).mono ?_; rintro e w' ⟨rfl, rfl⟩; dsimp only) | ((with_reducible refine gate_tmp rfl ?_); refine closL_ _ rfl rfl Tryd.func21 (by kernel_rfl) rfl #[.string ⟨#[_]⟩, .pointer (some ⟨w.heap.size, 0, none⟩)] rfl rfl (by simp only [List.map_toArray, List.map_cons, List.map_nil]; rfl) ?_; first | ((with_reducible refine (no_calls _ 3 _ (by omega) _ (T.al _) (cell_new _ _ _ _)).mono ?_); rintro e w' ⟨rfl, rfl⟩; refine ⟨_, rfl, ?_⟩) | ((with_reducible refine (no_calls _ 3 _ (by omega) _ ((T.al _).al _) (cell_new1 _ _ _ _ _)).mono ?_); rintro e w' ⟨rfl, rfl⟩; refine ⟨_, rfl, ?_⟩)) | go_values | go_skip | go_guarded | go_step)
  go_quiet ((go_at_call 21; exact Calls.quiet_of_same (no_quiet _ 3 _ (by omega) _ ((T.al _).al _) (cell_new1 _ _ _ _ _) _)))
  by_cases el : last = 0
  rotate_left
  · have el' : (last == 0) = false := by simpa using el
    repeat' (first | ((with_reducible refine gate_tmp rfl ?_); refine closL_ _ rfl rfl Tryd.func21 (by kernel_rfl) rfl #[.string ⟨#[_]⟩, .pointer (some ⟨w.heap.size, 0, none⟩)] rfl rfl (by simp only [List.map_toArray, List.map_cons, List.map_nil]; rfl) ?_; (with_reducible refine (no_at _ 3 _ (by omega) _ ((T.al _).al _) (cell_new1 _ _ _ _ _) _).mono ?_); rintro e w' ⟨rfl, rfl⟩; refine ⟨_, rfl, ?_⟩) | (go_at_call 24; refine (Looks.at_ hL (bel2q _ _ _ _)).mono ?_; rintro e w2 ⟨rfl, hb2⟩; have B2 := Aside0.mk (below_then (bel2q _ _ _ _) (bel2q _ _ _ _).size hb2); clear hb2; dsimp only) | go_values | go_skip | go_guarded | go_step)
    go_ret
    exact ⟨errI_no (by simp [checkB, el, hl]), (by first | exact bel2q _ _ _ _ | exact bel2 _ _ _ | exact bel1 _ _)⟩
  have el' : (last == 0) = true := by simpa using el
  have elh := Aside0.mk el
  clear el
  by_cases ens : 0 < ns
  · skip
    repeat' (first | ((with_reducible refine gate_tmp rfl ?_); refine closL_ _ rfl rfl Tryd.func21 (by kernel_rfl) rfl #[.string ⟨#[_]⟩, .pointer (some ⟨w.heap.size, 0, none⟩)] rfl rfl (by simp only [List.map_toArray, List.map_cons, List.map_nil]; rfl) ?_; (with_reducible refine (no_at _ 3 _ (by omega) _ ((T.al _).al _) (cell_new1 _ _ _ _ _) _).mono ?_); rintro e w' ⟨rfl, rfl⟩; refine ⟨_, rfl, ?_⟩) | (go_at_call 24; refine (Looks.at_ hL (bel2q _ _ _ _)).mono ?_; rintro e w2 ⟨rfl, hb2⟩; have B2 := Aside0.mk (below_then (bel2q _ _ _ _) (bel2q _ _ _ _).size hb2); clear hb2; dsimp only) | go_values | go_skip | go_guarded | go_step)
    go_ret
    exact ⟨errI_no (by simp [checkB, Nat.ne_of_gt ens, hpp]), (by first | exact bel2q _ _ _ _ | exact bel2 _ _ _ | exact bel1 _ _)⟩
  by_cases enb : 0 < nb
  · skip
    repeat' (first | ((with_reducible refine gate_tmp rfl ?_); refine closL_ _ rfl rfl Tryd.func21 (by kernel_rfl) rfl #[.string ⟨#[_]⟩, .pointer (some ⟨w.heap.size, 0, none⟩)] rfl rfl (by simp only [List.map_toArray, List.map_cons, List.map_nil]; rfl) ?_; (with_reducible refine (no_at _ 3 _ (by omega) _ ((T.al _).al _) (cell_new1 _ _ _ _ _) _).mono ?_); rintro e w' ⟨rfl, rfl⟩; refine ⟨_, rfl, ?_⟩) | (go_at_call 24; refine (Looks.at_ hL (bel2q _ _ _ _)).mono ?_; rintro e w2 ⟨rfl, hb2⟩; have B2 := Aside0.mk (below_then (bel2q _ _ _ _) (bel2q _ _ _ _).size hb2); clear hb2; dsimp only) | go_values | go_skip | go_guarded | go_step)
    go_ret
    exact ⟨errI_no (by simp [checkB, Nat.ne_of_gt enb, hs]), (by first | exact bel2q _ _ _ _ | exact bel2 _ _ _ | exact bel1 _ _)⟩
  by_cases env : 0 < nv
  · skip
    repeat' (first | ((with_reducible refine gate_tmp rfl ?_); refine closL_ _ rfl rfl Tryd.func21 (by kernel_rfl) rfl #[.string ⟨#[_]⟩, .pointer (some ⟨w.heap.size, 0, none⟩)] rfl rfl (by simp only [List.map_toArray, List.map_cons, List.map_nil]; rfl) ?_; (with_reducible refine (no_at _ 3 _ (by omega) _ ((T.al _).al _) (cell_new1 _ _ _ _ _) _).mono ?_); rintro e w' ⟨rfl, rfl⟩; refine ⟨_, rfl, ?_⟩) | (go_at_call 24; refine (Looks.at_ hL (bel2q _ _ _ _)).mono ?_; rintro e w2 ⟨rfl, hb2⟩; have B2 := Aside0.mk (below_then (bel2q _ _ _ _) (bel2q _ _ _ _).size hb2); clear hb2; dsimp only) | go_values | go_skip | go_guarded | go_step)
    go_ret
    exact ⟨errI_no (by simp [checkB, Nat.ne_of_gt env, hv]), (by first | exact bel2q _ _ _ _ | exact bel2 _ _ _ | exact bel1 _ _)⟩
  cases L
  · skip
    repeat' (first | ((with_reducible refine gate_tmp rfl ?_); refine closL_ _ rfl rfl Tryd.func21 (by kernel_rfl) rfl #[.string ⟨#[_]⟩, .pointer (some ⟨w.heap.size, 0, none⟩)] rfl rfl (by simp only [List.map_toArray, List.map_cons, List.map_nil]; rfl) ?_; (with_reducible refine (no_at _ 3 _ (by omega) _ ((T.al _).al _) (cell_new1 _ _ _ _ _) _).mono ?_); rintro e w' ⟨rfl, rfl⟩; refine ⟨_, rfl, ?_⟩) | (go_at_call 24; refine (Looks.at_ hL (bel2q _ _ _ _)).mono ?_; rintro e w2 ⟨rfl, hb2⟩; have B2 := Aside0.mk (below_then (bel2q _ _ _ _) (bel2q _ _ _ _).size hb2); clear hb2; dsimp only) | go_values | go_skip | go_guarded | go_step)
    go_ret
    exact ⟨errI_no (by simp [checkB]), B2.out⟩
  · skip
    repeat' (first | ((with_reducible refine gate_tmp rfl ?_); refine closL_ _ rfl rfl Tryd.func21 (by kernel_rfl) rfl #[.string ⟨#[_]⟩, .pointer (some ⟨w.heap.size, 0, none⟩)] rfl rfl (by simp only [List.map_toArray, List.map_cons, List.map_nil]; rfl) ?_; (with_reducible refine (no_at _ 3 _ (by omega) _ ((T.al _).al _) (cell_new1 _ _ _ _ _) _).mono ?_); rintro e w' ⟨rfl, rfl⟩; refine ⟨_, rfl, ?_⟩) | (go_at_call 24; refine (Looks.at_ hL (bel2q _ _ _ _)).mono ?_; rintro e w2 ⟨rfl, hb2⟩; have B2 := Aside0.mk (below_then (bel2q _ _ _ _) (bel2q _ _ _ _).size hb2); clear hb2; dsimp only) | go_values | go_skip | go_guarded | go_step)
    go_ret
    exact ⟨errI_yes (by have hk' := hk.out; have el := elh.out; have zns : ns = 0 := (by omega); have znb : nb = 0 := (by omega); have znv : nv = 0 := (by omega); simp_all [checkB]), B2.out⟩
set_option maxHeartbeats 4000000 in
set_option maxRecDepth 100000 in
theorem check_4 (n r first last commit : Int) (A6 A7 A8 : Option Addr) (nv nb ns c6 c7 c8 : Nat) (L : Bool) (w : World) (T : Tabs w) (hL0 : Looks w 4 n r first last commit (.slice A6 nv c6) (.slice A7 nb c7) (.slice A8 ns c8) L) :
    Calls Tryd.prog 10 #[msgV 4 n r first last commit (.slice A6 nv c6) (.slice A7 nb c7) (.slice A8 ns c8)] w fun e w' => e = .returned (.int .i64 (errI (checkB 4 n r first last commit nv nb ns L))) ∧ Below w.heap.size w w' := by
  have hL := Aside0.mk hL0
  clear hL0
  have hk : Aside0 (knownB 4 = true) := ⟨by decide⟩
  have hb : hasB 4 98 = true := by decide
  have hc : hasB 4 99 = true := by decide
  have hf : hasB 4 102 = true := by decide
  have hl : hasB 4 108 = false := by decide
  have hpp : hasB 4 112 = false := by decide
  have hs : hasB 4 115 = true := by decide
  have hv : hasB 4 118 = false := by decide
  by_cases hp : placeB r = true
  rotate_left
  · replace hp : placeB r = false := by simpa using hp
    go_enter Tryd.func10, Tryd.ntmps10
    repeat' (first | (go_at_call 20; refine (known_calls _ (by omega) _ (T.al _)).mono ?_; rintro e w' ⟨rfl, rfl⟩; dsimp only; rw [show knownB _ = true from hk.out]) | (go_at_call 23; refine (place_calls _ _ _).mono ?_; rintro e w' ⟨rfl, rfl⟩; dsimp only) | ((with_reducible refine gate_tmp rfl ?_); refine closL_ _ rfl rfl Tryd.func21 (by kernel_rfl) rfl #[.string ⟨#[_]⟩, .pointer (some ⟨w.heap.size, 0, none⟩)] rfl rfl (by simp only [List.map_toArray, List.map_cons, List.map_nil]; rfl) ?_; first | ((with_reducible refine (no_calls _ 4 _ (by omega) _ (T.al _) (cell_new _ _ _ _)).mono ?_); rintro e w' ⟨rfl, rfl⟩; refine ⟨_, rfl, ?_⟩) | ((with_reducible refine (no_calls _ 4 _ (by omega) _ ((T.al _).al _) (cell_new1 _ _ _ _ _)).mono ?_); rintro e w' ⟨rfl, rfl⟩; refine ⟨_, rfl, ?_⟩)) | go_values | go_skip | go_guarded | go_step)
    go_ret
    exact ⟨errI_no (by simp [checkB, hp]), (by first | exact bel2q _ _ _ _ | exact bel2 _ _ _ | exact bel1 _ _)⟩
  by_cases ef : first = 0
  · subst ef
    go_enter Tryd.func10, Tryd.ntmps10
    repeat' (first | (go_at_call 20; refine (known_calls _ (by omega) _ (T.al _)).mono ?_; rintro e w' ⟨rfl, rfl⟩; dsimp only; rw [show knownB _ = true from hk.out]) | (go_at_call 23; refine (place_calls _ _ _).mono ?_; rintro e w' ⟨rfl, rfl⟩; dsimp only) | ((with_reducible refine gate_tmp rfl ?_); refine closL_ _ rfl rfl Tryd.func21 (by kernel_rfl) rfl #[.string ⟨#[_]⟩, .pointer (some ⟨w.heap.size, 0, none⟩)] rfl rfl (by simp only [List.map_toArray, List.map_cons, List.map_nil]; rfl) ?_; first | ((with_reducible refine (no_calls _ 4 _ (by omega) _ (T.al _) (cell_new _ _ _ _)).mono ?_); rintro e w' ⟨rfl, rfl⟩; refine ⟨_, rfl, ?_⟩) | ((with_reducible refine (no_calls _ 4 _ (by omega) _ ((T.al _).al _) (cell_new1 _ _ _ _ _)).mono ?_); rintro e w' ⟨rfl, rfl⟩; refine ⟨_, rfl, ?_⟩)) | go_values | go_skip | go_guarded | go_step)
    go_quiet ((go_at_call 21; exact Calls.quiet_of_same (no_quiet _ 4 _ (by omega) _ ((T.al _).al _) (cell_new1 _ _ _ _ _) _)))
    repeat' (first | ((with_reducible refine gate_tmp rfl ?_); refine closL_ _ rfl rfl Tryd.func21 (by kernel_rfl) rfl #[.string ⟨#[_]⟩, .pointer (some ⟨w.heap.size, 0, none⟩)] rfl rfl (by simp only [List.map_toArray, List.map_cons, List.map_nil]; rfl) ?_; (with_reducible refine (no_at _ 4 _ (by omega) _ ((T.al _).al _) (cell_new1 _ _ _ _ _) _).mono ?_); rintro e w' ⟨rfl, rfl⟩; refine ⟨_, rfl, ?_⟩) | (go_at_call 24; refine (Looks.at_ hL (bel2q _ _ _ _)).mono ?_; rintro e w2 ⟨rfl, hb2⟩; have B2 := Aside0.mk (below_then (bel2q _ _ _ _) (bel2q _ _ _ _).size hb2); clear hb2; dsimp only) | go_values | go_skip | go_guarded | go_step)
    go_ret
    exact ⟨errI_no (by simp [checkB, hf]), (by first | exact bel2q _ _ _ _ | exact bel2 _ _ _ | exact bel1 _ _)⟩
  have ef' : (first == 0) = false := by simpa using ef
  go_enter Tryd.func10, Tryd.ntmps10
  repeat' (first | (go_at_call 20; refine (known_calls _ (by omega) _ (T.al _)).mono ?_; rintro e w' ⟨rfl, rfl⟩; dsimp only; rw [show knownB _ = true from hk.out]) | (go_at_call 23; refine (place_calls _ _ _).mono ?_; rintro e w' ⟨rfl, rfl⟩; dsimp only) | ((with_reducible refine gate_tmp rfl ?_); refine closL_ _ rfl rfl Tryd.func21 (by kernel_rfl) rfl #[.string ⟨#[_]⟩, .pointer (some ⟨w.heap.size, 0, none⟩)] rfl rfl (by simp only [List.map_toArray, List.map_cons, List.map_nil]; rfl) ?_; first | ((with_reducible refine (no_calls _ 4 _ (by omega) _ (T.al _) (cell_new _ _ _ _)).mono ?_); rintro e w' ⟨rfl, rfl⟩; refine ⟨_, rfl, ?_⟩) | ((with_reducible refine (no_calls _ 4 _ (by omega) _ ((T.al _).al _) (cell_new1 _ _ _ _ _)).mono ?_); rintro e w' ⟨rfl, rfl⟩; refine ⟨_, rfl, ?_⟩)) | go_values | go_skip | go_guarded | go_step)
  go_quiet ((go_at_call 21; exact Calls.quiet_of_same (no_quiet _ 4 _ (by omega) _ ((T.al _).al _) (cell_new1 _ _ _ _ _) _)))
  by_cases el : last = 0
  rotate_left
  · have el' : (last == 0) = false := by simpa using el
    repeat' (first | ((with_reducible refine gate_tmp rfl ?_); refine closL_ _ rfl rfl Tryd.func21 (by kernel_rfl) rfl #[.string ⟨#[_]⟩, .pointer (some ⟨w.heap.size, 0, none⟩)] rfl rfl (by simp only [List.map_toArray, List.map_cons, List.map_nil]; rfl) ?_; (with_reducible refine (no_at _ 4 _ (by omega) _ ((T.al _).al _) (cell_new1 _ _ _ _ _) _).mono ?_); rintro e w' ⟨rfl, rfl⟩; refine ⟨_, rfl, ?_⟩) | (go_at_call 24; refine (Looks.at_ hL (bel2q _ _ _ _)).mono ?_; rintro e w2 ⟨rfl, hb2⟩; have B2 := Aside0.mk (below_then (bel2q _ _ _ _) (bel2q _ _ _ _).size hb2); clear hb2; dsimp only) | go_values | go_skip | go_guarded | go_step)
    go_ret
    exact ⟨errI_no (by simp [checkB, el, hl]), (by first | exact bel2q _ _ _ _ | exact bel2 _ _ _ | exact bel1 _ _)⟩
  have el' : (last == 0) = true := by simpa using el
  have elh := Aside0.mk el
  clear el
  by_cases ens : 0 < ns
  · skip
    repeat' (first | ((with_reducible refine gate_tmp rfl ?_); refine closL_ _ rfl rfl Tryd.func21 (by kernel_rfl) rfl #[.string ⟨#[_]⟩, .pointer (some ⟨w.heap.size, 0, none⟩)] rfl rfl (by simp only [List.map_toArray, List.map_cons, List.map_nil]; rfl) ?_; (with_reducible refine (no_at _ 4 _ (by omega) _ ((T.al _).al _) (cell_new1 _ _ _ _ _) _).mono ?_); rintro e w' ⟨rfl, rfl⟩; refine ⟨_, rfl, ?_⟩) | (go_at_call 24; refine (Looks.at_ hL (bel2q _ _ _ _)).mono ?_; rintro e w2 ⟨rfl, hb2⟩; have B2 := Aside0.mk (below_then (bel2q _ _ _ _) (bel2q _ _ _ _).size hb2); clear hb2; dsimp only) | go_values | go_skip | go_guarded | go_step)
    go_ret
    exact ⟨errI_no (by simp [checkB, Nat.ne_of_gt ens, hpp]), (by first | exact bel2q _ _ _ _ | exact bel2 _ _ _ | exact bel1 _ _)⟩
  by_cases env : 0 < nv
  · skip
    repeat' (first | ((with_reducible refine gate_tmp rfl ?_); refine closL_ _ rfl rfl Tryd.func21 (by kernel_rfl) rfl #[.string ⟨#[_]⟩, .pointer (some ⟨w.heap.size, 0, none⟩)] rfl rfl (by simp only [List.map_toArray, List.map_cons, List.map_nil]; rfl) ?_; (with_reducible refine (no_at _ 4 _ (by omega) _ ((T.al _).al _) (cell_new1 _ _ _ _ _) _).mono ?_); rintro e w' ⟨rfl, rfl⟩; refine ⟨_, rfl, ?_⟩) | (go_at_call 24; refine (Looks.at_ hL (bel2q _ _ _ _)).mono ?_; rintro e w2 ⟨rfl, hb2⟩; have B2 := Aside0.mk (below_then (bel2q _ _ _ _) (bel2q _ _ _ _).size hb2); clear hb2; dsimp only) | go_values | go_skip | go_guarded | go_step)
    go_ret
    exact ⟨errI_no (by simp [checkB, Nat.ne_of_gt env, hv]), (by first | exact bel2q _ _ _ _ | exact bel2 _ _ _ | exact bel1 _ _)⟩
  cases L
  · skip
    repeat' (first | ((with_reducible refine gate_tmp rfl ?_); refine closL_ _ rfl rfl Tryd.func21 (by kernel_rfl) rfl #[.string ⟨#[_]⟩, .pointer (some ⟨w.heap.size, 0, none⟩)] rfl rfl (by simp only [List.map_toArray, List.map_cons, List.map_nil]; rfl) ?_; (with_reducible refine (no_at _ 4 _ (by omega) _ ((T.al _).al _) (cell_new1 _ _ _ _ _) _).mono ?_); rintro e w' ⟨rfl, rfl⟩; refine ⟨_, rfl, ?_⟩) | (go_at_call 24; refine (Looks.at_ hL (bel2q _ _ _ _)).mono ?_; rintro e w2 ⟨rfl, hb2⟩; have B2 := Aside0.mk (below_then (bel2q _ _ _ _) (bel2q _ _ _ _).size hb2); clear hb2; dsimp only) | go_values | go_skip | go_guarded | go_step)
    go_ret
    exact ⟨errI_no (by simp [checkB]), B2.out⟩
  · skip
    repeat' (first | ((with_reducible refine gate_tmp rfl ?_); refine closL_ _ rfl rfl Tryd.func21 (by kernel_rfl) rfl #[.string ⟨#[_]⟩, .pointer (some ⟨w.heap.size, 0, none⟩)] rfl rfl (by simp only [List.map_toArray, List.map_cons, List.map_nil]; rfl) ?_; (with_reducible refine (no_at _ 4 _ (by omega) _ ((T.al _).al _) (cell_new1 _ _ _ _ _) _).mono ?_); rintro e w' ⟨rfl, rfl⟩; refine ⟨_, rfl, ?_⟩) | (go_at_call 24; refine (Looks.at_ hL (bel2q _ _ _ _)).mono ?_; rintro e w2 ⟨rfl, hb2⟩; have B2 := Aside0.mk (below_then (bel2q _ _ _ _) (bel2q _ _ _ _).size hb2); clear hb2; dsimp only) | go_values | go_skip | go_guarded | go_step)
    go_ret
    exact ⟨errI_yes (by have hk' := hk.out; have el := elh.out; have zns : ns = 0 := (by omega); have znv : nv = 0 := (by omega); simp_all [checkB]), B2.out⟩
set_option maxHeartbeats 4000000 in
set_option maxRecDepth 100000 in
theorem check_5 (n r first last commit : Int) (A6 A7 A8 : Option Addr) (nv nb ns c6 c7 c8 : Nat) (L : Bool) (w : World) (T : Tabs w) (hL0 : Looks w 5 n r first last commit (.slice A6 nv c6) (.slice A7 nb c7) (.slice A8 ns c8) L) :
    Calls Tryd.prog 10 #[msgV 5 n r first last commit (.slice A6 nv c6) (.slice A7 nb c7) (.slice A8 ns c8)] w fun e w' => e = .returned (.int .i64 (errI (checkB 5 n r first last commit nv nb ns L))) ∧ Below w.heap.size w w' := by
  have hL := Aside0.mk hL0
  clear hL0
  have hk : Aside0 (knownB 5 = true) := ⟨by decide⟩
  have hb : hasB 5 98 = true := by decide
  have hc : hasB 5 99 = false := by decide
  have hf : hasB 5 102 = true := by decide
  have hl : hasB 5 108 = true := by decide
  have hpp : hasB 5 112 = false := by decide
  have hs : hasB 5 115 = false := by decide
  have hv : hasB 5 118 = false := by decide
  by_cases hp : placeB r = true
  rotate_left
  · replace hp : placeB r = false := by simpa using hp
    go_enter Tryd.func10, Tryd.ntmps10
    repeat' (first | (go_at_call 20; refine (known_calls _ (by omega) _ (T.al _)).mono ?_; rintro e w' ⟨rfl, rfl⟩; dsimp only; rw [show knownB _ = true from hk.out]) | (go_at_call 23; refine (place_calls _ _ _).mono ?_; rintro e w' ⟨rfl, rfl⟩; dsimp only) | ((with_reducible refine gate_tmp rfl ?_); refine closL_ _ rfl rfl Tryd.func21 (by kernel_rfl) rfl #[.string ⟨#[_]⟩, .pointer (some ⟨w.heap.size, 0, none⟩)] rfl rfl (by simp only [List.map_toArray, List.map_cons, List.map_nil]; rfl) ?_; first | ((with_reducible refine (no_calls _ 5 _ (by omega) _ (T.al _) (cell_new _ _ _ _)).mono ?_); rintro e w' ⟨rfl, rfl⟩; refine ⟨_, rfl, ?_⟩) | ((with_reducible refine (no_calls _ 5 _ (by omega) _ ((T.al _).al _) (cell_new1 _ _ _ _ _)).mono ?_); rintro e w' ⟨rfl, rfl⟩; refine ⟨_, rfl, ?_⟩)) | go_values | go_skip | go_guarded | go_step)
    go_ret
    exact ⟨errI_no (by simp [checkB, hp]), (by first | exact bel2q _ _ _ _ | exact bel2 _ _ _ | exact bel1 _ _)⟩
  by_cases ec : commit = 0
  rotate_left
  · have ec' : (commit == 0) = false := by simpa using ec
    go_enter Tryd.func10, Tryd.ntmps10
    repeat' (first | (go_at_call 20; refine (known_calls _ (by omega) _ (T.al _)).mono ?_; rintro e w' ⟨rfl, rfl⟩; dsimp only; rw [show knownB _ = true from hk.out]) | (go_at_call 23; refine (place_calls _ _ _).mono ?_; rintro e w' ⟨rfl, rfl⟩; dsimp only) | ((with_reducible refine gate_tmp rfl ?_); refine closL_ _ rfl rfl Tryd.func21 (by kernel_rfl) rfl #[.string ⟨#[_]⟩, .pointer (some ⟨w.heap.size, 0, none⟩)] rfl rfl (by simp only [List.map_toArray, List.map_cons, List.map_nil]; rfl) ?_; first | ((with_reducible refine (no_calls _ 5 _ (by omega) _ (T.al _) (cell_new _ _ _ _)).mono ?_); rintro e w' ⟨rfl, rfl⟩; refine ⟨_, rfl, ?_⟩) | ((with_reducible refine (no_calls _ 5 _ (by omega) _ ((T.al _).al _) (cell_new1 _ _ _ _ _)).mono ?_); rintro e w' ⟨rfl, rfl⟩; refine ⟨_, rfl, ?_⟩)) | go_values | go_skip | go_guarded | go_step)
    go_ret
    exact ⟨errI_no (by simp [checkB, ec, hc]), (by first | exact bel2q _ _ _ _ | exact bel2 _ _ _ | exact bel1 _ _)⟩
  subst ec
  by_cases ef : first = 0
  · subst ef
    go_enter Tryd.func10, Tryd.ntmps10
    repeat' (first | (go_at_call 20; refine (known_calls _ (by omega) _ (T.al _)).mono ?_; rintro e w' ⟨rfl, rfl⟩; dsimp only; rw [show knownB _ = true from hk.out]) | (go_at_call 23; refine (place_calls _ _ _).mono ?_; rintro e w' ⟨rfl, rfl⟩; dsimp only) | ((with_reducible refine gate_tmp rfl ?_); refine closL_ _ rfl rfl Tryd.func21 (by kernel_rfl) rfl #[.string ⟨#[_]⟩, .pointer (some ⟨w.heap.size, 0, none⟩)] rfl rfl (by simp only [List.map_toArray, List.map_cons, List.map_nil]; rfl) ?_; first | ((with_reducible refine (no_calls _ 5 _ (by omega) _ (T.al _) (cell_new _ _ _ _)).mono ?_); rintro e w' ⟨rfl, rfl⟩; refine ⟨_, rfl, ?_⟩) | ((with_reducible refine (no_calls _ 5 _ (by omega) _ ((T.al _).al _) (cell_new1 _ _ _ _ _)).mono ?_); rintro e w' ⟨rfl, rfl⟩; refine ⟨_, rfl, ?_⟩)) | go_values | go_skip | go_guarded | go_step)
    go_quiet ((go_at_call 21; exact Calls.quiet_of_same (no_quiet _ 5 _ (by omega) _ ((T.al _).al _) (cell_new1 _ _ _ _ _) _)))
    repeat' (first | ((with_reducible refine gate_tmp rfl ?_); refine closL_ _ rfl rfl Tryd.func21 (by kernel_rfl) rfl #[.string ⟨#[_]⟩, .pointer (some ⟨w.heap.size, 0, none⟩)] rfl rfl (by simp only [List.map_toArray, List.map_cons, List.map_nil]; rfl) ?_; (with_reducible refine (no_at _ 5 _ (by omega) _ ((T.al _).al _) (cell_new1 _ _ _ _ _) _).mono ?_); rintro e w' ⟨rfl, rfl⟩; refine ⟨_, rfl, ?_⟩) | (go_at_call 24; refine (Looks.at_ hL (bel2q _ _ _ _)).mono ?_; rintro e w2 ⟨rfl, hb2⟩; have B2 := Aside0.mk (below_then (bel2q _ _ _ _) (bel2q _ _ _ _).size hb2); clear hb2; dsimp only) | go_values | go_skip | go_guarded | go_step)
    go_ret
    exact ⟨errI_no (by simp [checkB, hf]), (by first | exact bel2q _ _ _ _ | exact bel2 _ _ _ | exact bel1 _ _)⟩
  have ef' : (first == 0) = false := by simpa using ef
  go_enter Tryd.func10, Tryd.ntmps10
  repeat' (first | (go_at_call 20; refine (known_calls _ (by omega) _ (T.al _)).mono ?_; rintro e w' ⟨rfl, rfl⟩; dsimp only; rw [show knownB _ = true from hk.out]) | (go_at_call 23; refine (place_calls _ _ _).mono ?_; rintro e w' ⟨rfl, rfl⟩; dsimp only) | ((with_reducible refine gate_tmp rfl ?_); refine closL_ _ rfl rfl Tryd.func21 (by kernel_rfl) rfl #[.string ⟨#[_]⟩, .pointer (some ⟨w.heap.size, 0, none⟩)] rfl rfl (by simp only [List.map_toArray, List.map_cons, List.map_nil]; rfl) ?_; first | ((with_reducible refine (no_calls _ 5 _ (by omega) _ (T.al _) (cell_new _ _ _ _)).mono ?_); rintro e w' ⟨rfl, rfl⟩; refine ⟨_, rfl, ?_⟩) | ((with_reducible refine (no_calls _ 5 _ (by omega) _ ((T.al _).al _) (cell_new1 _ _ _ _ _)).mono ?_); rintro e w' ⟨rfl, rfl⟩; refine ⟨_, rfl, ?_⟩)) | go_values | go_skip | go_guarded | go_step)
  go_quiet ((go_at_call 21; exact Calls.quiet_of_same (no_quiet _ 5 _ (by omega) _ ((T.al _).al _) (cell_new1 _ _ _ _ _) _)))
  by_cases el : first ≤ last
  rotate_left
  · have el' : last < first := by omega
    repeat' (first | ((with_reducible refine gate_tmp rfl ?_); refine closL_ _ rfl rfl Tryd.func21 (by kernel_rfl) rfl #[.string ⟨#[_]⟩, .pointer (some ⟨w.heap.size, 0, none⟩)] rfl rfl (by simp only [List.map_toArray, List.map_cons, List.map_nil]; rfl) ?_; (with_reducible refine (no_at _ 5 _ (by omega) _ ((T.al _).al _) (cell_new1 _ _ _ _ _) _).mono ?_); rintro e w' ⟨rfl, rfl⟩; refine ⟨_, rfl, ?_⟩) | (go_at_call 24; refine (Looks.at_ hL (bel2q _ _ _ _)).mono ?_; rintro e w2 ⟨rfl, hb2⟩; have B2 := Aside0.mk (below_then (bel2q _ _ _ _) (bel2q _ _ _ _).size hb2); clear hb2; dsimp only) | go_values | go_skip | go_guarded | go_step)
    go_ret
    exact ⟨errI_no (by simp [checkB, el, hl]), (by first | exact bel2q _ _ _ _ | exact bel2 _ _ _ | exact bel1 _ _)⟩
  by_cases ens : 0 < ns
  · skip
    repeat' (first | ((with_reducible refine gate_tmp rfl ?_); refine closL_ _ rfl rfl Tryd.func21 (by kernel_rfl) rfl #[.string ⟨#[_]⟩, .pointer (some ⟨w.heap.size, 0, none⟩)] rfl rfl (by simp only [List.map_toArray, List.map_cons, List.map_nil]; rfl) ?_; (with_reducible refine (no_at _ 5 _ (by omega) _ ((T.al _).al _) (cell_new1 _ _ _ _ _) _).mono ?_); rintro e w' ⟨rfl, rfl⟩; refine ⟨_, rfl, ?_⟩) | (go_at_call 24; refine (Looks.at_ hL (bel2q _ _ _ _)).mono ?_; rintro e w2 ⟨rfl, hb2⟩; have B2 := Aside0.mk (below_then (bel2q _ _ _ _) (bel2q _ _ _ _).size hb2); clear hb2; dsimp only) | go_values | go_skip | go_guarded | go_step)
    go_ret
    exact ⟨errI_no (by simp [checkB, Nat.ne_of_gt ens, hpp]), (by first | exact bel2q _ _ _ _ | exact bel2 _ _ _ | exact bel1 _ _)⟩
  by_cases enb : 0 < nb
  · skip
    repeat' (first | ((with_reducible refine gate_tmp rfl ?_); refine closL_ _ rfl rfl Tryd.func21 (by kernel_rfl) rfl #[.string ⟨#[_]⟩, .pointer (some ⟨w.heap.size, 0, none⟩)] rfl rfl (by simp only [List.map_toArray, List.map_cons, List.map_nil]; rfl) ?_; (with_reducible refine (no_at _ 5 _ (by omega) _ ((T.al _).al _) (cell_new1 _ _ _ _ _) _).mono ?_); rintro e w' ⟨rfl, rfl⟩; refine ⟨_, rfl, ?_⟩) | (go_at_call 24; refine (Looks.at_ hL (bel2q _ _ _ _)).mono ?_; rintro e w2 ⟨rfl, hb2⟩; have B2 := Aside0.mk (below_then (bel2q _ _ _ _) (bel2q _ _ _ _).size hb2); clear hb2; dsimp only) | go_values | go_skip | go_guarded | go_step)
    go_ret
    exact ⟨errI_no (by simp [checkB, Nat.ne_of_gt enb, hs]), (by first | exact bel2q _ _ _ _ | exact bel2 _ _ _ | exact bel1 _ _)⟩
  by_cases env : 0 < nv
  · skip
    repeat' (first | ((with_reducible refine gate_tmp rfl ?_); refine closL_ _ rfl rfl Tryd.func21 (by kernel_rfl) rfl #[.string ⟨#[_]⟩, .pointer (some ⟨w.heap.size, 0, none⟩)] rfl rfl (by simp only [List.map_toArray, List.map_cons, List.map_nil]; rfl) ?_; (with_reducible refine (no_at _ 5 _ (by omega) _ ((T.al _).al _) (cell_new1 _ _ _ _ _) _).mono ?_); rintro e w' ⟨rfl, rfl⟩; refine ⟨_, rfl, ?_⟩) | (go_at_call 24; refine (Looks.at_ hL (bel2q _ _ _ _)).mono ?_; rintro e w2 ⟨rfl, hb2⟩; have B2 := Aside0.mk (below_then (bel2q _ _ _ _) (bel2q _ _ _ _).size hb2); clear hb2; dsimp only) | go_values | go_skip | go_guarded | go_step)
    go_ret
    exact ⟨errI_no (by simp [checkB, Nat.ne_of_gt env, hv]), (by first | exact bel2q _ _ _ _ | exact bel2 _ _ _ | exact bel1 _ _)⟩
  cases L
  · skip
    repeat' (first | ((with_reducible refine gate_tmp rfl ?_); refine closL_ _ rfl rfl Tryd.func21 (by kernel_rfl) rfl #[.string ⟨#[_]⟩, .pointer (some ⟨w.heap.size, 0, none⟩)] rfl rfl (by simp only [List.map_toArray, List.map_cons, List.map_nil]; rfl) ?_; (with_reducible refine (no_at _ 5 _ (by omega) _ ((T.al _).al _) (cell_new1 _ _ _ _ _) _).mono ?_); rintro e w' ⟨rfl, rfl⟩; refine ⟨_, rfl, ?_⟩) | (go_at_call 24; refine (Looks.at_ hL (bel2q _ _ _ _)).mono ?_; rintro e w2 ⟨rfl, hb2⟩; have B2 := Aside0.mk (below_then (bel2q _ _ _ _) (bel2q _ _ _ _).size hb2); clear hb2; dsimp only) | go_values | go_skip | go_guarded | go_step)
    go_ret
    exact ⟨errI_no (by simp [checkB]), B2.out⟩
  · skip
    repeat' (first | ((with_reducible refine gate_tmp rfl ?_); refine closL_ _ rfl rfl Tryd.func21 (by kernel_rfl) rfl #[.string ⟨#[_]⟩, .pointer (some ⟨w.heap.size, 0, none⟩)] rfl rfl (by simp only [List.map_toArray, List.map_cons, List.map_nil]; rfl) ?_; (with_reducible refine (no_at _ 5 _ (by omega) _ ((T.al _).al _) (cell_new1 _ _ _ _ _) _).mono ?_); rintro e w' ⟨rfl, rfl⟩; refine ⟨_, rfl, ?_⟩) | (go_at_call 24; refine (Looks.at_ hL (bel2q _ _ _ _)).mono ?_; rintro e w2 ⟨rfl, hb2⟩; have B2 := Aside0.mk (below_then (bel2q _ _ _ _) (bel2q _ _ _ _).size hb2); clear hb2; dsimp only) | go_values | go_skip | go_guarded | go_step)
    go_ret
    exact ⟨errI_yes (by have hk' := hk.out; have zns : ns = 0 := (by omega); have znb : nb = 0 := (by omega); have znv : nv = 0 := (by omega); simp_all [checkB]), B2.out⟩
set_option maxHeartbeats 4000000 in
set_option maxRecDepth 100000 in
theorem check_6 (n r first last commit : Int) (A6 A7 A8 : Option Addr) (nv nb ns c6 c7 c8 : Nat) (L : Bool) (w : World) (T : Tabs w) (hL0 : Looks w 6 n r first last commit (.slice A6 nv c6) (.slice A7 nb c7) (.slice A8 ns c8) L) :
    Calls Tryd.prog 10 #[msgV 6 n r first last commit (.slice A6 nv c6) (.slice A7 nb c7) (.slice A8 ns c8)] w fun e w' => e = .returned (.int .i64 (errI (checkB 6 n r first last commit nv nb ns L))) ∧ Below w.heap.size w w' := by
  have hL := Aside0.mk hL0
  clear hL0
  have hk : Aside0 (knownB 6 = true) := ⟨by decide⟩
  have hb : hasB 6 98 = false := by decide
  have hc : hasB 6 99 = false := by decide
  have hf : hasB 6 102 = true := by decide
  have hl : hasB 6 108 = false := by decide
  have hpp : hasB 6 112 = false := by decide
  have hs : hasB 6 115 = false := by decide
  have hv : hasB 6 118 = false := by decide
  by_cases en : n = 0
  rotate_left
  · have en' : (n == 0) = false := by simpa using en
    go_enter Tryd.func10, Tryd.ntmps10
    repeat' (first | (go_at_call 20; refine (known_calls _ (by omega) _ (T.al _)).mono ?_; rintro e w' ⟨rfl, rfl⟩; dsimp only; rw [show knownB _ = true from hk.out]) | (go_at_call 23; refine (place_calls _ _ _).mono ?_; rintro e w' ⟨rfl, rfl⟩; dsimp only) | ((with_reducible refine gate_tmp rfl ?_); refine closL_ _ rfl rfl Tryd.func21 (by kernel_rfl) rfl #[.string ⟨#[_]⟩, .pointer (some ⟨w.heap.size, 0, none⟩)] rfl rfl (by simp only [List.map_toArray, List.map_cons, List.map_nil]; rfl) ?_; first | ((with_reducible refine (no_calls _ 6 _ (by omega) _ (T.al _) (cell_new _ _ _ _)).mono ?_); rintro e w' ⟨rfl, rfl⟩; refine ⟨_, rfl, ?_⟩) | ((with_reducible refine (no_calls _ 6 _ (by omega) _ ((T.al _).al _) (cell_new1 _ _ _ _ _)).mono ?_); rintro e w' ⟨rfl, rfl⟩; refine ⟨_, rfl, ?_⟩)) | go_values | go_skip | go_guarded | go_step)
    go_ret
    exact ⟨errI_no (by simp [checkB, en, hb]), (by first | exact bel2q _ _ _ _ | exact bel2 _ _ _ | exact bel1 _ _)⟩
  subst en
  by_cases er : r = 0
  rotate_left
  · have er' : (r == 0) = false := by simpa using er
    go_enter Tryd.func10, Tryd.ntmps10
    repeat' (first | (go_at_call 20; refine (known_calls _ (by omega) _ (T.al _)).mono ?_; rintro e w' ⟨rfl, rfl⟩; dsimp only; rw [show knownB _ = true from hk.out]) | (go_at_call 23; refine (place_calls _ _ _).mono ?_; rintro e w' ⟨rfl, rfl⟩; dsimp only) | ((with_reducible refine gate_tmp rfl ?_); refine closL_ _ rfl rfl Tryd.func21 (by kernel_rfl) rfl #[.string ⟨#[_]⟩, .pointer (some ⟨w.heap.size, 0, none⟩)] rfl rfl (by simp only [List.map_toArray, List.map_cons, List.map_nil]; rfl) ?_; first | ((with_reducible refine (no_calls _ 6 _ (by omega) _ (T.al _) (cell_new _ _ _ _)).mono ?_); rintro e w' ⟨rfl, rfl⟩; refine ⟨_, rfl, ?_⟩) | ((with_reducible refine (no_calls _ 6 _ (by omega) _ ((T.al _).al _) (cell_new1 _ _ _ _ _)).mono ?_); rintro e w' ⟨rfl, rfl⟩; refine ⟨_, rfl, ?_⟩)) | go_values | go_skip | go_guarded | go_step)
    go_ret
    exact ⟨errI_no (by simp [checkB, er, hb]), (by first | exact bel2q _ _ _ _ | exact bel2 _ _ _ | exact bel1 _ _)⟩
  subst er
  have hp : placeB 0 = true := by decide
  by_cases ec : commit = 0
  rotate_left
  · have ec' : (commit == 0) = false := by simpa using ec
    go_enter Tryd.func10, Tryd.ntmps10
    repeat' (first | (go_at_call 20; refine (known_calls _ (by omega) _ (T.al _)).mono ?_; rintro e w' ⟨rfl, rfl⟩; dsimp only; rw [show knownB _ = true from hk.out]) | (go_at_call 23; refine (place_calls _ _ _).mono ?_; rintro e w' ⟨rfl, rfl⟩; dsimp only) | ((with_reducible refine gate_tmp rfl ?_); refine closL_ _ rfl rfl Tryd.func21 (by kernel_rfl) rfl #[.string ⟨#[_]⟩, .pointer (some ⟨w.heap.size, 0, none⟩)] rfl rfl (by simp only [List.map_toArray, List.map_cons, List.map_nil]; rfl) ?_; first | ((with_reducible refine (no_calls _ 6 _ (by omega) _ (T.al _) (cell_new _ _ _ _)).mono ?_); rintro e w' ⟨rfl, rfl⟩; refine ⟨_, rfl, ?_⟩) | ((with_reducible refine (no_calls _ 6 _ (by omega) _ ((T.al _).al _) (cell_new1 _ _ _ _ _)).mono ?_); rintro e w' ⟨rfl, rfl⟩; refine ⟨_, rfl, ?_⟩)) | go_values | go_skip | go_guarded | go_step)
    go_ret
    exact ⟨errI_no (by simp [checkB, ec, hc]), (by first | exact bel2q _ _ _ _ | exact bel2 _ _ _ | exact bel1 _ _)⟩
  subst ec
  by_cases ef : first = 0
  · subst ef
    go_enter Tryd.func10, Tryd.ntmps10
    repeat' (first | (go_at_call 20; refine (known_calls _ (by omega) _ (T.al _)).mono ?_; rintro e w' ⟨rfl, rfl⟩; dsimp only; rw [show knownB _ = true from hk.out]) | (go_at_call 23; refine (place_calls _ _ _).mono ?_; rintro e w' ⟨rfl, rfl⟩; dsimp only) | ((with_reducible refine gate_tmp rfl ?_); refine closL_ _ rfl rfl Tryd.func21 (by kernel_rfl) rfl #[.string ⟨#[_]⟩, .pointer (some ⟨w.heap.size, 0, none⟩)] rfl rfl (by simp only [List.map_toArray, List.map_cons, List.map_nil]; rfl) ?_; first | ((with_reducible refine (no_calls _ 6 _ (by omega) _ (T.al _) (cell_new _ _ _ _)).mono ?_); rintro e w' ⟨rfl, rfl⟩; refine ⟨_, rfl, ?_⟩) | ((with_reducible refine (no_calls _ 6 _ (by omega) _ ((T.al _).al _) (cell_new1 _ _ _ _ _)).mono ?_); rintro e w' ⟨rfl, rfl⟩; refine ⟨_, rfl, ?_⟩)) | go_values | go_skip | go_guarded | go_step)
    go_quiet ((go_at_call 21; exact Calls.quiet_of_same (no_quiet _ 6 _ (by omega) _ ((T.al _).al _) (cell_new1 _ _ _ _ _) _)))
    repeat' (first | ((with_reducible refine gate_tmp rfl ?_); refine closL_ _ rfl rfl Tryd.func21 (by kernel_rfl) rfl #[.string ⟨#[_]⟩, .pointer (some ⟨w.heap.size, 0, none⟩)] rfl rfl (by simp only [List.map_toArray, List.map_cons, List.map_nil]; rfl) ?_; (with_reducible refine (no_at _ 6 _ (by omega) _ ((T.al _).al _) (cell_new1 _ _ _ _ _) _).mono ?_); rintro e w' ⟨rfl, rfl⟩; refine ⟨_, rfl, ?_⟩) | (go_at_call 24; refine (Looks.at_ hL (bel2q _ _ _ _)).mono ?_; rintro e w2 ⟨rfl, hb2⟩; have B2 := Aside0.mk (below_then (bel2q _ _ _ _) (bel2q _ _ _ _).size hb2); clear hb2; dsimp only) | go_values | go_skip | go_guarded | go_step)
    go_ret
    exact ⟨errI_no (by simp [checkB, hf]), (by first | exact bel2q _ _ _ _ | exact bel2 _ _ _ | exact bel1 _ _)⟩
  have ef' : (first == 0) = false := by simpa using ef
  go_enter Tryd.func10, Tryd.ntmps10
  repeat' (first | (go_at_call 20; refine (known_calls _ (by omega) _ (T.al _)).mono ?_; rintro e w' ⟨rfl, rfl⟩; dsimp only; rw [show knownB _ = true from hk.out]) | (go_at_call 23; refine (place_calls _ _ _).mono ?_; rintro e w' ⟨rfl, rfl⟩; dsimp only) | ((with_reducible refine gate_tmp rfl ?_); refine closL_ _ rfl rfl Tryd.func21 (by kernel_rfl) rfl #[.string ⟨#[_]⟩, .pointer (some ⟨w.heap.size, 0, none⟩)] rfl rfl (by simp only [List.map_toArray, List.map_cons, List.map_nil]; rfl) ?_; first | ((with_reducible refine (no_calls _ 6 _ (by omega) _ (T.al _) (cell_new _ _ _ _)).mono ?_); rintro e w' ⟨rfl, rfl⟩; refine ⟨_, rfl, ?_⟩) | ((with_reducible refine (no_calls _ 6 _ (by omega) _ ((T.al _).al _) (cell_new1 _ _ _ _ _)).mono ?_); rintro e w' ⟨rfl, rfl⟩; refine ⟨_, rfl, ?_⟩)) | go_values | go_skip | go_guarded | go_step)
  go_quiet ((go_at_call 21; exact Calls.quiet_of_same (no_quiet _ 6 _ (by omega) _ ((T.al _).al _) (cell_new1 _ _ _ _ _) _)))
  by_cases el : last = 0
  rotate_left
  · have el' : (last == 0) = false := by simpa using el
    repeat' (first | ((with_reducible refine gate_tmp rfl ?_); refine closL_ _ rfl rfl Tryd.func21 (by kernel_rfl) rfl #[.string ⟨#[_]⟩, .pointer (some ⟨w.heap.size, 0, none⟩)] rfl rfl (by simp only [List.map_toArray, List.map_cons, List.map_nil]; rfl) ?_; (with_reducible refine (no_at _ 6 _ (by omega) _ ((T.al _).al _) (cell_new1 _ _ _ _ _) _).mono ?_); rintro e w' ⟨rfl, rfl⟩; refine ⟨_, rfl, ?_⟩) | (go_at_call 24; refine (Looks.at_ hL (bel2q _ _ _ _)).mono ?_; rintro e w2 ⟨rfl, hb2⟩; have B2 := Aside0.mk (below_then (bel2q _ _ _ _) (bel2q _ _ _ _).size hb2); clear hb2; dsimp only) | go_values | go_skip | go_guarded | go_step)
    go_ret
    exact ⟨errI_no (by simp [checkB, el, hl]), (by first | exact bel2q _ _ _ _ | exact bel2 _ _ _ | exact bel1 _ _)⟩
  have el' : (last == 0) = true := by simpa using el
  have elh := Aside0.mk el
  clear el
  by_cases ens : 0 < ns
  · skip
    repeat' (first | ((with_reducible refine gate_tmp rfl ?_); refine closL_ _ rfl rfl Tryd.func21 (by kernel_rfl) rfl #[.string ⟨#[_]⟩, .pointer (some ⟨w.heap.size, 0, none⟩)] rfl rfl (by simp only [List.map_toArray, List.map_cons, List.map_nil]; rfl) ?_; (with_reducible refine (no_at _ 6 _ (by omega) _ ((T.al _).al _) (cell_new1 _ _ _ _ _) _).mono ?_); rintro e w' ⟨rfl, rfl⟩; refine ⟨_, rfl, ?_⟩) | (go_at_call 24; refine (Looks.at_ hL (bel2q _ _ _ _)).mono ?_; rintro e w2 ⟨rfl, hb2⟩; have B2 := Aside0.mk (below_then (bel2q _ _ _ _) (bel2q _ _ _ _).size hb2); clear hb2; dsimp only) | go_values | go_skip | go_guarded | go_step)
    go_ret
    exact ⟨errI_no (by simp [checkB, Nat.ne_of_gt ens, hpp]), (by first | exact bel2q _ _ _ _ | exact bel2 _ _ _ | exact bel1 _ _)⟩
  by_cases enb : 0 < nb
  · skip
    repeat' (first | ((with_reducible refine gate_tmp rfl ?_); refine closL_ _ rfl rfl Tryd.func21 (by kernel_rfl) rfl #[.string ⟨#[_]⟩, .pointer (some ⟨w.heap.size, 0, none⟩)] rfl rfl (by simp only [List.map_toArray, List.map_cons, List.map_nil]; rfl) ?_; (with_reducible refine (no_at _ 6 _ (by omega) _ ((T.al _).al _) (cell_new1 _ _ _ _ _) _).mono ?_); rintro e w' ⟨rfl, rfl⟩; refine ⟨_, rfl, ?_⟩) | (go_at_call 24; refine (Looks.at_ hL (bel2q _ _ _ _)).mono ?_; rintro e w2 ⟨rfl, hb2⟩; have B2 := Aside0.mk (below_then (bel2q _ _ _ _) (bel2q _ _ _ _).size hb2); clear hb2; dsimp only) | go_values | go_skip | go_guarded | go_step)
    go_ret
    exact ⟨errI_no (by simp [checkB, Nat.ne_of_gt enb, hs]), (by first | exact bel2q _ _ _ _ | exact bel2 _ _ _ | exact bel1 _ _)⟩
  by_cases env : 0 < nv
  · skip
    repeat' (first | ((with_reducible refine gate_tmp rfl ?_); refine closL_ _ rfl rfl Tryd.func21 (by kernel_rfl) rfl #[.string ⟨#[_]⟩, .pointer (some ⟨w.heap.size, 0, none⟩)] rfl rfl (by simp only [List.map_toArray, List.map_cons, List.map_nil]; rfl) ?_; (with_reducible refine (no_at _ 6 _ (by omega) _ ((T.al _).al _) (cell_new1 _ _ _ _ _) _).mono ?_); rintro e w' ⟨rfl, rfl⟩; refine ⟨_, rfl, ?_⟩) | (go_at_call 24; refine (Looks.at_ hL (bel2q _ _ _ _)).mono ?_; rintro e w2 ⟨rfl, hb2⟩; have B2 := Aside0.mk (below_then (bel2q _ _ _ _) (bel2q _ _ _ _).size hb2); clear hb2; dsimp only) | go_values | go_skip | go_guarded | go_step)
    go_ret
    exact ⟨errI_no (by simp [checkB, Nat.ne_of_gt env, hv]), (by first | exact bel2q _ _ _ _ | exact bel2 _ _ _ | exact bel1 _ _)⟩
  cases L
  · skip
    repeat' (first | ((with_reducible refine gate_tmp rfl ?_); refine closL_ _ rfl rfl Tryd.func21 (by kernel_rfl) rfl #[.string ⟨#[_]⟩, .pointer (some ⟨w.heap.size, 0, none⟩)] rfl rfl (by simp only [List.map_toArray, List.map_cons, List.map_nil]; rfl) ?_; (with_reducible refine (no_at _ 6 _ (by omega) _ ((T.al _).al _) (cell_new1 _ _ _ _ _) _).mono ?_); rintro e w' ⟨rfl, rfl⟩; refine ⟨_, rfl, ?_⟩) | (go_at_call 24; refine (Looks.at_ hL (bel2q _ _ _ _)).mono ?_; rintro e w2 ⟨rfl, hb2⟩; have B2 := Aside0.mk (below_then (bel2q _ _ _ _) (bel2q _ _ _ _).size hb2); clear hb2; dsimp only) | go_values | go_skip | go_guarded | go_step)
    go_ret
    exact ⟨errI_no (by simp [checkB]), B2.out⟩
  · skip
    repeat' (first | ((with_reducible refine gate_tmp rfl ?_); refine closL_ _ rfl rfl Tryd.func21 (by kernel_rfl) rfl #[.string ⟨#[_]⟩, .pointer (some ⟨w.heap.size, 0, none⟩)] rfl rfl (by simp only [List.map_toArray, List.map_cons, List.map_nil]; rfl) ?_; (with_reducible refine (no_at _ 6 _ (by omega) _ ((T.al _).al _) (cell_new1 _ _ _ _ _) _).mono ?_); rintro e w' ⟨rfl, rfl⟩; refine ⟨_, rfl, ?_⟩) | (go_at_call 24; refine (Looks.at_ hL (bel2q _ _ _ _)).mono ?_; rintro e w2 ⟨rfl, hb2⟩; have B2 := Aside0.mk (below_then (bel2q _ _ _ _) (bel2q _ _ _ _).size hb2); clear hb2; dsimp only) | go_values | go_skip | go_guarded | go_step)
    go_ret
    exact ⟨errI_yes (by have hk' := hk.out; have el := elh.out; have zns : ns = 0 := (by omega); have znb : nb = 0 := (by omega); have znv : nv = 0 := (by omega); simp_all [checkB]), B2.out⟩
set_option maxHeartbeats 4000000 in
set_option maxRecDepth 100000 in
theorem check_7 (n r first last commit : Int) (A6 A7 A8 : Option Addr) (nv nb ns c6 c7 c8 : Nat) (L : Bool) (w : World) (T : Tabs w) (hL0 : Looks w 7 n r first last commit (.slice A6 nv c6) (.slice A7 nb c7) (.slice A8 ns c8) L) :
    Calls Tryd.prog 10 #[msgV 7 n r first last commit (.slice A6 nv c6) (.slice A7 nb c7) (.slice A8 ns c8)] w fun e w' => e = .returned (.int .i64 (errI (checkB 7 n r first last commit nv nb ns L))) ∧ Below w.heap.size w w' := by
  have hL := Aside0.mk hL0
  clear hL0
  have hk : Aside0 (knownB 7 = true) := ⟨by decide⟩
  have hb : hasB 7 98 = false := by decide
  have hc : hasB 7 99 = false := by decide
  have hf : hasB 7 102 = true := by decide
  have hl : hasB 7 108 = false := by decide
  have hpp : hasB 7 112 = false := by decide
  have hs : hasB 7 115 = true := by decide
  have hv : hasB 7 118 = false := by decide
  by_cases en : n = 0
  rotate_left
  · have en' : (n == 0) = false := by simpa using en
    go_enter Tryd.func10, Tryd.ntmps10
    repeat' (first | (go_at_call 20; refine (known_calls _ (by omega) _ (T.al _)).mono ?_; rintro e w' ⟨rfl, rfl⟩; dsimp only; rw [show knownB _ = true from hk.out]) | (go_at_call 23; refine (place_calls _ _ _).mono ?_; rintro e w' ⟨rfl, rfl⟩; dsimp only) | ((with_reducible refine gate_tmp rfl ?_); refine closL_ _ rfl rfl Tryd.func21 (by kernel_rfl) rfl #[.string ⟨#[_]⟩, .pointer (some ⟨w.heap.size, 0, none⟩)] rfl rfl (by simp only [List.map_toArray, List.map_cons, List.map_nil]; rfl) ?_; first | ((with_reducible refine (no_calls _ 7 _ (by omega) _ (T.al _) (cell_new _ _ _ _)).mono ?_); rintro e w' ⟨rfl, rfl⟩; refine ⟨_, rfl, ?_⟩) | ((with_reducible refine (no_calls _ 7 _ (by omega) _ ((T.al _).al _) (cell_new1 _ _ _ _ _)).mono ?_); rintro e w' ⟨rfl, rfl⟩; refine ⟨_, rfl, ?_⟩)) | go_values | go_skip | go_guarded | go_step)
    go_ret
    exact ⟨errI_no (by simp [checkB, en, hb]), (by first | exact bel2q _ _ _ _ | exact bel2 _ _ _ | exact bel1 _ _)⟩
  subst en
  by_cases er : r = 0
  rotate_left
  · have er' : (r == 0) = false := by simpa using er
    go_enter Tryd.func10, Tryd.ntmps10
    repeat' (first | (go_at_call 20; refine (known_calls _ (by omega) _ (T.al _)).mono ?_; rintro e w' ⟨rfl, rfl⟩; dsimp only; rw [show knownB _ = true from hk.out]) | (go_at_call 23; refine (place_calls _ _ _).mono ?_; rintro e w' ⟨rfl, rfl⟩; dsimp only) | ((with_reducible refine gate_tmp rfl ?_); refine closL_ _ rfl rfl Tryd.func21 (by kernel_rfl) rfl #[.string ⟨#[_]⟩, .pointer (some ⟨w.heap.size, 0, none⟩)] rfl rfl (by simp only [List.map_toArray, List.map_cons, List.map_nil]; rfl) ?_; first | ((with_reducible refine (no_calls _ 7 _ (by omega) _ (T.al _) (cell_new _ _ _ _)).mono ?_); rintro e w' ⟨rfl, rfl⟩; refine ⟨_, rfl, ?_⟩) | ((with_reducible refine (no_calls _ 7 _ (by omega) _ ((T.al _).al _) (cell_new1 _ _ _ _ _)).mono ?_); rintro e w' ⟨rfl, rfl⟩; refine ⟨_, rfl, ?_⟩)) | go_values | go_skip | go_guarded | go_step)
    go_ret
    exact ⟨errI_no (by simp [checkB, er, hb]), (by first | exact bel2q _ _ _ _ | exact bel2 _ _ _ | exact bel1 _ _)⟩
  subst er
  have hp : placeB 0 = true := by decide
  by_cases ec : commit = 0
  rotate_left
  · have ec' : (commit == 0) = false := by simpa using ec
    go_enter Tryd.func10, Tryd.ntmps10
    repeat' (first | (go_at_call 20; refine (known_calls _ (by omega) _ (T.al _)).mono ?_; rintro e w' ⟨rfl, rfl⟩; dsimp only; rw [show knownB _ = true from hk.out]) | (go_at_call 23; refine (place_calls _ _ _).mono ?_; rintro e w' ⟨rfl, rfl⟩; dsimp only) | ((with_reducible refine gate_tmp rfl ?_); refine closL_ _ rfl rfl Tryd.func21 (by kernel_rfl) rfl #[.string ⟨#[_]⟩, .pointer (some ⟨w.heap.size, 0, none⟩)] rfl rfl (by simp only [List.map_toArray, List.map_cons, List.map_nil]; rfl) ?_; first | ((with_reducible refine (no_calls _ 7 _ (by omega) _ (T.al _) (cell_new _ _ _ _)).mono ?_); rintro e w' ⟨rfl, rfl⟩; refine ⟨_, rfl, ?_⟩) | ((with_reducible refine (no_calls _ 7 _ (by omega) _ ((T.al _).al _) (cell_new1 _ _ _ _ _)).mono ?_); rintro e w' ⟨rfl, rfl⟩; refine ⟨_, rfl, ?_⟩)) | go_values | go_skip | go_guarded | go_step)
    go_ret
    exact ⟨errI_no (by simp [checkB, ec, hc]), (by first | exact bel2q _ _ _ _ | exact bel2 _ _ _ | exact bel1 _ _)⟩
  subst ec
  by_cases ef : first = 0
  · subst ef
    go_enter Tryd.func10, Tryd.ntmps10
    repeat' (first | (go_at_call 20; refine (known_calls _ (by omega) _ (T.al _)).mono ?_; rintro e w' ⟨rfl, rfl⟩; dsimp only; rw [show knownB _ = true from hk.out]) | (go_at_call 23; refine (place_calls _ _ _).mono ?_; rintro e w' ⟨rfl, rfl⟩; dsimp only) | ((with_reducible refine gate_tmp rfl ?_); refine closL_ _ rfl rfl Tryd.func21 (by kernel_rfl) rfl #[.string ⟨#[_]⟩, .pointer (some ⟨w.heap.size, 0, none⟩)] rfl rfl (by simp only [List.map_toArray, List.map_cons, List.map_nil]; rfl) ?_; first | ((with_reducible refine (no_calls _ 7 _ (by omega) _ (T.al _) (cell_new _ _ _ _)).mono ?_); rintro e w' ⟨rfl, rfl⟩; refine ⟨_, rfl, ?_⟩) | ((with_reducible refine (no_calls _ 7 _ (by omega) _ ((T.al _).al _) (cell_new1 _ _ _ _ _)).mono ?_); rintro e w' ⟨rfl, rfl⟩; refine ⟨_, rfl, ?_⟩)) | go_values | go_skip | go_guarded | go_step)
    go_quiet ((go_at_call 21; exact Calls.quiet_of_same (no_quiet _ 7 _ (by omega) _ ((T.al _).al _) (cell_new1 _ _ _ _ _) _)))
    repeat' (first | ((with_reducible refine gate_tmp rfl ?_); refine closL_ _ rfl rfl Tryd.func21 (by kernel_rfl) rfl #[.string ⟨#[_]⟩, .pointer (some ⟨w.heap.size, 0, none⟩)] rfl rfl (by simp only [List.map_toArray, List.map_cons, List.map_nil]; rfl) ?_; (with_reducible refine (no_at _ 7 _ (by omega) _ ((T.al _).al _) (cell_new1 _ _ _ _ _) _).mono ?_); rintro e w' ⟨rfl, rfl⟩; refine ⟨_, rfl, ?_⟩) | (go_at_call 24; refine (Looks.at_ hL (bel2q _ _ _ _)).mono ?_; rintro e w2 ⟨rfl, hb2⟩; have B2 := Aside0.mk (below_then (bel2q _ _ _ _) (bel2q _ _ _ _).size hb2); clear hb2; dsimp only) | go_values | go_skip | go_guarded | go_step)
    go_ret
    exact ⟨errI_no (by simp [checkB, hf]), (by first | exact bel2q _ _ _ _ | exact bel2 _ _ _ | exact bel1 _ _)⟩
  have ef' : (first == 0) = false := by simpa using ef
  go_enter Tryd.func10, Tryd.ntmps10
  repeat' (first | (go_at_call 20; refine (known_calls _ (by omega) _ (T.al _)).mono ?_; rintro e w' ⟨rfl, rfl⟩; dsimp only; rw [show knownB _ = true from hk.out]) | (go_at_call 23; refine (place_calls _ _ _).mono ?_; rintro e w' ⟨rfl, rfl⟩; dsimp only) | ((with_reducible refine gate_tmp rfl ?_); refine closL_ _ rfl rfl Tryd.func21 (by kernel_rfl) rfl #[.string ⟨#[_]⟩, .pointer (some ⟨w.heap.size, 0, none⟩)] rfl rfl (by simp only [List.map_toArray, List.map_cons, List.map_nil]; rfl) ?_; first | ((with_reducible refine (no_calls _ 7 _ (by omega) _ (T.al _) (cell_new _ _ _ _)).mono ?_); rintro e w' ⟨rfl, rfl⟩; refine ⟨_, rfl, ?_⟩) | ((with_reducible refine (no_calls _ 7 _ (by omega) _ ((T.al _).al _) (cell_new1 _ _ _ _ _)).mono ?_); rintro e w' ⟨rfl, rfl⟩; refine ⟨_, rfl, ?_⟩)) | go_values | go_skip | go_guarded | go_step)
  go_quiet ((go_at_call 21; exact Calls.quiet_of_same (no_quiet _ 7 _ (by omega) _ ((T.al _).al _) (cell_new1 _ _ _ _ _) _)))
  by_cases el : last = 0
  rotate_left
  · have el' : (last == 0) = false := by simpa using el
    repeat' (first | ((with_reducible refine gate_tmp rfl ?_); refine closL_ _ rfl rfl Tryd.func21 (by kernel_rfl) rfl #[.string ⟨#[_]⟩, .pointer (some ⟨w.heap.size, 0, none⟩)] rfl rfl (by simp only [List.map_toArray, List.map_cons, List.map_nil]; rfl) ?_; (with_reducible refine (no_at _ 7 _ (by omega) _ ((T.al _).al _) (cell_new1 _ _ _ _ _) _).mono ?_); rintro e w' ⟨rfl, rfl⟩; refine ⟨_, rfl, ?_⟩) | (go_at_call 24; refine (Looks.at_ hL (bel2q _ _ _ _)).mono ?_; rintro e w2 ⟨rfl, hb2⟩; have B2 := Aside0.mk (below_then (bel2q _ _ _ _) (bel2q _ _ _ _).size hb2); clear hb2; dsimp only) | go_values | go_skip | go_guarded | go_step)
    go_ret
    exact ⟨errI_no (by simp [checkB, el, hl]), (by first | exact bel2q _ _ _ _ | exact bel2 _ _ _ | exact bel1 _ _)⟩
  have el' : (last == 0) = true := by simpa using el
  have elh := Aside0.mk el
  clear el
  by_cases ens : 0 < ns
  · skip
    repeat' (first | ((with_reducible refine gate_tmp rfl ?_); refine closL_ _ rfl rfl Tryd.func21 (by kernel_rfl) rfl #[.string ⟨#[_]⟩, .pointer (some ⟨w.heap.size, 0, none⟩)] rfl rfl (by simp only [List.map_toArray, List.map_cons, List.map_nil]; rfl) ?_; (with_reducible refine (no_at _ 7 _ (by omega) _ ((T.al _).al _) (cell_new1 _ _ _ _ _) _).mono ?_); rintro e w' ⟨rfl, rfl⟩; refine ⟨_, rfl, ?_⟩) | (go_at_call 24; refine (Looks.at_ hL (bel2q _ _ _ _)).mono ?_; rintro e w2 ⟨rfl, hb2⟩; have B2 := Aside0.mk (below_then (bel2q _ _ _ _) (bel2q _ _ _ _).size hb2); clear hb2; dsimp only) | go_values | go_skip | go_guarded | go_step)
    go_ret
    exact ⟨errI_no (by simp [checkB, Nat.ne_of_gt ens, hpp]), (by first | exact bel2q _ _ _ _ | exact bel2 _ _ _ | exact bel1 _ _)⟩
  by_cases env : 0 < nv
  · skip
    repeat' (first | ((with_reducible refine gate_tmp rfl ?_); refine closL_ _ rfl rfl Tryd.func21 (by kernel_rfl) rfl #[.string ⟨#[_]⟩, .pointer (some ⟨w.heap.size, 0, none⟩)] rfl rfl (by simp only [List.map_toArray, List.map_cons, List.map_nil]; rfl) ?_; (with_reducible refine (no_at _ 7 _ (by omega) _ ((T.al _).al _) (cell_new1 _ _ _ _ _) _).mono ?_); rintro e w' ⟨rfl, rfl⟩; refine ⟨_, rfl, ?_⟩) | (go_at_call 24; refine (Looks.at_ hL (bel2q _ _ _ _)).mono ?_; rintro e w2 ⟨rfl, hb2⟩; have B2 := Aside0.mk (below_then (bel2q _ _ _ _) (bel2q _ _ _ _).size hb2); clear hb2; dsimp only) | go_values | go_skip | go_guarded | go_step)
    go_ret
    exact ⟨errI_no (by simp [checkB, Nat.ne_of_gt env, hv]), (by first | exact bel2q _ _ _ _ | exact bel2 _ _ _ | exact bel1 _ _)⟩
  cases L
  · skip
    repeat' (first | ((with_reducible refine gate_tmp rfl ?_); refine closL_ _ rfl rfl Tryd.func21 (by kernel_rfl) rfl #[.string ⟨#[_]⟩, .pointer (some ⟨w.heap.size, 0, none⟩)] rfl rfl (by simp only [List.map_toArray, List.map_cons, List.map_nil]; rfl) ?_; (with_reducible refine (no_at _ 7 _ (by omega) _ ((T.al _).al _) (cell_new1 _ _ _ _ _) _).mono ?_); rintro e w' ⟨rfl, rfl⟩; refine ⟨_, rfl, ?_⟩) | (go_at_call 24; refine (Looks.at_ hL (bel2q _ _ _ _)).mono ?_; rintro e w2 ⟨rfl, hb2⟩; have B2 := Aside0.mk (below_then (bel2q _ _ _ _) (bel2q _ _ _ _).size hb2); clear hb2; dsimp only) | go_values | go_skip | go_guarded | go_step)
    go_ret
    exact ⟨errI_no (by simp [checkB]), B2.out⟩
  · skip
    repeat' (first | ((with_reducible refine gate_tmp rfl ?_); refine closL_ _ rfl rfl Tryd.func21 (by kernel_rfl) rfl #[.string ⟨#[_]⟩, .pointer (some ⟨w.heap.size, 0, none⟩)] rfl rfl (by simp only [List.map_toArray, List.map_cons, List.map_nil]; rfl) ?_; (with_reducible refine (no_at _ 7 _ (by omega) _ ((T.al _).al _) (cell_new1 _ _ _ _ _) _).mono ?_); rintro e w' ⟨rfl, rfl⟩; refine ⟨_, rfl, ?_⟩) | (go_at_call 24; refine (Looks.at_ hL (bel2q _ _ _ _)).mono ?_; rintro e w2 ⟨rfl, hb2⟩; have B2 := Aside0.mk (below_then (bel2q _ _ _ _) (bel2q _ _ _ _).size hb2); clear hb2; dsimp only) | go_values | go_skip | go_guarded | go_step)
    go_ret
    exact ⟨errI_yes (by have hk' := hk.out; have el := elh.out; have zns : ns = 0 := (by omega); have znv : nv = 0 := (by omega); simp_all [checkB]), B2.out⟩
set_option maxHeartbeats 4000000 in
set_option maxRecDepth 100000 in
theorem check_8 (n r first last commit : Int) (A6 A7 A8 : Option Addr) (nv nb ns c6 c7 c8 : Nat) (L : Bool) (w : World) (T : Tabs w) (hL0 : Looks w 8 n r first last commit (.slice A6 nv c6) (.slice A7 nb c7) (.slice A8 ns c8) L) :
    Calls Tryd.prog 10 #[msgV 8 n r first last commit (.slice A6 nv c6) (.slice A7 nb c7) (.slice A8 ns c8)] w fun e w' => e = .returned (.int .i64 (errI (checkB 8 n r first last commit nv nb ns L))) ∧ Below w.heap.size w w' := by
  have hL := Aside0.mk hL0
  clear hL0
  have hk : Aside0 (knownB 8 = true) := ⟨by decide⟩
  have hb : hasB 8 98 = false := by decide
  have hc : hasB 8 99 = false := by decide
  have hf : hasB 8 102 = true := by decide
  have hl : hasB 8 108 = false := by decide
  have hpp : hasB 8 112 = true := by decide
  have hs : hasB 8 115 = false := by decide
  have hv : hasB 8 118 = false := by decide
  by_cases en : n = 0
  rotate_left
  · have en' : (n == 0) = false := by simpa using en
    go_enter Tryd.func10, Tryd.ntmps10
    repeat' (first | (go_at_call 20; refine (known_calls _ (by omega) _ (T.al _)).mono ?_; rintro e w' ⟨rfl, rfl⟩; dsimp only; rw [show knownB _ = true from hk.out]) | (go_at_call 23; refine (place_calls _ _ _).mono ?_; rintro e w' ⟨rfl, rfl⟩; dsimp only) | ((with_reducible refine gate_tmp rfl ?_); refine closL_ _ rfl rfl Tryd.func21 (by kernel_rfl) rfl #[.string ⟨#[_]⟩, .pointer (some ⟨w.heap.size, 0, none⟩)] rfl rfl (by simp only [List.map_toArray, List.map_cons, List.map_nil]; rfl) ?_; first | ((with_reducible refine (no_calls _ 8 _ (by omega) _ (T.al _) (cell_new _ _ _ _)).mono ?_); rintro e w' ⟨rfl, rfl⟩; refine ⟨_, rfl, ?_⟩) | ((with_reducible refine (no_calls _ 8 _ (by omega) _ ((T.al _).al _) (cell_new1 _ _ _ _ _)).mono ?_); rintro e w' ⟨rfl, rfl⟩; refine ⟨_, rfl, ?_⟩)) | go_values | go_skip | go_guarded | go_step)
    go_ret
    exact ⟨errI_no (by simp [checkB, en, hb]), (by first | exact bel2q _ _ _ _ | exact bel2 _ _ _ | exact bel1 _ _)⟩
  subst en
  by_cases er : r = 0
  rotate_left
  · have er' : (r == 0) = false := by simpa using er
    go_enter Tryd.func10, Tryd.ntmps10
    repeat' (first | (go_at_call 20; refine (known_calls _ (by omega) _ (T.al _)).mono ?_; rintro e w' ⟨rfl, rfl⟩; dsimp only; rw [show knownB _ = true from hk.out]) | (go_at_call 23; refine (place_calls _ _ _).mono ?_; rintro e w' ⟨rfl, rfl⟩; dsimp only) | ((with_reducible refine gate_tmp rfl ?_); refine closL_ _ rfl rfl Tryd.func21 (by kernel_rfl) rfl #[.string ⟨#[_]⟩, .pointer (some ⟨w.heap.size, 0, none⟩)] rfl rfl (by simp only [List.map_toArray, List.map_cons, List.map_nil]; rfl) ?_; first | ((with_reducible refine (no_calls _ 8 _ (by omega) _ (T.al _) (cell_new _ _ _ _)).mono ?_); rintro e w' ⟨rfl, rfl⟩; refine ⟨_, rfl, ?_⟩) | ((with_reducible refine (no_calls _ 8 _ (by omega) _ ((T.al _).al _) (cell_new1 _ _ _ _ _)).mono ?_); rintro e w' ⟨rfl, rfl⟩; refine ⟨_, rfl, ?_⟩)) | go_values | go_skip | go_guarded | go_step)
    go_ret
    exact ⟨errI_no (by simp [checkB, er, hb]), (by first | exact bel2q _ _ _ _ | exact bel2 _ _ _ | exact bel1 _ _)⟩
  subst er
  have hp : placeB 0 = true := by decide
  by_cases ec : commit = 0
  rotate_left
  · have ec' : (commit == 0) = false := by simpa using ec
    go_enter Tryd.func10, Tryd.ntmps10
    repeat' (first | (go_at_call 20; refine (known_calls _ (by omega) _ (T.al _)).mono ?_; rintro e w' ⟨rfl, rfl⟩; dsimp only; rw [show knownB _ = true from hk.out]) | (go_at_call 23; refine (place_calls _ _ _).mono ?_; rintro e w' ⟨rfl, rfl⟩; dsimp only) | ((with_reducible refine gate_tmp rfl ?_); refine closL_ _ rfl rfl Tryd.func21 (by kernel_rfl) rfl #[.string ⟨#[_]⟩, .pointer (some ⟨w.heap.size, 0, none⟩)] rfl rfl (by simp only [List.map_toArray, List.map_cons, List.map_nil]; rfl) ?_; first | ((with_reducible refine (no_calls _ 8 _ (by omega) _ (T.al _) (cell_new _ _ _ _)).mono ?_); rintro e w' ⟨rfl, rfl⟩; refine ⟨_, rfl, ?_⟩) | ((with_reducible refine (no_calls _ 8 _ (by omega) _ ((T.al _).al _) (cell_new1 _ _ _ _ _)).mono ?_); rintro e w' ⟨rfl, rfl⟩; refine ⟨_, rfl, ?_⟩)) | go_values | go_skip | go_guarded | go_step)
    go_ret
    exact ⟨errI_no (by simp [checkB, ec, hc]), (by first | exact bel2q _ _ _ _ | exact bel2 _ _ _ | exact bel1 _ _)⟩
  subst ec
  by_cases ef : first = 0
  · subst ef
    go_enter Tryd.func10, Tryd.ntmps10
    repeat' (first | (go_at_call 20; refine (known_calls _ (by omega) _ (T.al _)).mono ?_; rintro e w' ⟨rfl, rfl⟩; dsimp only; rw [show knownB _ = true from hk.out]) | (go_at_call 23; refine (place_calls _ _ _).mono ?_; rintro e w' ⟨rfl, rfl⟩; dsimp only) | ((with_reducible refine gate_tmp rfl ?_); refine closL_ _ rfl rfl Tryd.func21 (by kernel_rfl) rfl #[.string ⟨#[_]⟩, .pointer (some ⟨w.heap.size, 0, none⟩)] rfl rfl (by simp only [List.map_toArray, List.map_cons, List.map_nil]; rfl) ?_; first | ((with_reducible refine (no_calls _ 8 _ (by omega) _ (T.al _) (cell_new _ _ _ _)).mono ?_); rintro e w' ⟨rfl, rfl⟩; refine ⟨_, rfl, ?_⟩) | ((with_reducible refine (no_calls _ 8 _ (by omega) _ ((T.al _).al _) (cell_new1 _ _ _ _ _)).mono ?_); rintro e w' ⟨rfl, rfl⟩; refine ⟨_, rfl, ?_⟩)) | go_values | go_skip | go_guarded | go_step)
    go_quiet ((go_at_call 21; exact Calls.quiet_of_same (no_quiet _ 8 _ (by omega) _ ((T.al _).al _) (cell_new1 _ _ _ _ _) _)))
    repeat' (first | ((with_reducible refine gate_tmp rfl ?_); refine closL_ _ rfl rfl Tryd.func21 (by kernel_rfl) rfl #[.string ⟨#[_]⟩, .pointer (some ⟨w.heap.size, 0, none⟩)] rfl rfl (by simp only [List.map_toArray, List.map_cons, List.map_nil]; rfl) ?_; (with_reducible refine (no_at _ 8 _ (by omega) _ ((T.al _).al _) (cell_new1 _ _ _ _ _) _).mono ?_); rintro e w' ⟨rfl, rfl⟩; refine ⟨_, rfl, ?_⟩) | (go_at_call 24; refine (Looks.at_ hL (bel2q _ _ _ _)).mono ?_; rintro e w2 ⟨rfl, hb2⟩; have B2 := Aside0.mk (below_then (bel2q _ _ _ _) (bel2q _ _ _ _).size hb2); clear hb2; dsimp only) | go_values | go_skip | go_guarded | go_step)
    go_ret
    exact ⟨errI_no (by simp [checkB, hf]), (by first | exact bel2q _ _ _ _ | exact bel2 _ _ _ | exact bel1 _ _)⟩
  have ef' : (first == 0) = false := by simpa using ef
  go_enter Tryd.func10, Tryd.ntmps10
  repeat' (first | (go_at_call 20; refine (known_calls _ (by omega) _ (T.al _)).mono ?_; rintro e w' ⟨rfl, rfl⟩; dsimp only; rw [show knownB _ = true from hk.out]) | (go_at_call 23; refine (place_calls _ _ _).mono ?_; rintro e w' ⟨rfl, rfl⟩; dsimp only) | ((with_reducible refine gate_tmp rfl ?_); refine closL_ _ rfl rfl Tryd.func21 (by kernel_rfl) rfl #[.string ⟨#[_]⟩, .pointer (some ⟨w.heap.size, 0, none⟩)] rfl rfl (by simp only [List.map_toArray, List.map_cons, List.map_nil]; rfl) ?_; first | ((with_reducible refine (no_calls _ 8 _ (by omega) _ (T.al _) (cell_new _ _ _ _)).mono ?_); rintro e w' ⟨rfl, rfl⟩; refine ⟨_, rfl, ?_⟩) | ((with_reducible refine (no_calls _ 8 _ (by omega) _ ((T.al _).al _) (cell_new1 _ _ _ _ _)).mono ?_); rintro e w' ⟨rfl, rfl⟩; refine ⟨_, rfl, ?_⟩)) | go_values | go_skip | go_guarded | go_step)
  go_quiet ((go_at_call 21; exact Calls.quiet_of_same (no_quiet _ 8 _ (by omega) _ ((T.al _).al _) (cell_new1 _ _ _ _ _) _)))
  by_cases el : last = 0
  rotate_left
  · have el' : (last == 0) = false := by simpa using el
    repeat' (first | ((with_reducible refine gate_tmp rfl ?_); refine closL_ _ rfl rfl Tryd.func21 (by kernel_rfl) rfl #[.string ⟨#[_]⟩, .pointer (some ⟨w.heap.size, 0, none⟩)] rfl rfl (by simp only [List.map_toArray, List.map_cons, List.map_nil]; rfl) ?_; (with_reducible refine (no_at _ 8 _ (by omega) _ ((T.al _).al _) (cell_new1 _ _ _ _ _) _).mono ?_); rintro e w' ⟨rfl, rfl⟩; refine ⟨_, rfl, ?_⟩) | (go_at_call 24; refine (Looks.at_ hL (bel2q _ _ _ _)).mono ?_; rintro e w2 ⟨rfl, hb2⟩; have B2 := Aside0.mk (below_then (bel2q _ _ _ _) (bel2q _ _ _ _).size hb2); clear hb2; dsimp only) | go_values | go_skip | go_guarded | go_step)
    go_ret
    exact ⟨errI_no (by simp [checkB, el, hl]), (by first | exact bel2q _ _ _ _ | exact bel2 _ _ _ | exact bel1 _ _)⟩
  have el' : (last == 0) = true := by simpa using el
  have elh := Aside0.mk el
  clear el
  by_cases enb : 0 < nb
  · skip
    repeat' (first | ((with_reducible refine gate_tmp rfl ?_); refine closL_ _ rfl rfl Tryd.func21 (by kernel_rfl) rfl #[.string ⟨#[_]⟩, .pointer (some ⟨w.heap.size, 0, none⟩)] rfl rfl (by simp only [List.map_toArray, List.map_cons, List.map_nil]; rfl) ?_; (with_reducible refine (no_at _ 8 _ (by omega) _ ((T.al _).al _) (cell_new1 _ _ _ _ _) _).mono ?_); rintro e w' ⟨rfl, rfl⟩; refine ⟨_, rfl, ?_⟩) | (go_at_call 24; refine (Looks.at_ hL (bel2q _ _ _ _)).mono ?_; rintro e w2 ⟨rfl, hb2⟩; have B2 := Aside0.mk (below_then (bel2q _ _ _ _) (bel2q _ _ _ _).size hb2); clear hb2; dsimp only) | go_values | go_skip | go_guarded | go_step)
    go_ret
    exact ⟨errI_no (by simp [checkB, Nat.ne_of_gt enb, hs]), (by first | exact bel2q _ _ _ _ | exact bel2 _ _ _ | exact bel1 _ _)⟩
  by_cases env : 0 < nv
  · skip
    repeat' (first | ((with_reducible refine gate_tmp rfl ?_); refine closL_ _ rfl rfl Tryd.func21 (by kernel_rfl) rfl #[.string ⟨#[_]⟩, .pointer (some ⟨w.heap.size, 0, none⟩)] rfl rfl (by simp only [List.map_toArray, List.map_cons, List.map_nil]; rfl) ?_; (with_reducible refine (no_at _ 8 _ (by omega) _ ((T.al _).al _) (cell_new1 _ _ _ _ _) _).mono ?_); rintro e w' ⟨rfl, rfl⟩; refine ⟨_, rfl, ?_⟩) | (go_at_call 24; refine (Looks.at_ hL (bel2q _ _ _ _)).mono ?_; rintro e w2 ⟨rfl, hb2⟩; have B2 := Aside0.mk (below_then (bel2q _ _ _ _) (bel2q _ _ _ _).size hb2); clear hb2; dsimp only) | go_values | go_skip | go_guarded | go_step)
    go_ret
    exact ⟨errI_no (by simp [checkB, Nat.ne_of_gt env, hv]), (by first | exact bel2q _ _ _ _ | exact bel2 _ _ _ | exact bel1 _ _)⟩
  cases L
  · skip
    repeat' (first | ((with_reducible refine gate_tmp rfl ?_); refine closL_ _ rfl rfl Tryd.func21 (by kernel_rfl) rfl #[.string ⟨#[_]⟩, .pointer (some ⟨w.heap.size, 0, none⟩)] rfl rfl (by simp only [List.map_toArray, List.map_cons, List.map_nil]; rfl) ?_; (with_reducible refine (no_at _ 8 _ (by omega) _ ((T.al _).al _) (cell_new1 _ _ _ _ _) _).mono ?_); rintro e w' ⟨rfl, rfl⟩; refine ⟨_, rfl, ?_⟩) | (go_at_call 24; refine (Looks.at_ hL (bel2q _ _ _ _)).mono ?_; rintro e w2 ⟨rfl, hb2⟩; have B2 := Aside0.mk (below_then (bel2q _ _ _ _) (bel2q _ _ _ _).size hb2); clear hb2; dsimp only) | go_values | go_skip | go_guarded | go_step)
    go_ret
    exact ⟨errI_no (by simp [checkB]), B2.out⟩
  · skip
    repeat' (first | ((with_reducible refine gate_tmp rfl ?_); refine closL_ _ rfl rfl Tryd.func21 (by kernel_rfl) rfl #[.string ⟨#[_]⟩, .pointer (some ⟨w.heap.size, 0, none⟩)] rfl rfl (by simp only [List.map_toArray, List.map_cons, List.map_nil]; rfl) ?_; (with_reducible refine (no_at _ 8 _ (by omega) _ ((T.al _).al _) (cell_new1 _ _ _ _ _) _).mono ?_); rintro e w' ⟨rfl, rfl⟩; refine ⟨_, rfl, ?_⟩) | (go_at_call 24; refine (Looks.at_ hL (bel2q _ _ _ _)).mono ?_; rintro e w2 ⟨rfl, hb2⟩; have B2 := Aside0.mk (below_then (bel2q _ _ _ _) (bel2q _ _ _ _).size hb2); clear hb2; dsimp only) | go_values | go_skip | go_guarded | go_step)
    go_ret
    exact ⟨errI_yes (by have hk' := hk.out; have el := elh.out; have znb : nb = 0 := (by omega); have znv : nv = 0 := (by omega); simp_all [checkB]), B2.out⟩
set_option maxHeartbeats 4000000 in
set_option maxRecDepth 100000 in
theorem check_un (k : Nat) (hk8 : k < 256) (hkn : knownB k = false) (n r first last commit : Int) (A6 A7 A8 : Option Addr) (nv nb ns c6 c7 c8 : Nat) (L : Bool) (w : World) (T : Tabs w) :
    Calls Tryd.prog 10 #[msgV k n r first last commit (.slice A6 nv c6) (.slice A7 nb c7) (.slice A8 ns c8)] w fun e w' => e = .returned (.int .i64 (errI (checkB k n r first last commit nv nb ns L))) ∧ Below w.heap.size w w' := by
  have hk := Aside0.mk hkn
  clear hkn
  go_enter Tryd.func10, Tryd.ntmps10
  repeat' (first | (go_at_call 20; refine (known_calls _ (by omega) _ (T.al _)).mono ?_; rintro e w' ⟨rfl, rfl⟩; dsimp only; rw [show knownB _ = false from hk.out]) | go_values | go_skip | go_guarded | go_step)
  go_ret
  exact ⟨errI_no (by simp [checkB, hk.out]), bel1 _ _⟩
theorem check_calls (k : Nat) (kI : Int) (hkI : kI = k) (hk8 : k < 256) (n r first last commit : Int) (A6 A7 A8 : Option Addr) (nv nb ns c6 c7 c8 : Nat) (L : Bool) (w : World) (T : Tabs w) (hL : Looks w kI n r first last commit (.slice A6 nv c6) (.slice A7 nb c7) (.slice A8 ns c8) L) :
    Calls Tryd.prog 10 #[msgV kI n r first last commit (.slice A6 nv c6) (.slice A7 nb c7) (.slice A8 ns c8)] w fun e w' => e = .returned (.int .i64 (errI (checkB k n r first last commit nv nb ns L))) ∧ Below w.heap.size w w' := by
  by_cases hk : knownB k = true
  · have h1 : 1 ≤ k ∧ k ≤ 8 := by
      have := of_decide_eq_true hk
      omega
    clear hk hk8
    match k, h1 with
    | 1, _ => obtain rfl : kI = 1 := hkI; exact check_1 n r first last commit A6 A7 A8 nv nb ns c6 c7 c8 L w T hL
    | 2, _ => obtain rfl : kI = 2 := hkI; exact check_2 n r first last commit A6 A7 A8 nv nb ns c6 c7 c8 L w T hL
    | 3, _ => obtain rfl : kI = 3 := hkI; exact check_3 n r first last commit A6 A7 A8 nv nb ns c6 c7 c8 L w T hL
    | 4, _ => obtain rfl : kI = 4 := hkI; exact check_4 n r first last commit A6 A7 A8 nv nb ns c6 c7 c8 L w T hL
    | 5, _ => obtain rfl : kI = 5 := hkI; exact check_5 n r first last commit A6 A7 A8 nv nb ns c6 c7 c8 L w T hL
    | 6, _ => obtain rfl : kI = 6 := hkI; exact check_6 n r first last commit A6 A7 A8 nv nb ns c6 c7 c8 L w T hL
    | 7, _ => obtain rfl : kI = 7 := hkI; exact check_7 n r first last commit A6 A7 A8 nv nb ns c6 c7 c8 L w T hL
    | 8, _ => obtain rfl : kI = 8 := hkI; exact check_8 n r first last commit A6 A7 A8 nv nb ns c6 c7 c8 L w T hL
  · subst hkI
    exact check_un k hk8 (by simpa using hk) n r first last commit A6 A7 A8 nv nb ns c6 c7 c8 L w T
end Go.Proofs.YtfkfboigkpofkaaDoor.M
end
