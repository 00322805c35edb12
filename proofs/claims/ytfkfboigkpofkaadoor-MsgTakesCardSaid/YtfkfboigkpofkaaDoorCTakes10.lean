/- Parts of a proof, pruned and joined by flat.py out of: TC, MT, PMsgPutsx1. -/
import Derived.Test.YtfkfboigkpofkaaDoorCTakes9
section
namespace Go.Proofs.YtfkfboigkpofkaaDoor.M
open Go.RowKit Go.Proofs.YtfkfboigkpofkaaDoorW.PrintWords Go.Proofs.YtfkfboigkpofkaaDoorW.PrintLast Go.Proofs.YtfkfboigkpofkaaDoorW.PrintMore Go.Proofs.YtfkfboigkpofkaaDoor.PMsgPuts
set_option linter.unusedVariables false
set_option linter.unusedSimpArgs false
structure DS where
  l : List Int
  ok : Bool
structure Rr (w0 W : World) (g : Nat) (s : DS) : Prop where
  base : w0.heap.size ≤ g
  bel : Below w0.heap.size w0 W
  at_ : ∃ A c, W.heap[g]? = some (.cells #[.slice A s.l.length c, .bool s.ok] 78 (0, 0)) ∧ s.l.length ≤ c ∧ Kd.C (Kd.int .u8) w0 A s.l.length s.l
def numD (s : DS) : Int × DS := match dU 10 s.l, s.ok with
  | some p, true => ((p.1 : Int), ⟨p.2, true⟩)
  | _, _ => (0, ⟨s.l, false⟩)
theorem numD_yes {s : DS} {n : Nat} {r : List Int} (h : dU 10 s.l = some (n, r)) (ho : s.ok = true) : numD s = ((n : Int), ⟨r, true⟩) := by
  unfold numD
  rw [h, ho]
theorem numD_off {s : DS} (ho : s.ok = false) : numD s = (0, ⟨s.l, false⟩) := by
  unfold numD
  rw [ho]
  split <;> simp_all
theorem numD_none {s : DS} (h : dU 10 s.l = none) : numD s = (0, ⟨s.l, false⟩) := by
  unfold numD
  rw [h]
theorem dU_drop {l r : List Int} {n : Nat} (hb : Bys l) (h : dU 10 l = some (n, r)) : r = l.drop (l.length - r.length) ∧ r.length < l.length := by
  obtain ⟨h1, _, _⟩ := dU_back 9 l n r hb (by decide) h
  have h2 := dU_len 10 l n r h
  refine ⟨?_, h2⟩
  have h3 : l.length = (uv n).length + r.length := by
    conv => lhs; rw [h1]
    rw [List.length_append]
  conv => rhs; rw [h1]
  rw [show (uv n ++ r).length - r.length = (uv n).length by rw [List.length_append]; omega, List.drop_left]
theorem grown_set_bel {W w1 : World} (h : Below W.heap.size W w1) (g i : Nat) (u : Value) : W.grownBy (w1.setCell ⟨g, i, none⟩ u) (some g) :=
  ⟨h.os, h.tape, h.output, by simpa [World.setCell] using h.size, fun k hk hne => (Below.heap_setCell _ _ _ _ (fun e => hne (by rw [e]))).trans (h.block k hk)⟩
theorem Rr.off {w0 W w1 : World} {g c : Nat} {A : Option Addr} {l : List Int} {b : Bool} (hbel : Below w0.heap.size w0 W) (hbase : w0.heap.size ≤ g) (hC : Kd.C (Kd.int .u8) w0 A l.length l) (h1 : Below W.heap.size W w1)
    (hX : w1.heap[g]? = some (.cells #[.slice A l.length c, .bool b] 78 (0, 0))) (hl : l.length ≤ c) : Rr w0 (w1.setCell ⟨g, 1, none⟩ (.bool false)) g ⟨l, false⟩ := by
  refine ⟨hbase, (hbel.trans (h1.mono hbel.size)).trans (grown_bel (grown_cell (blk_lt hX) 1 _) hbase (Nat.le_trans hbel.size h1.size)), A, c, ?_, hl, hC⟩
  have h3 := blk_set hX 1 (.bool false)
  simpa using h3
theorem Rr.cut {w0 W w1 : World} {g c q : Nat} {A : Option Addr} {l : List Int} {b : Bool} (hbel : Below w0.heap.size w0 W) (hbase : w0.heap.size ≤ g) (h1 : Below W.heap.size W w1)
    (hX : w1.heap[g]? = some (.cells #[.slice A l.length c, .bool b] 78 (0, 0))) (hl : l.length ≤ c) (hq : q ≤ l.length)
    (hC : Kd.C (Kd.int .u8) w0 (if c = q then A else A.map (·.add (q * (Kd.int .u8).sz))) (l.drop q).length (l.drop q)) :
    Rr w0 (w1.setCell ⟨g, 0, none⟩ (.slice (if c = q then A else A.map (·.add q)) (l.length - q) (c - q))) g ⟨l.drop q, b⟩ := by
  refine ⟨hbase, (hbel.trans (h1.mono hbel.size)).trans (grown_bel (grown_cell (blk_lt hX) 0 _) hbase (Nat.le_trans hbel.size h1.size)), if c = q then A else A.map (·.add (q * (Kd.int .u8).sz)), c - q, ?_, ?_, hC⟩
  · have e3 : (if c = q then A else A.map (·.add (q * (Kd.int .u8).sz))) = (if c = q then A else A.map (·.add q)) := by rw [show q * (Kd.int .u8).sz = q from Nat.mul_one _]
    have e4 : (l.drop q).length = l.length - q := by simp
    dsimp only
    rw [e3, e4]
    have h3 := blk_set hX 0 (.slice (if c = q then A else A.map (·.add q)) (l.length - q) (c - q))
    simpa using h3
  · dsimp only
    simp only [List.length_drop]
    omega
set_option maxHeartbeats 1000000 in
set_option maxRecDepth 100000 in
theorem numD_calls (w0 W : World) (g : Nat) (s : DS) (h : Rr w0 W g s) (hb : Bys s.l) (hf : Fits s.l.length) :
    Calls Tryd.prog 40 #[.pointer (some ⟨g, 0, none⟩)] W fun e w' => e = .returned (.int .u64 (numD s).1) ∧ Rr w0 w' g (numD s).2 ∧ W.grownBy w' (some g) := by
  have hR := Aside0.mk h
  obtain ⟨A, c, hx, hc, hC⟩ := h.at_
  have hX := Aside0.mk hx
  have HC := Aside0.mk hC
  obtain ⟨e0, he0, hlaw⟩ := take_law s.l hb hf (Nat.le_refl 60)
  have hTk : Aside0 (Calls Tryd.prog 64 #[.slice A s.l.length c] W fun e w' => e = .returned (.tuple #[.int .u64 (dRes s.l e0).1, .int .i64 (dRes s.l e0).2.1, .int .i64 (dRes s.l e0).2.2]) ∧ Below W.heap.size W w') :=
    ⟨PMsgTakes.quorateref01_Take.calls 60 A c s.l _ _ _ W (Kd.C_below hC h.bel) hc hlaw⟩
  have hz0 := (blk_cell hx 0).trans rfl
  have hlt := blk_lt hx
  have hbase := h.base
  have hgb : ∀ w1, Below W.heap.size W w1 → w1.heap[g]? = some (.cells #[.slice A s.l.length c, .bool s.ok] 78 (0, 0)) := fun w1 hw => blk_below hx hw
  have HG := Aside0.mk hgb
  have hlen := Aside0.mk hc
  clear hx hC h hgb
  cases hd : dU 10 s.l with
  | none =>
    have hn := Aside0.mk (numD_none hd)
    have e1 : dRes s.l e0 = (0, 0, e0) := by unfold dRes; rw [hd]
    rw [e1] at hTk
    have he : (e0 != 0) = true := by simp [he0]
    clear e1 hlaw he0 hd
    go_enter Tryd.func40, Tryd.ntmps40
    repeat (first
      | ((with_reducible refine gate_callee (f := 64) rfl ?_); (with_reducible refine gate_dst (N := 11) rfl ?_); refine goesL_ (some 11) rfl rfl Tryd.func64 (by kernel_rfl) rfl #[.slice A s.l.length c] rfl (by (try simp only [List.map_toArray, List.map_cons, List.map_nil]); first | done | rfl) ?_; refine (hTk.out).mono ?_; rintro e w1 ⟨rfl, HB1⟩; refine ⟨_, rfl, ?_⟩; have hX1 := Aside0.mk (HG.out _ HB1); have HB1' := Aside0.mk HB1; have hy0 := (blk_cell hX1.out 0).trans rfl; have hy1 := (blk_cell hX1.out 1).trans rfl; have hf0 := blk_frozen hX1.out 0; have hf1 := blk_frozen hX1.out 1; clear HB1; (try dsimp only))
      | go_step)
    go_ret
    rw [hn.out]
    exact ⟨rfl, Rr.off hR.out.bel hR.out.base HC.out HB1'.out hX1.out hlen.out, grown_set_bel HB1'.out g 1 _⟩
  | some p =>
    obtain ⟨n, r⟩ := p
    have e1 : dRes s.l e0 = ((n : Int), ((s.l.length - r.length : Nat) : Int), 0) := by unfold dRes; rw [hd]
    rw [e1] at hTk
    have hdr := dU_drop hb hd
    cases ho : s.ok with
    | false =>
      have hn := Aside0.mk (numD_off ho)
      clear e1 hlaw he0 hd hdr
      have HG2 : Aside0 (∀ w1, Below W.heap.size W w1 → w1.heap[g]? = some (.cells #[.slice A s.l.length c, .bool false] 78 (0, 0))) := ⟨fun w1 hw => by have := HG.out w1 hw; rwa [ho] at this⟩
      clear ho
      go_enter Tryd.func40, Tryd.ntmps40
      repeat (first
        | ((with_reducible refine gate_callee (f := 64) rfl ?_); (with_reducible refine gate_dst (N := 11) rfl ?_); refine goesL_ (some 11) rfl rfl Tryd.func64 (by kernel_rfl) rfl #[.slice A s.l.length c] rfl (by (try simp only [List.map_toArray, List.map_cons, List.map_nil]); first | done | rfl) ?_; refine (hTk.out).mono ?_; rintro e w1 ⟨rfl, HB1⟩; refine ⟨_, rfl, ?_⟩; have hX1 := Aside0.mk (HG2.out _ HB1); have HB1' := Aside0.mk HB1; have hy0 := (blk_cell hX1.out 0).trans rfl; have hy1 := (blk_cell hX1.out 1).trans rfl; have hf0 := blk_frozen hX1.out 0; have hf1 := blk_frozen hX1.out 1; clear HB1; (try dsimp only))
        | go_step)
      go_ret
      rw [hn.out]
      exact ⟨rfl, Rr.off hR.out.bel hR.out.base HC.out HB1'.out hX1.out hlen.out, grown_set_bel HB1'.out g 1 _⟩
    | true =>
      have hn := Aside0.mk (numD_yes hd ho)
      obtain ⟨q, hq⟩ : ∃ q, s.l.length - r.length = q := ⟨_, rfl⟩
      rw [hq] at hTk hdr
      have hqn : q ≤ s.l.length := by omega
      have hqn2 : q ≤ c := by omega
      have hqc : ((q : Int) ≤ (s.l.length : Int)) = True := eq_true (by omega)
      have hqc2 : ((q : Int) ≤ (c : Int)) = True := eq_true (by omega)
      have hq0 : (0 ≤ (q : Int)) = True := eq_true (by omega)
      have hDr := Aside0.mk (Kd.C_drop (m := q) HC.out hqn hc)
      have hr : Aside0 (r = s.l.drop q) := ⟨hdr.1⟩
      clear e1 hlaw he0 hd hdr hq
      have HG2 : Aside0 (∀ w1, Below W.heap.size W w1 → w1.heap[g]? = some (.cells #[.slice A s.l.length c, .bool true] 78 (0, 0))) := ⟨fun w1 hw => by have := HG.out w1 hw; rwa [ho] at this⟩
      clear ho
      go_enter Tryd.func40, Tryd.ntmps40
      repeat (first
        | ((with_reducible refine gate_callee (f := 64) rfl ?_); (with_reducible refine gate_dst (N := 11) rfl ?_); refine goesL_ (some 11) rfl rfl Tryd.func64 (by kernel_rfl) rfl #[.slice A s.l.length c] rfl (by (try simp only [List.map_toArray, List.map_cons, List.map_nil]); first | done | rfl) ?_; refine (hTk.out).mono ?_; rintro e w1 ⟨rfl, HB1⟩; refine ⟨_, rfl, ?_⟩; have hX1 := Aside0.mk (HG2.out _ HB1); have HB1' := Aside0.mk HB1; have hy0 := (blk_cell hX1.out 0).trans rfl; have hy1 := (blk_cell hX1.out 1).trans rfl; have hf0 := blk_frozen hX1.out 0; have hf1 := blk_frozen hX1.out 1; clear HB1; (try dsimp only))
        | go_step)
      go_ret
      rw [hn.out, hr.out]
      exact ⟨rfl, Rr.cut hR.out.bel hR.out.base HB1'.out hX1.out hlen.out hqn hDr.out, grown_set_bel HB1'.out g 0 _⟩
structure LessD (s t : DS) : Prop where
  len : t.l.length ≤ s.l.length
  bys : Bys s.l → Bys t.l
  off : s.ok = false → t.ok = false
theorem LessD.refl (s : DS) : LessD s s := ⟨Nat.le_refl _, id, id⟩
theorem LessD.trans {a b c : DS} (h : LessD a b) (k : LessD b c) : LessD a c := ⟨Nat.le_trans k.len h.len, fun x => k.bys (h.bys x), fun x => k.off (h.off x)⟩
theorem less_off (s : DS) : LessD s ⟨s.l, false⟩ := ⟨Nat.le_refl _, id, fun _ => rfl⟩
theorem less_numD (s : DS) : LessD s (numD s).2 := by
  cases hd : dU 10 s.l with
  | none => rw [numD_none hd]; exact less_off s
  | some p =>
    cases ho : s.ok with
    | false => rw [numD_off ho]; exact less_off s
    | true =>
      have h1 : numD s = ((p.1 : Int), ⟨p.2, true⟩) := numD_yes hd ho
      rw [h1]
      refine ⟨Nat.le_of_lt (dU_len 10 s.l p.1 p.2 hd), fun hb => ?_, fun h => by rw [ho] at h; cases h⟩
      rw [(dU_drop hb hd).1]
      exact bys_drop hb _
theorem numD_U {s : DS} (hb : Bys s.l) : U (numD s).1 := by
  cases hd : dU 10 s.l with
  | none => rw [numD_none hd]; exact ⟨Int.le_refl 0, show (0 : Int) < 18446744073709551616 by decide⟩
  | some p =>
    cases ho : s.ok with
    | false => rw [numD_off ho]; exact ⟨Int.le_refl 0, show (0 : Int) < 18446744073709551616 by decide⟩
    | true =>
      have h1 : numD s = ((p.1 : Int), ⟨p.2, true⟩) := numD_yes hd ho
      rw [h1]
      have h2 : p.1 < 18446744073709551616 := (dU_back 9 s.l p.1 p.2 hb (by decide) hd).2.1
      show U (p.1 : Int)
      unfold U
      omega
def balD (s : DS) : (Int × Int) × DS :=
  if 6 < (numD (numD s).2).1 then ((0, 0), ⟨(numD (numD s).2).2.l, false⟩) else (((numD s).1, (numD (numD s).2).1), (numD (numD s).2).2)
theorem less_balD (s : DS) : LessD s (balD s).2 := by
  unfold balD
  split
  · exact ((less_numD _).trans (less_numD _)).trans (less_off _)
  · exact (less_numD _).trans (less_numD _)
def textD (s : DS) : List Int × DS :=
  if (numD s).2.ok = false ∨ ((numD s).2.l.length : Int) < (numD s).1 then ([], ⟨(numD s).2.l, false⟩) else ((numD s).2.l.take (numD s).1.toNat, ⟨(numD s).2.l.drop (numD s).1.toNat, (numD s).2.ok⟩)
theorem less_textD (s : DS) : LessD s (textD s).2 := by
  unfold textD
  split
  · exact (less_numD _).trans (less_off _)
  · refine (less_numD s).trans ⟨by rw [List.length_drop]; omega, fun hb => bys_drop hb _, id⟩
theorem Rr.below {w0 W W' : World} {g : Nat} {s : DS} (h : Rr w0 W g s) (hb : Below W.heap.size W W') : Rr w0 W' g s := by
  obtain ⟨A, c, h1, h2, h3⟩ := h.at_
  exact ⟨h.base, h.bel.trans (hb.mono h.bel.size), A, c, blk_below h1 hb, h2, h3⟩
theorem Rr.lt {w0 W : World} {g : Nat} {s : DS} (h : Rr w0 W g s) : g < W.heap.size := by
  obtain ⟨A, c, h1, h2, h3⟩ := h.at_
  exact blk_lt h1
theorem Rr.set {w0 W : World} {g : Nat} {s : DS} (h : Rr w0 W g s) {r : Nat} (hr : w0.heap.size ≤ r) (hne : g ≠ r) (i : Nat) (u : Value) : Rr w0 (W.setCell ⟨r, i, none⟩ u) g s := by
  obtain ⟨A, c, h1, h2, h3⟩ := h.at_
  exact ⟨h.base, ⟨h.bel.os, h.bel.tape, h.bel.output, by simpa [World.setCell] using h.bel.size, fun k hk => (Below.heap_setCell _ _ _ _ (show k ≠ r by omega)).trans (h.bel.block k hk)⟩, A, c, blk_set_far h1 hne i u, h2, h3⟩
theorem Rr.shut {w0 W : World} {g : Nat} {s : DS} (h : Rr w0 W g s) : Rr w0 (W.setCell ⟨g, 1, none⟩ (.bool false)) g ⟨s.l, false⟩ := by
  obtain ⟨A, c, h1, h2, h3⟩ := h.at_
  exact Rr.off h.bel h.base h3 (Below.refl _ _) h1 h2
theorem own_zero {w : World} {g base : Nat} (h : w.heap[g]? = some (.cells #[] 5 (0, 0))) (hb : base ≤ g) : w.ownsRow base 5 1 (.slice (some ⟨g, 0, none⟩) 0 0) ([] : List Int).length (nums .u8 ([] : List Int)) :=
  ⟨rfl, .inr ⟨g, 0, _, rfl, hb, h, Nat.le_refl _, by decide, rfl, rfl⟩⟩
theorem set2D {W : World} {r : Nat} {a b : Value} {t : TypeId} (h : W.heap[r]? = some (.cells #[a, b] t (0, 0))) (x y : Value) :
    ((W.setCell ⟨r, 0, none⟩ x).setCell ⟨r, 1, none⟩ y).heap[r]? = some (.cells #[x, y] t (0, 0)) := by
  have h1 := blk_set h 0 x
  have h2 := blk_set h1 1 y
  simpa using h2
set_option maxHeartbeats 2000000 in
set_option maxRecDepth 100000 in
theorem balD_calls (w0 W : World) (g : Nat) (s : DS) (h : Rr w0 W g s) (hb : Bys s.l) (hf : Fits s.l.length) :
    Calls Tryd.prog 41 #[.pointer (some ⟨g, 0, none⟩)] W fun e w' => e = .returned (.agg #[.int .u64 (balD s).1.1, .int .i64 (balD s).1.2]) ∧ Rr w0 w' g (balD s).2 ∧ W.grownBy w' (some g) := by
  obtain ⟨a, s1, h1⟩ : ∃ a s1, numD s = (a, s1) := ⟨_, _, rfl⟩
  obtain ⟨b, s2, h2⟩ : ∃ b s2, numD s1 = (b, s2) := ⟨_, _, rfl⟩
  have hl1 := less_numD s
  have hl2 := less_numD s1
  have hU := numD_U (s := s1) (by rw [h1] at hl1; exact hl1.bys hb)
  rw [h1] at hl1
  rw [h2] at hl2 hU
  have hN1 : Aside0 (∀ V, Rr w0 V g s → Calls Tryd.prog 40 #[.pointer (some ⟨g, 0, none⟩)] V fun e w' => e = .returned (.int .u64 a) ∧ Rr w0 w' g s1 ∧ V.grownBy w' (some g)) := ⟨fun V hV => by have := numD_calls w0 V g s hV hb hf; rwa [h1] at this⟩
  have hN2 : Aside0 (∀ V, Rr w0 V g s1 → Calls Tryd.prog 40 #[.pointer (some ⟨g, 0, none⟩)] V fun e w' => e = .returned (.int .u64 b) ∧ Rr w0 w' g s2 ∧ V.grownBy w' (some g)) := ⟨fun V hV => by have := numD_calls w0 V g s1 hV (hl1.bys hb) (by have := hl1.len; unfold Fits at *; dsimp only at this; omega); rwa [h2] at this⟩
  have hR := Aside0.mk (h.below (bel1 W (.cells #[.int .u64 0, .int .i64 0] 24)))
  have hX := Aside0.mk (heap_alloc_new W (.cells #[.int .u64 0, .int .i64 0] 24))
  have hG0 := Aside0.mk (grown_of_below (bel1 W (.cells #[.int .u64 0, .int .i64 0] 24)) (some g))
  have hgl := Aside0.mk h.lt
  have hb0 := hU.1
  have hbse := Aside0.mk h.bel.size
  have hU' := Aside0.mk hU
  have hE : Aside0 (balD s = if 6 < b then ((0, 0), ⟨s2.l, false⟩) else ((a, b), s2)) := ⟨by unfold balD; rw [h1]; dsimp only; rw [h2]⟩
  have hne : g ≠ W.heap.size := Nat.ne_of_lt h.lt
  have hne2 : W.heap.size ≠ g := Ne.symm hne
  clear h hl1 hl2 hU h1 h2 hb hf
  by_cases h6 : 6 < b
  · have c6 : decide (6 < b) = true := decide_eq_true h6
    rw [if_pos h6] at hE
    clear h6
    go_enter Tryd.func41, Tryd.ntmps41
    repeat (first
      | ((with_reducible refine gate_callee (f := 40) rfl ?_); (with_reducible refine gate_dst (N := 6) rfl ?_); refine goesL_ (some 6) rfl rfl Tryd.func40 (by kernel_rfl) rfl #[.pointer (some ⟨g, 0, none⟩)] rfl (by (try simp only [List.map_toArray, List.map_cons, List.map_nil]); first | done | rfl) ?_; refine (hN1.out _ hR.out).mono ?_; rintro e w1 ⟨rfl, HR1, G1⟩; refine ⟨_, rfl, ?_⟩; have hR1 := Aside0.mk HR1; have hG1 := Aside0.mk (grown_trans hG0.out G1); have hX1 := Aside0.mk (blk_grown hX.out G1 (fun e => hne2 (Option.some.inj e))); clear HR1 G1; (try dsimp only))
      | ((with_reducible refine gate_callee (f := 40) rfl ?_); (with_reducible refine gate_dst (N := 8) rfl ?_); refine goesL_ (some 8) rfl rfl Tryd.func40 (by kernel_rfl) rfl #[.pointer (some ⟨g, 0, none⟩)] rfl (by (try simp only [List.map_toArray, List.map_cons, List.map_nil]); first | done | rfl) ?_; refine (hN2.out _ hR1.out).mono ?_; rintro e w2 ⟨rfl, HR2, G2⟩; refine ⟨_, rfl, ?_⟩; have hR2 := Aside0.mk HR2; have hG2 := Aside0.mk (grown_trans hG1.out G2); have hX2 := Aside0.mk (blk_grown hX1.out G2 (fun e => hne2 (Option.some.inj e))); obtain ⟨RA, rc, hbx, _, _⟩ := HR2.at_; have hz0 := (blk_cell hbx 0).trans rfl; have hz1 := (blk_cell hbx 1).trans rfl; have hf0 := blk_frozen hbx 0; have hf1 := blk_frozen hbx 1; have hx0 := (blk_cell hX2.out 0).trans rfl; have hx1 := (blk_cell hX2.out 1).trans rfl; have hy0 := blk_frozen hX2.out 0; have hy1 := blk_frozen hX2.out 1; clear HR2 G2 hbx; (try dsimp only))
      | go_step)
    have hX3 := blk_set_far hX2.out hne2 1 (.bool false)
    have hX4 := set2D hX3 (.int .u64 0) (.int .i64 0)
    refine bodyPost_ret (results_cell_row rfl _ _ W.heap.size 24 _ (0, 0) _ rfl hX4 Tryd.underlying24 rfl (by kernel_rfl)) rfl ?_
    rw [hE.out]
    exact ⟨rfl, (hR2.out.shut.set hbse.out hne 0 _).set hbse.out hne 1 _, grown_set (grown_set (grown_trans hG2.out (grown_cell hR2.out.lt 1 _)) (Nat.le_refl _) _) (Nat.le_refl _) _⟩
  · have c6 : decide (6 < b) = false := decide_eq_false h6
    rw [if_neg h6] at hE
    have hb6 : b ≤ 6 := by omega
    clear h6
    go_enter Tryd.func41, Tryd.ntmps41
    repeat (first
      | ((with_reducible refine gate_callee (f := 40) rfl ?_); (with_reducible refine gate_dst (N := 6) rfl ?_); refine goesL_ (some 6) rfl rfl Tryd.func40 (by kernel_rfl) rfl #[.pointer (some ⟨g, 0, none⟩)] rfl (by (try simp only [List.map_toArray, List.map_cons, List.map_nil]); first | done | rfl) ?_; refine (hN1.out _ hR.out).mono ?_; rintro e w1 ⟨rfl, HR1, G1⟩; refine ⟨_, rfl, ?_⟩; have hR1 := Aside0.mk HR1; have hG1 := Aside0.mk (grown_trans hG0.out G1); have hX1 := Aside0.mk (blk_grown hX.out G1 (fun e => hne2 (Option.some.inj e))); clear HR1 G1; (try dsimp only))
      | ((with_reducible refine gate_callee (f := 40) rfl ?_); (with_reducible refine gate_dst (N := 8) rfl ?_); refine goesL_ (some 8) rfl rfl Tryd.func40 (by kernel_rfl) rfl #[.pointer (some ⟨g, 0, none⟩)] rfl (by (try simp only [List.map_toArray, List.map_cons, List.map_nil]); first | done | rfl) ?_; refine (hN2.out _ hR1.out).mono ?_; rintro e w2 ⟨rfl, HR2, G2⟩; refine ⟨_, rfl, ?_⟩; have hR2 := Aside0.mk HR2; have hG2 := Aside0.mk (grown_trans hG1.out G2); have hX2 := Aside0.mk (blk_grown hX1.out G2 (fun e => hne2 (Option.some.inj e))); obtain ⟨RA, rc, hbx, _, _⟩ := HR2.at_; have hz0 := (blk_cell hbx 0).trans rfl; have hz1 := (blk_cell hbx 1).trans rfl; have hf0 := blk_frozen hbx 0; have hf1 := blk_frozen hbx 1; have hx0 := (blk_cell hX2.out 0).trans rfl; have hx1 := (blk_cell hX2.out 1).trans rfl; have hy0 := blk_frozen hX2.out 0; have hy1 := blk_frozen hX2.out 1; clear HR2 G2 hbx; (try dsimp only))
      | go_step)
    have hX4 := set2D hX2.out (.int .u64 a) (.int .i64 b)
    refine bodyPost_ret (results_cell_row rfl _ _ W.heap.size 24 _ (0, 0) _ rfl hX4 Tryd.underlying24 rfl (by kernel_rfl)) rfl ?_
    rw [hE.out]
    exact ⟨rfl, (hR2.out.set hbse.out hne 0 _).set hbse.out hne 1 _, grown_set (grown_set hG2.out (Nat.le_refl _) _) (Nat.le_refl _) _⟩
theorem C_take2 {W : World} {A : Option Addr} {l : List Int} {q : Nat} (h : Kd.C (Kd.int .u8) W A l.length l) (hq : q ≤ l.length) : Kd.C (Kd.int .u8) W A q (l.take q) := by
  have h1 := Kd.C_take (m := q) h hq
  rwa [show (l.take q).length = q by rw [List.length_take]; omega] at h1
set_option maxHeartbeats 2000000 in
set_option maxRecDepth 100000 in
theorem textD_calls (w0 W : World) (g : Nat) (s : DS) (h : Rr w0 W g s) (hb : Bys s.l) (hf : Fits s.l.length) (base : Nat) :
    Calls Tryd.prog 42 #[.pointer (some ⟨g, 0, none⟩)] W fun e w' => ∃ v, e = .returned v ∧ Kd.V (Kd.int .u8) 5 w' base (fun k => W.heap.size ≤ k) v (textD s).1 ∧ Rr w0 w' g (textD s).2 ∧ W.grownBy w' (some g) := by
  obtain ⟨n, s1, h1⟩ : ∃ n s1, numD s = (n, s1) := ⟨_, _, rfl⟩
  have hl1 := less_numD s
  have hU := numD_U (s := s) hb
  rw [h1] at hl1 hU
  have hN1 : Aside0 (Calls Tryd.prog 40 #[.pointer (some ⟨g, 0, none⟩)] W fun e w' => e = .returned (.int .u64 n) ∧ Rr w0 w' g s1 ∧ W.grownBy w' (some g)) := ⟨by have := numD_calls w0 W g s h hb hf; rwa [h1] at this⟩
  have hE : Aside0 (textD s = if s1.ok = false ∨ (s1.l.length : Int) < n then ([], ⟨s1.l, false⟩) else (s1.l.take n.toNat, ⟨s1.l.drop n.toNat, s1.ok⟩)) := ⟨by unfold textD; rw [h1]⟩
  have hlen : (s1.l.length : Int) < 140737488355328 := by have := hl1.len; unfold Fits at hf; dsimp only at this; omega
  have hb0 := hU.1
  clear h1 hl1 hb hf h hU
  cases ho : s1.ok with
  | false =>
    have ho' := Aside0.mk ho
    rw [if_pos (Or.inl ho)] at hE
    clear ho
    go_enter Tryd.func42, Tryd.ntmps42
    repeat (first
    | ((with_reducible refine gate_callee (f := 40) rfl ?_); (with_reducible refine gate_dst (N := 6) rfl ?_); refine goesL_ (some 6) rfl rfl Tryd.func40 (by kernel_rfl) rfl #[.pointer (some ⟨g, 0, none⟩)] rfl (by (try simp only [List.map_toArray, List.map_cons, List.map_nil]); first | done | rfl) ?_; refine (hN1.out).mono ?_; rintro e w1 ⟨rfl, HR1, G1⟩; refine ⟨_, rfl, ?_⟩; have hR1 := Aside0.mk HR1; have hG1 := Aside0.mk G1; obtain ⟨RA, rc, hbx, hrc, hrC⟩ := HR1.at_; have hX1 := Aside0.mk hbx; have hRC := Aside0.mk hrC; have hz0 := (blk_cell hbx 0).trans rfl; have hz1 := (blk_cell hbx 1).trans (congrArg (fun b => some (Value.bool b)) ho'.out); have hf0 := blk_frozen hbx 0; have hf1 := blk_frozen hbx 1;  clear HR1 G1 hbx hrC; (try dsimp only))
      | go_step)
    go_ret
    rw [hE.out]
    exact ⟨_, rfl, Kd.V_nil _ _ _ _ _, hR1.out.shut, grown_trans hG1.out (grown_cell hR1.out.lt 1 _)⟩
  | true =>
    have ho' := Aside0.mk ho
    by_cases hn : (s1.l.length : Int) < n
    · have c6 : decide ((s1.l.length : Int) < n) = true := decide_eq_true hn
      rw [if_pos (Or.inr hn)] at hE
      clear hn ho
      go_enter Tryd.func42, Tryd.ntmps42
      repeat (first
    | ((with_reducible refine gate_callee (f := 40) rfl ?_); (with_reducible refine gate_dst (N := 6) rfl ?_); refine goesL_ (some 6) rfl rfl Tryd.func40 (by kernel_rfl) rfl #[.pointer (some ⟨g, 0, none⟩)] rfl (by (try simp only [List.map_toArray, List.map_cons, List.map_nil]); first | done | rfl) ?_; refine (hN1.out).mono ?_; rintro e w1 ⟨rfl, HR1, G1⟩; refine ⟨_, rfl, ?_⟩; have hR1 := Aside0.mk HR1; have hG1 := Aside0.mk G1; obtain ⟨RA, rc, hbx, hrc, hrC⟩ := HR1.at_; have hX1 := Aside0.mk hbx; have hRC := Aside0.mk hrC; have hz0 := (blk_cell hbx 0).trans rfl; have hz1 := (blk_cell hbx 1).trans (congrArg (fun b => some (Value.bool b)) ho'.out); have hf0 := blk_frozen hbx 0; have hf1 := blk_frozen hbx 1;  clear HR1 G1 hbx hrC; (try dsimp only))
        | go_step)
      go_ret
      rw [hE.out]
      exact ⟨_, rfl, Kd.V_nil _ _ _ _ _, hR1.out.shut, grown_trans hG1.out (grown_cell hR1.out.lt 1 _)⟩
    · have c6 : decide ((s1.l.length : Int) < n) = false := decide_eq_false hn
      have c7 : decide (s1.l.length < n.toNat) = false := decide_eq_false (by omega)
      rw [if_neg (by rintro (h | h); · rw [ho] at h; cases h
                     · exact hn h)] at hE
      obtain ⟨q, rfl⟩ := Int.eq_ofNat_of_zero_le hb0
      have hqn : q ≤ s1.l.length := by omega
      have hq0 : (0 ≤ (q : Int)) = True := eq_true (by omega)
      have hqc : ((q : Int) ≤ (s1.l.length : Int)) = True := eq_true (by omega)
      have hq64 : (q : Int) < 9223372036854775807 := by omega
      rw [Int.toNat_natCast] at hE c7
      clear hn ho hb0
      go_enter Tryd.func42, Tryd.ntmps42
      repeat (first
    | ((with_reducible refine gate_callee (f := 40) rfl ?_); (with_reducible refine gate_dst (N := 6) rfl ?_); refine goesL_ (some 6) rfl rfl Tryd.func40 (by kernel_rfl) rfl #[.pointer (some ⟨g, 0, none⟩)] rfl (by (try simp only [List.map_toArray, List.map_cons, List.map_nil]); first | done | rfl) ?_; refine (hN1.out).mono ?_; rintro e w1 ⟨rfl, HR1, G1⟩; refine ⟨_, rfl, ?_⟩; have hR1 := Aside0.mk HR1; have hG1 := Aside0.mk G1; obtain ⟨RA, rc, hbx, hrc, hrC⟩ := HR1.at_; have hX1 := Aside0.mk hbx; have hRC := Aside0.mk hrC; have hz0 := (blk_cell hbx 0).trans rfl; have hz1 := (blk_cell hbx 1).trans (congrArg (fun b => some (Value.bool b)) ho'.out); have hf0 := blk_frozen hbx 0; have hf1 := blk_frozen hbx 1; have hqc2 : ((q : Int) ≤ (rc : Int)) = True := eq_true (by omega); have hqc3 : q ≤ rc := (by omega); have hw0 := (blk_cell (blk_alloc hbx (.cells #[] 5)) 0).trans rfl; have HS := Aside0.mk (Kd.R_of_own (enc := Value.int .u8) (h1 := fun _ => rfl) (ok := fun _ => True) (own_zero (heap_alloc_new w1 (.cells #[] 5)) (Nat.le_refl w1.heap.size)) (fun _ _ => trivial)); have HBa := Aside0.mk (bel1 w1 (.cells #[] 5)); have HC2 := Aside0.mk (C_take2 (Kd.C_below hrC (HR1.bel.trans ((bel1 w1 (.cells #[] 5)).mono HR1.bel.size))) hqn); clear HR1 G1 hbx hrC; (try dsimp only))
        | ((with_reducible refine gate_builtin (b := .append) (xs := #[.tmp 25, .tmp 31]) rfl ?_); at_builtin; refine Kd.R_append_rows (Kd.int .u8) (w0 := w1) w1.heap.size rfl (.tmp 25) (.tmp 31) 27 5 (.int .u8 0) 1 rfl Tryd.underlying27 info5 rfl (by decide) (by omega) _ [] (s1.l.take q) _ _ _ (fun _ => True) (fun _ => False) rfl rfl HS.out HC2.out (fun _ _ h => h) (fun _ h => h.elim) (fun _ _ => trivial) HBa.out HBa.out.size (by simp only [List.length_nil]; omega) ?_; intro v2 w2 HR2 HB2 HG2 _; have hR2 := Aside0.mk HR2; have hB2 := Aside0.mk HB2; have hX2 := Aside0.mk (blk_below hX1.out HB2); have hv0 := (blk_cell hX2.out 0).trans rfl; have hy0 := blk_frozen hX2.out 0; clear HR2 HB2 HG2)
        | go_step)
      go_ret
      rw [hE.out]
      have hgl := hR1.out.lt
      have hw1 : W.heap.size ≤ w1.heap.size := hG1.out.size
      have hV : Kd.V (Kd.int .u8) 5 (w2.setCell ⟨g, 0, none⟩ (.slice (if rc = q then RA else RA.map (·.add q)) (s1.l.length - q) (rc - q))) base (fun k => W.heap.size ≤ k) v2 (s1.l.take q) := by
        have h1 := Kd.R_bound hR2.out
        rw [List.nil_append] at h1
        obtain ⟨A2, c2, rfl, hl2, _⟩ := Kd.R_reads h1
        have h2 := Kd.F_mono (Kd.R_F h1) (fun k hk => hk.2.1)
        exact Kd.V_mono (Kd.V_far (p := ⟨g, 0, none⟩) (Kd.V_mk hl2 h2) (fun k hk => by show k ≠ g; omega) _) (fun k hk => Nat.le_trans hw1 hk)
      exact ⟨_, rfl, hV, Rr.cut hR1.out.bel hR1.out.base hB2.out hX2.out hrc hqn (Kd.C_drop (m := q) hRC.out hqn hrc), grown_trans hG1.out (grown_set_bel hB2.out g 0 _)⟩
end Go.Proofs.YtfkfboigkpofkaaDoor.M
end
section
namespace Go.Proofs.YtfkfboigkpofkaaDoor.M
open Go.RowKit Go.Proofs.YtfkfboigkpofkaaDoorW.PrintWords Go.Proofs.YtfkfboigkpofkaaDoorW.PrintLast Go.Proofs.YtfkfboigkpofkaaDoorW.PrintMore Go.Proofs.YtfkfboigkpofkaaDoor.PMsgPuts
set_option linter.unusedVariables false
set_option linter.unusedSimpArgs false
theorem C_none {α : Type} (d : Kd α) (W : World) : Kd.C d W none ([] : List α).length [] := Kd.C_nil d W
theorem C_one (W : World) (g : Nat) (b : Int) {fr : Nat × Nat} (h : W.heap[g]? = some (.cells #[.int .u8 b] 5 fr)) : Kd.C (Kd.int .u8) W (some ⟨g, 0, none⟩) 1 [b] := by
  refine ⟨rfl, by decide, fun _ => ⟨⟨g, 0, none⟩, rfl, fun j p hj => ⟨[.int .u8 p], rfl, rfl, fun i u hu => ?_⟩⟩⟩
  rcases j with _ | j
  · rcases i with _ | i
    · simp only [List.getElem?_cons_zero, Option.some.injEq] at hj hu
      subst hj hu
      have e : (⟨g, 0, none⟩ : Addr).add (0 * (Kd.int .u8).sz + 0) = ⟨g, 0, none⟩ := by rw [add_plain]; simp
      rw [e]
      simp [World.cell?, h]
    · simp at hu
  · simp at hj
theorem C_row1 (W : World) (g : Nat) (A : Option Addr) (l : List Int) (c : Nat) (hc : l.length ≤ c) (h : W.heap[g]? = some (.cells #[.slice A l.length c] 27 (0, 0))) (hC : Kd.C (Kd.int .u8) W A l.length l) : Kd.C (Kd.slice 5 (Kd.int .u8)) W (some ⟨g, 0, none⟩) 1 [l] := by
  refine ⟨rfl, by decide, fun _ => ⟨⟨g, 0, none⟩, rfl, fun j p hj => ?_⟩⟩
  rcases j with _ | j
  · simp only [List.getElem?_cons_zero, Option.some.injEq] at hj
    subst hj
    refine ⟨[.slice A l.length c], rfl, ⟨A, c, rfl, hc, hC⟩, fun i u hu => ?_⟩
    rcases i with _ | i
    · simp only [List.getElem?_cons_zero, Option.some.injEq] at hu
      subst hu
      have e : (⟨g, 0, none⟩ : Addr).add (0 * (Kd.slice 5 (Kd.int .u8)).sz + 0) = ⟨g, 0, none⟩ := by rw [add_plain]; simp
      rw [e]
      exact (blk_cell h 0).trans rfl
    · simp at hu
  · simp at hj
theorem ok_W : mW.Ok := ⟨by unfold U; decide, by unfold U; decide, by unfold U; decide, by unfold U; decide, by simp [mW], by unfold Fits mW; decide, by unfold Fits mW; decide⟩
theorem conv_mark (w : World) (b : Int) : ∃ W', (convert 27 27 (.slice (some ⟨w.heap.size, 0, none⟩) 1 1)).run Tryd.prog (w.alloc (.cells #[.int .u8 b] 5)) = .ok (.slice (some ⟨w.heap.size, 0, none⟩) 1 1) W' ∧ Below w.heap.size w W' ∧ W'.heap.size = w.heap.size + 1 ∧ ∃ fr, W'.heap[w.heap.size]? = some (.cells #[.int .u8 b] 5 fr) := by
  have hsh : (w.alloc (.cells #[.int .u8 b] 5)).shape? w.heap.size = some (5, 1) := by
    simp [World.shape?, World.alloc, -World.alloc_eq]
  refine ⟨(w.alloc (.cells #[.int .u8 b] 5)).freeze ⟨w.heap.size, 1, none⟩ 1, ?_, ?_, ?_, ?_⟩
  · simp [convert, run_underlying Tryd.underlying27, run_underlying Tryd.underlying5, markStringish, hsh, Result.andThen]
  · refine ⟨rfl, rfl, rfl, ?_, fun i hi => ?_⟩
    · simp [World.freeze, World.alloc, -World.alloc_eq]
    · have h1 : w.heap.size ≠ i := by omega
      simp [World.freeze, World.alloc, -World.alloc_eq, Array.getElem?_modify, Array.getElem?_push, h1, Ne.symm h1]
  · simp [World.freeze, World.alloc, -World.alloc_eq]
  · refine ⟨(1, 2), ?_⟩
    simp [World.freeze, World.alloc, -World.alloc_eq]
    rw [Array.getElem_modify_self]
    simp
theorem str4 {w2 : World} {g : Nat} {c : Nat} (h : Kd.C (Kd.int .u8) w2 (some ⟨g, 0, none⟩) bW.length bW) (hc : bW.length ≤ c) :
    (convert 27 9 (.slice (if c = 4 then some ⟨g, 0, none⟩ else some ⟨g, 4, none⟩) (bW.length - 4) (c - 4))).run Tryd.prog w2 = .ok (.string ⟨#[4, 1, 0, 4, 5, 1, 1, 120]⟩) w2 := by
  have h1 := Kd.C_drop (m := 4) h (by decide) hc
  have h2 := Kd.C_string (P := Tryd.prog) (c := c - 4) Tryd.underlying27 Tryd.underlying5 Tryd.underlying9 h1
  have e : strOfNums (bW.drop 4) = ⟨#[4, 1, 0, 4, 5, 1, 1, 120]⟩ := rfl
  rw [e] at h2
  exact h2
theorem bys_sum (l : List Int) : Bys (sumB l) := by
  intro x hx
  simp only [sumB, List.mem_cons, List.not_mem_nil, or_false] at hx
  rcases hx with rfl | rfl | rfl | rfl
  all_goals exact ⟨Int.emod_nonneg _ (by decide), Int.emod_lt_of_pos _ (by decide)⟩
theorem bys_W : Bys bW := bys_app (bys_sum _) (by unfold Bys; decide)
theorem bys_W2 : Bys bW2 := bys_app (bys_sum _) (by unfold Bys; decide)
theorem take1 {A : Option Addr} {c : Nat} {w2 : World} (T : Tabs w2) (h : Kd.C (Kd.int .u8) w2 A bW.length bW) (hc : bW.length ≤ c) : Calls Tryd.prog 17 #[.slice A bW.length c] w2 (TakeP w2 (mW, 0)) := by
  have := Take_calls A c bW hc w2 T h bys_W (by show bW.length < 140737488355328; decide)
  rwa [take_W] at this
theorem take2 {A : Option Addr} {c : Nat} {w2 : World} (T : Tabs w2) (h : Kd.C (Kd.int .u8) w2 A bW2.length bW2) (hc : bW2.length ≤ c) : Calls Tryd.prog 17 #[.slice A bW2.length c] w2 (TakeP w2 (m0 0, 12)) := by
  have := Take_calls A c bW2 hc w2 T h bys_W2 (by show bW2.length < 140737488355328; decide)
  rwa [take_W2] at this
theorem R_at {W : World} {base : Nat} {ok : Nat → Prop} {v : Value} {xs : List Int} (h : Kd.R (Kd.int .u8) 5 W base ok v xs) (hp : 0 < xs.length) : ∃ g c, v = .slice (some ⟨g, 0, none⟩) xs.length c ∧ base ≤ g ∧ g < W.heap.size := by
  rcases (Kd.own_of_R h).2 with ⟨rfl, h0⟩ | ⟨g, cap, cur, rfl, hb, hg, _⟩
  · omega
  · exact ⟨g, cap, rfl, hb, blk_lt hg⟩
theorem at7 {W : World} {base g c : Nat} {ok : Nat → Prop} (h : Kd.R (Kd.int .u8) 5 W base ok (.slice (some ⟨g, 0, none⟩) bW.length c) bW) : W.cell? ⟨g, 7, none⟩ = some (.int .u8 4) := (Kd.R_celln (d := (0 : Int)) h 7 (by decide) (by decide)).1.trans rfl
theorem at7f {W : World} {base g c : Nat} {ok : Nat → Prop} (h : Kd.R (Kd.int .u8) 5 W base ok (.slice (some ⟨g, 0, none⟩) bW.length c) bW) : W.frozen? ⟨g, 7, none⟩ = false := (Kd.R_celln (d := (0 : Int)) h 7 (by decide) (by decide)).2
theorem below4 {w w2 w3 : World} {g : Nat} {o : Obj} {u : Value} {i : Nat} (h : Below w.heap.size w w2) (k : Below w2.heap.size w2 w3) (hg : w.heap.size ≤ g) : Below w.heap.size w ((w3.alloc o).setCell ⟨g, i, none⟩ u) := by
  have h1 := below_alloc (below_step h k) o
  exact ⟨h1.os, h1.tape, h1.output, by simpa [World.setCell] using h1.size, fun j hj => (Below.heap_setCell _ _ _ _ (show j ≠ g by omega)).trans (h1.block j hj)⟩
theorem put7 {W : World} {base g c : Nat} {ok : Nat → Prop} (h : Kd.R (Kd.int .u8) 5 W base ok (.slice (some ⟨g, 0, none⟩) bW.length c) bW) : Kd.C (Kd.int .u8) (W.setCell ⟨g, 7, none⟩ (.int .u8 5)) (some ⟨g, 0, none⟩) bW2.length bW2 :=
  (Kd.R_reads' (Kd.R_putn h 7 5)).2.2
theorem row_after {w2 w3 w5 : World} {g : Nat} {A7 : Option Addr} {n7 c7 : Nat} {O1 O2 : Obj} {u : Value} {i : Nat} (HU : Kd.V (Kd.slice 5 (Kd.int .u8)) 27 w3 w2.heap.size (fun k => w2.heap.size ≤ k) (.slice A7 n7 c7) mW.B) (hg : g < w2.heap.size) (HB5 : Below ((w3.alloc O1).setCell ⟨g, i, none⟩ u).heap.size ((w3.alloc O1).setCell ⟨g, i, none⟩ u) w5) :
    ∃ ad A c, A7 = some ad ∧ (w5.alloc O2).cell? ad = some (.slice A 1 c) ∧ ∀ W, Below (w5.alloc O2).heap.size (w5.alloc O2) W → (convert 27 9 (.slice A 1 c)).run Tryd.prog W = .ok (.string ⟨#[120]⟩) W := by
  have h1 := Kd.V_alloc (Kd.V_below (Kd.V_far (p := ⟨g, i, none⟩) (Kd.V_alloc HU O1) (fun k hk => by show k ≠ g; omega) u) HB5) O2
  obtain ⟨hn, _, hC⟩ := Kd.V_reads' h1
  obtain ⟨ad, A, c, rfl, hx, _, hi⟩ := at_L4 hC 0 (Int.le_refl _) (by decide)
  have e : rd_L4 mW.B 0 = [120] := rfl
  rw [e] at hx hi
  refine ⟨ad, A, c, rfl, ?_, fun W hW => ?_⟩
  · have e2 : ad.add (0 : Int).toNat = ad := by simp [Addr.add]
    rwa [e2] at hx
  · have h2 := Kd.C_string (P := Tryd.prog) (c := c) Tryd.underlying27 Tryd.underlying5 Tryd.underlying9 (Kd.C_below hi hW)
    exact h2.trans rfl
theorem want_calls (f : Int) (b : Bool) (hf : checkM ⟨6, 0, 0, f, 0, 0, [], [], []⟩ 6 = b) (W : World) (T : Tabs W) :
    Calls Tryd.prog 10 #[.agg #[.int .u8 6, .int .u64 0, .int .i64 0, .int .u64 f, .int .u64 0, .int .u64 0, .slice none 0 0, .slice none 0 0, .slice none 0 0]] W fun e w' => e = .returned (.int .i64 (errI b)) ∧ Below W.heap.size W w' := by
  have h := check_m ⟨6, 0, 0, f, 0, 0, [], [], []⟩ 6 rfl (by decide) (show (0 : Nat) < 140737488355328 by decide) none none none 0 0 0 W T ⟨C_none _ _, C_none _ _, C_none _ _⟩ (Nat.le_refl _) (Nat.le_refl _) (Nat.le_refl _)
  rw [hf] at h
  exact h W (Below.refl _ _)
set_option maxHeartbeats 1000000 in
set_option maxRecDepth 100000 in
theorem wakes_calls (w : World) (T : Tabs w) : Calls Tryd.prog 8 #[] w fun e w' => e = .returned (.bool true) ∧ Below w.heap.size w w' := by
  obtain ⟨W1, hcv, hB1, hs1, fr, hh1⟩ := conv_mark w 120
  have hW2 := Aside0.mk (below_alloc hB1 (.cells #[.slice (some ⟨w.heap.size, 0, none⟩) 1 1] 27))
  have hrow := heap_alloc_new W1 (.cells #[.slice (some ⟨w.heap.size, 0, none⟩) 1 1] 27)
  rw [hs1] at hrow
  have hm : mW.At (W1.alloc (.cells #[.slice (some ⟨w.heap.size, 0, none⟩) 1 1] 27)) none (some ⟨w.heap.size + 1, 0, none⟩) none :=
    ⟨C_none _ _, C_row1 _ _ (some ⟨w.heap.size, 0, none⟩) [120] 1 (Nat.le_refl _) hrow (C_one _ _ 120 (blk_alloc hh1 _)), C_none _ _⟩
  have hput : Aside0 (Calls Tryd.prog 11 #[.agg #[.int .u8 4, .int .u64 1, .int .i64 0, .int .u64 5, .int .u64 0, .int .u64 4, .slice none 0 0, .slice (some ⟨w.heap.size + 1, 0, none⟩) 1 1, .slice none 0 0]] (W1.alloc (.cells #[.slice (some ⟨w.heap.size, 0, none⟩) 1 1] 27)) fun e w' => ∃ v, e = .returned (.tuple #[v, .int .i64 0]) ∧ Kd.R (Kd.int .u8) 5 w' w.heap.size (fun _ => True) v bW ∧ Below w.heap.size w w') := by
    have hT := T.below hW2.out
    have hC := check_m mW 4 rfl (by decide) ok_W.fV none (some ⟨w.heap.size + 1, 0, none⟩) none 0 1 0 _ hT hm (Nat.le_refl _) (Nat.le_refl _) (Nat.le_refl _)
    rw [check_W] at hC
    have hbW : putB mW 4 = bW := by unfold putB; rw [body_W]; rfl
    have h := put_yes mW ok_W 4 rfl (by decide) none (some ⟨w.heap.size + 1, 0, none⟩) none 0 1 0 _ hT hm hC (by rw [hbW]; show bW.length < 140737488355328; decide)
    rw [hbW] at h
    refine ⟨h.mono ?_⟩
    rintro e w' ⟨v, rfl, hR, hB⟩
    exact ⟨v, rfl, Kd.R_lower hR hW2.out.size, hW2.out.trans (hB.mono hW2.out.size)⟩
  clear hrow hm hB1 hh1
  have hT := Aside0.mk T
  clear T
  go_enter Tryd.func8, Tryd.ntmps8
  repeat (first
    | ((with_reducible refine gate_callee (f := 11) rfl ?_); (with_reducible refine gate_dst (N := 13) rfl ?_); refine goesL_ (some 13) rfl rfl Tryd.func11 (by kernel_rfl) rfl #[.agg #[.int .u8 4, .int .u64 1, .int .i64 0, .int .u64 5, .int .u64 0, .int .u64 4, .slice none 0 0, .slice (some ⟨w.heap.size + 1, 0, none⟩) 1 1, .slice none 0 0]] rfl (by (try simp only [List.map_toArray, List.map_cons, List.map_nil]); first | done | rfl) ?_; refine (hput.out).mono ?_; rintro e w2 ⟨v, rfl, HR2, HB2⟩; refine ⟨_, rfl, ?_⟩; obtain ⟨g, c, rfl, hgb_, hgs_⟩ := R_at HR2 (by decide); have hgb := Aside0.mk hgb_; have hgs := Aside0.mk hgs_; clear hgb_ hgs_; have HR2' := Aside0.mk HR2; have HB2' := Aside0.mk HB2; have hcv2 := str4 (Kd.R_reads' HR2).2.2 (Kd.R_reads' HR2).2.1; clear HR2 HB2; (try dsimp only))
    | ((with_reducible refine gate_callee (f := 17) rfl ?_); (with_reducible refine gate_dst (N := 31) rfl ?_); refine goesL_ (some 31) rfl rfl Tryd.func17 (by kernel_rfl) rfl #[.slice (some ⟨g, 0, none⟩) bW.length c] rfl (by (try simp only [List.map_toArray, List.map_cons, List.map_nil]); first | done | rfl) ?_; refine (take1 (hT.out.below HB2'.out) (Kd.R_reads' HR2'.out).2.2 (Kd.R_reads' HR2'.out).2.1).mono ?_; rintro e w3 ⟨vV, vB, vS, rfl, HV, HB_, HS, HB3⟩; refine ⟨_, rfl, ?_⟩; obtain ⟨A6, c6, rfl⟩ := Kd.V_slice HV; obtain ⟨A7, c7, rfl⟩ := Kd.V_slice HB_; obtain ⟨A8, c8, rfl⟩ := Kd.V_slice HS; have HR3 := Aside0.mk (Kd.R_alloc (Kd.R_below HR2'.out HB3) (.cells #[.int .u8 mW.k, .int .u64 mW.n, .int .i64 mW.r, .int .u64 mW.first, .int .u64 mW.last, .int .u64 mW.commit, .slice A6 mW.V.length c6, .slice A7 mW.B.length c7, .slice A8 mW.S.length c8] 29)); have hb7 := at7 HR3.out; have hf7 := at7f HR3.out; have HU3 := Aside0.mk HB_; have HB3' := Aside0.mk HB3; clear HV HB_ HS HB3 hcv2; (try dsimp only))
    | ((with_reducible refine gate_callee (f := 17) rfl ?_); (with_reducible refine gate_dst (N := 41) rfl ?_); refine goesL_ (some 41) rfl rfl Tryd.func17 (by kernel_rfl) rfl #[.slice (some ⟨g, 0, none⟩) bW.length c] rfl (by (try simp only [List.map_toArray, List.map_cons, List.map_nil]); first | done | rfl) ?_; refine (take2 (hT.out.below (below4 HB2'.out HB3'.out hgb.out)) (put7 HR3.out) (Kd.R_reads' HR3.out).2.1).mono ?_; rintro e w5 ⟨vV, vB, vS, rfl, HV, HB_, HS, HB5⟩; refine ⟨_, rfl, ?_⟩; obtain ⟨B6, d6, rfl⟩ := Kd.V_slice HV; obtain ⟨B7, d7, rfl⟩ := Kd.V_slice HB_; obtain ⟨B8, d8, rfl⟩ := Kd.V_slice HS; have hgl : g ≠ w3.heap.size := Nat.ne_of_lt (Nat.lt_of_lt_of_le hgs.out HB3'.out.size); have hbx := Aside0.mk (blk_alloc (blk_below (blk_set_far (heap_alloc_new w3 (.cells #[.int .u8 mW.k, .int .u64 mW.n, .int .i64 mW.r, .int .u64 mW.first, .int .u64 mW.last, .int .u64 mW.commit, .slice A6 mW.V.length c6, .slice A7 mW.B.length c7, .slice A8 mW.S.length c8] 29)) hgl.symm 7 (.int .u8 5)) HB5) (.cells #[.int .u8 (m0 0).k, .int .u64 (m0 0).n, .int .i64 (m0 0).r, .int .u64 (m0 0).first, .int .u64 (m0 0).last, .int .u64 (m0 0).commit, .slice B6 (m0 0).V.length d6, .slice B7 (m0 0).B.length d7, .slice B8 (m0 0).S.length d8] 29)); have hx0 : (w5.alloc (.cells #[.int .u8 (m0 0).k, .int .u64 (m0 0).n, .int .i64 (m0 0).r, .int .u64 (m0 0).first, .int .u64 (m0 0).last, .int .u64 (m0 0).commit, .slice B6 (m0 0).V.length d6, .slice B7 (m0 0).B.length d7, .slice B8 (m0 0).S.length d8] 29)).cell? ⟨w3.heap.size, 0, none⟩ = some (.int .u8 4) := (blk_cell hbx.out 0).trans rfl; have hx4 : (w5.alloc (.cells #[.int .u8 (m0 0).k, .int .u64 (m0 0).n, .int .i64 (m0 0).r, .int .u64 (m0 0).first, .int .u64 (m0 0).last, .int .u64 (m0 0).commit, .slice B6 (m0 0).V.length d6, .slice B7 (m0 0).B.length d7, .slice B8 (m0 0).S.length d8] 29)).cell? ⟨w3.heap.size, 5, none⟩ = some (.int .u64 4) := (blk_cell hbx.out 5).trans rfl; have hx2 : (w5.alloc (.cells #[.int .u8 (m0 0).k, .int .u64 (m0 0).n, .int .i64 (m0 0).r, .int .u64 (m0 0).first, .int .u64 (m0 0).last, .int .u64 (m0 0).commit, .slice B6 (m0 0).V.length d6, .slice B7 (m0 0).B.length d7, .slice B8 (m0 0).S.length d8] 29)).cell? ⟨w3.heap.size, 3, none⟩ = some (.int .u64 5) := (blk_cell hbx.out 3).trans rfl; have hx6 : (w5.alloc (.cells #[.int .u8 (m0 0).k, .int .u64 (m0 0).n, .int .i64 (m0 0).r, .int .u64 (m0 0).first, .int .u64 (m0 0).last, .int .u64 (m0 0).commit, .slice B6 (m0 0).V.length d6, .slice B7 (m0 0).B.length d7, .slice B8 (m0 0).S.length d8] 29)).cell? ⟨w3.heap.size, 7, none⟩ = some (.slice A7 1 c7) := (blk_cell hbx.out 7).trans rfl; obtain ⟨ad7, A71, c71, rfl, hq7, hcx_⟩ := row_after (O2 := (.cells #[.int .u8 (m0 0).k, .int .u64 (m0 0).n, .int .i64 (m0 0).r, .int .u64 (m0 0).first, .int .u64 (m0 0).last, .int .u64 (m0 0).commit, .slice B6 (m0 0).V.length d6, .slice B7 (m0 0).B.length d7, .slice B8 (m0 0).S.length d8] 29)) HU3.out hgs.out HB5; have hcx0 := hcx_ _ (Below.refl _ _); have hcx := Aside0.mk hcx_; clear hcx_; have HBe := Aside0.mk (below_alloc (below_step (below4 HB2'.out HB3'.out hgb.out) HB5) (.cells #[.int .u8 (m0 0).k, .int .u64 (m0 0).n, .int .i64 (m0 0).r, .int .u64 (m0 0).first, .int .u64 (m0 0).last, .int .u64 (m0 0).commit, .slice B6 (m0 0).V.length d6, .slice B7 (m0 0).B.length d7, .slice B8 (m0 0).S.length d8] 29)); clear HV HB_ HS HB5 hb7 hf7; (try dsimp only))
    | ((with_reducible refine Calls.mono (want_calls 0 false want_no _ (hT.out.below HBe.out)) ?_); rintro e w6 ⟨rfl, HB6⟩; have HBf := Aside0.mk (below_step HBe.out HB6); clear HB6; (try dsimp only))
    | ((with_reducible refine Calls.mono (want_calls 1 true want_yes _ (hT.out.below HBf.out)) ?_); rintro e w7 ⟨rfl, HB7⟩; have HBg := Aside0.mk (below_step HBf.out HB7); clear HB7; (try dsimp only))
    | go_step)
  go_ret
  exact ⟨rfl, HBg.out⟩
end Go.Proofs.YtfkfboigkpofkaaDoor.M
end
section
namespace Go.Proofs.YtfkfboigkpofkaaDoor.PMsgPuts
open Go.RowKit Go.Proofs.YtfkfboigkpofkaaDoorW.PrintWords Go.Proofs.YtfkfboigkpofkaaDoorW.PrintLast Go.Proofs.YtfkfboigkpofkaaDoorW.PrintMore
attribute [local go_sem] max2_int min2_int max_two min_two max_three min_three max_four min_four
set_option linter.unusedVariables false
set_option linter.unusedSimpArgs false
theorem eqA24 (d : Nat) (w : World) (x0 y0 : Int) (x1 y1 : Int) :
    (Op.equalIn (d + 2) 24 (.agg #[.int .u64 x0, .int .i64 x1]) (.agg #[.int .u64 y0, .int .i64 y1])).run Tryd.prog w = .ok (x0 == y0 && (x1 == y1)) w := by
  refine eqA_of Tryd.underlying24 (by kernel_rfl) ?_
  refine eqf_cons (by rfl) (by go_simp; rfl) (by go_simp; rfl) (by go_simp) ?_
  exact eqf_last (by rfl) (by go_simp; rfl) (by go_simp; rfl) (by go_simp)
end Go.Proofs.YtfkfboigkpofkaaDoor.PMsgPuts
end
