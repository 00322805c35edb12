/- Parts of a proof, pruned and joined by flat.py out of: MI, MJ, MK, ML, MM. -/
import Derived.Test.YtfkfboigkpofkaaDoorCOwn4
section
namespace Go.Proofs.YtfkfboigkpofkaaDoor.M
open Go.RowKit Go.Proofs.YtfkfboigkpofkaaDoorW.PrintWords Go.Proofs.YtfkfboigkpofkaaDoorW.PrintLast Go.Proofs.YtfkfboigkpofkaaDoorW.PrintMore Go.Proofs.YtfkfboigkpofkaaDoor.PMsgPuts
set_option linter.unusedVariables false
set_option linter.unusedSimpArgs false
structure RS where
  e : Int
  l : List Int
  lim : Int
structure Rd (w0 W : World) (g : Nat) (s : RS) : Prop where
  base : w0.heap.size ≤ g
  bel : Below w0.heap.size w0 W
  at_ : ∃ A c, W.heap[g]? = some (.cells #[.int .i64 s.e, .slice A s.l.length c, .int .i64 s.lim] 99 (0, 0)) ∧ s.l.length ≤ c ∧ Kd.C (Kd.int .u8) w0 A s.l.length s.l
def failR (s : RS) (c : Int) : RS := if s.e = 0 then { s with e := c } else s
def byteR (s : RS) : Int × RS := if s.e = 0 then (match s.l with | [] => (0, { s with e := 10 }) | c :: t => (c, { s with l := t })) else (0, s)
theorem grown_refl (w : World) (r : Option Nat) : w.grownBy w r := ⟨rfl, rfl, rfl, Nat.le_refl _, fun _ _ _ => rfl⟩
theorem grown_cell {W : World} {g : Nat} (hg : g < W.heap.size) (i : Nat) (u : Value) : W.grownBy (W.setCell ⟨g, i, none⟩ u) (some g) :=
  ⟨rfl, rfl, rfl, by simp [World.setCell], fun k hk hne => Below.heap_setCell _ _ _ _ (fun e => hne (by rw [e]))⟩
theorem grown_trans {a b c : World} {r : Option Nat} (h : a.grownBy b r) (k : b.grownBy c r) : a.grownBy c r :=
  ⟨k.os.trans h.os, k.tape.trans h.tape, k.output.trans h.output, Nat.le_trans h.size k.size, fun i hi hne => (k.block i (Nat.lt_of_lt_of_le hi h.size) hne).trans (h.block i hi hne)⟩
theorem grown_bel {a b : World} {g n : Nat} (h : a.grownBy b (some g)) (hg : n ≤ g) (hn : n ≤ a.heap.size) : Below n a b :=
  ⟨h.os, h.tape, h.output, h.size, fun k hk => h.block k (by omega) (fun e => by have := Option.some.inj e; omega)⟩
set_option maxHeartbeats 1000000 in
set_option maxRecDepth 100000 in
theorem err_calls (w0 W : World) (g : Nat) (s : RS) (h : Rd w0 W g s) :
    Calls Tryd.prog 57 #[.pointer (some ⟨g, 0, none⟩)] W fun e w' => e = .returned (.int .i64 s.e) ∧ W = w' := by
  obtain ⟨A, c, hb, _, _⟩ := h.at_
  have h0 := (blk_cell hb 0).trans rfl
  clear h hb
  go_enter Tryd.func57, Tryd.ntmps57
  go_wp2
  go_ret
  exact ⟨rfl, rfl⟩
set_option maxHeartbeats 1000000 in
set_option maxRecDepth 100000 in
theorem fail_calls (w0 W : World) (g : Nat) (s : RS) (h : Rd w0 W g s) (k : Int) :
    Calls Tryd.prog 58 #[.pointer (some ⟨g, 0, none⟩), .int .i64 k] W fun e w' => (∃ v, e = .returned v) ∧ Rd w0 w' g (failR s k) ∧ W.grownBy w' (some g) := by
  have hR := Aside0.mk h
  obtain ⟨A, c, hb, hc, hC⟩ := h.at_
  have h0 := (blk_cell hb 0).trans rfl
  have hf := blk_frozen hb 0
  have hB := Aside0.mk hb
  clear h hb
  by_cases he : s.e = 0
  · rw [he] at h0
    go_enter Tryd.func58, Tryd.ntmps58
    go_wp2
    go_end0
    refine ⟨⟨_, rfl⟩, ⟨hR.out.base, ?_, A, c, ?_, ?_, ?_⟩, grown_cell (blk_lt hB.out) 0 (.int .i64 k)⟩
    · exact hR.out.bel.trans (grown_bel (grown_cell (blk_lt hB.out) 0 (.int .i64 k)) hR.out.base hR.out.bel.size)
    · have := blk_set hB.out 0 (.int .i64 k)
      unfold failR
      rw [if_pos he]
      simpa using this
    · unfold failR
      rw [if_pos he]
      exact hc
    · unfold failR
      rw [if_pos he]
      exact hC
  · have hn : (s.e == 0) = false := by simp [he]
    have hn2 : (s.e = 0) = False := eq_false he
    go_enter Tryd.func58, Tryd.ntmps58
    go_wp2
    go_end0
    have e1 : failR s k = s := by unfold failR; rw [if_neg he]
    rw [e1]
    exact ⟨⟨_, rfl⟩, hR.out, grown_refl _ _⟩
set_option maxHeartbeats 1000000 in
set_option maxRecDepth 100000 in
theorem byte_calls (w0 W : World) (g : Nat) (s : RS) (h : Rd w0 W g s) (hf : Fits s.l.length) :
    Calls Tryd.prog 56 #[.pointer (some ⟨g, 0, none⟩)] W fun e w' => e = .returned (.int .u8 (byteR s).1) ∧ Rd w0 w' g (byteR s).2 ∧ W.grownBy w' (some g) := by
  have hR := Aside0.mk h
  obtain ⟨A, c, hb, hc, hC⟩ := h.at_
  have h0 := (blk_cell hb 0).trans rfl
  have h1 := (blk_cell hb 1).trans rfl
  have hf1 := blk_frozen hb 1
  have hB := Aside0.mk hb
  clear h hb
  by_cases he : s.e = 0
  · rw [he] at h0
    obtain ⟨e, l, lim⟩ := s
    cases l with
    | nil =>
      dsimp only [List.length_nil] at *
      have hfl := Aside0.mk (fail_calls w0 W g _ hR.out 10)
      go_enter Tryd.func56, Tryd.ntmps56
      go_wp2_with (first | ((with_reducible refine gate_callee (f := 58) rfl ?_); refine goesL_ (some 23) rfl rfl Tryd.func58 (by kernel_rfl) rfl #[.pointer (some ⟨g, 0, none⟩), .int .i64 10] rfl (by (try simp only [List.map_toArray, List.map_cons, List.map_nil]); first | done | rfl) ?_; refine hfl.out.mono ?_; rintro e w1 ⟨⟨u, rfl⟩, HR1, G1⟩; refine ⟨_, rfl, ?_⟩; (try dsimp only)))
      go_ret
      have e1 : byteR ⟨e, [], lim⟩ = (0, failR ⟨e, [], lim⟩ 10) := by unfold byteR failR; rw [if_pos he, if_pos he]
      rw [e1]
      exact ⟨rfl, HR1, G1⟩
    | cons b t =>
      dsimp only at *
      have hC0 := hC
      obtain ⟨ad, ee, hx⟩ := Kd.at_int hC0 0 (by omega) (by simp)
      subst ee
      have hx2 := (hR.out.bel.cell (World.block_lt_of_cell? w0 _ hx)).trans hx
      have hC1 := Aside0.mk (Kd.C_drop (m := 1) hC (by simp) hc)
      have hn1 : ((b :: t).length : Int) < 140737488355328 := by unfold Fits at hf; omega
      have hn0 : (0 < ((b :: t).length : Int)) = True := eq_true (by simp)
      have hn2 : (((b :: t).length : Int) == 0) = false := by simp; omega
      have hn3 : (1 ≤ ((b :: t).length : Int)) = True := eq_true (by simp; omega)
      obtain ⟨n, hn⟩ : ∃ n, (b :: t).length = n := ⟨_, rfl⟩
      rw [hn] at hn0 hn1 hn2 hn3 h1 hc
      have hN := Aside0.mk hn
      have he' := Aside0.mk he
      clear hn hf hx hC0 hC he
      have hx3 : W.cell? ad = some (.int .u8 b) := by
        have hx4 : W.cell? (ad.add 0) = some (.int .u8 b) := hx2
        rwa [Addr.add_zero'] at hx4
      have hnt : n = t.length + 1 := by rw [← hN.out]; rfl
      have hm0 : (0 < n) = True := eq_true (by omega)
      have hm1 : (1 ≤ n) = True := eq_true (by omega)
      have hnt' := Aside0.mk hnt
      clear hnt
      clear hx2
      go_enter Tryd.func56, Tryd.ntmps56
      repeat go_step
      go_ret
      have e1 : byteR ⟨e, b :: t, lim⟩ = (b, ⟨e, t, lim⟩) := by unfold byteR; rw [if_pos he'.out]
      rw [e1]
      have ht : n - 1 = t.length := by have := hnt'.out; omega
      rw [ht]
      refine ⟨rfl, ⟨hR.out.base, hR.out.bel.trans (grown_bel (grown_cell (blk_lt hB.out) 1 _) hR.out.base hR.out.bel.size), _, c - 1, ?_, ?_, hC1.out⟩, grown_cell (blk_lt hB.out) 1 _⟩
      · have h3 : (if c = 1 then some ad else Option.map (fun x => x.add (1 * (Kd.int .u8).sz)) (some ad)) = (if c = 1 then some ad else some ⟨ad.block, ad.off + 1, none⟩) := rfl
        rw [h3]
        have h2 := blk_set hB.out 1 (.slice (if c = 1 then some ad else some ⟨ad.block, ad.off + 1, none⟩) t.length (c - 1))
        simpa using h2
      · have := hnt'.out
        show t.length ≤ c - 1
        omega
  · have hn : (s.e == 0) = false := by simp [he]
    have hn2 : (s.e = 0) = False := eq_false he
    go_enter Tryd.func56, Tryd.ntmps56
    go_wp2
    go_ret
    have e1 : byteR s = (0, s) := by unfold byteR; rw [if_neg he]
    rw [e1]
    exact ⟨rfl, hR.out, grown_refl _ _⟩
theorem byteR_len (s : RS) : (byteR s).2.l.length ≤ s.l.length := by
  unfold byteR
  split
  · split <;> simp_all
  · exact Nat.le_refl _
theorem byteR_bys {s : RS} (h : Bys s.l) : Bys (byteR s).2.l ∧ 0 ≤ (byteR s).1 ∧ (byteR s).1 < 256 := by
  unfold byteR
  split
  · split
    · exact ⟨h, Int.le_refl 0, (by decide : (0 : Int) < 256)⟩
    · rename_i hl
      rw [hl] at h
      exact ⟨fun x hx => h x (List.mem_cons_of_mem _ hx), h _ (List.mem_cons_self)⟩
  · exact ⟨h, Int.le_refl 0, (by decide : (0 : Int) < 256)⟩
def uR : Nat → Nat → RS → Int × RS
  | 0, _, s => (0, s)
  | f + 1, n, s => if (byteR s).2.e ≠ 0 then (0, (byteR s).2)
    else if (f = 0 ∧ 1 < (byteR s).1) ∨ (f < 9 ∧ (byteR s).1 = 0) then (0, failR (byteR s).2 11)
    else if (byteR s).1 < 128 then ((n + ((byteR s).1.toNat % 128) * 2 ^ (7 * (9 - f)) : Nat), (byteR s).2)
    else uR f (n + ((byteR s).1.toNat % 128) * 2 ^ (7 * (9 - f))) (byteR s).2
theorem uR_err {b : Int} {s s2 : RS} (h : byteR s = (b, s2)) (he : s2.e ≠ 0) (f n : Nat) : uR (f + 1) n s = (0, s2) := by
  simp only [uR, h]
  rw [if_pos he]
theorem uR_bad {b : Int} {s s2 : RS} (h : byteR s = (b, s2)) (he : s2.e = 0) (f n : Nat) (hb : (f = 0 ∧ 1 < b) ∨ (f < 9 ∧ b = 0)) : uR (f + 1) n s = (0, failR s2 11) := by
  simp only [uR, h]
  rw [if_neg (by simp [he]), if_pos hb]
theorem uR_end {b : Int} {s s2 : RS} (h : byteR s = (b, s2)) (he : s2.e = 0) (f n : Nat) (hb : ¬ ((f = 0 ∧ 1 < b) ∨ (f < 9 ∧ b = 0))) (hl : b < 128) : uR (f + 1) n s = (((n + (b.toNat % 128) * 2 ^ (7 * (9 - f)) : Nat) : Int), s2) := by
  simp only [uR, h]
  rw [if_neg (by simp [he]), if_neg hb, if_pos hl]
theorem uR_go {b : Int} {s s2 : RS} (h : byteR s = (b, s2)) (he : s2.e = 0) (f n : Nat) (hb : ¬ ((f = 0 ∧ 1 < b) ∨ (f < 9 ∧ b = 0))) (hl : ¬ b < 128) : uR (f + 1) n s = uR f (n + (b.toNat % 128) * 2 ^ (7 * (9 - f))) s2 := by
  simp only [uR, h]
  rw [if_neg (by simp [he]), if_neg hb, if_neg hl]
theorem or_shift (n b i : Nat) (hn : n < 2 ^ (7 * i)) (hb : b < 256) (hi : i < 9 ∨ (i = 9 ∧ b ≤ 1)) :
    bits .or .u64 (n : Int) (IntKind.u64.wrap (IntKind.u64.wrap (bits .and .u8 (b : Int) 127) * 2 ^ (7 * i))) = ((n + (b % 128) * 2 ^ (7 * i) : Nat) : Int) ∧ n + (b % 128) * 2 ^ (7 * i) < 18446744073709551616 := by
  have h1 : bits .and .u8 (b : Int) 127 = ((b % 128 : Nat) : Int) := by
    rw [show (127 : Int) = ((127 : Nat) : Int) from rfl, u8_and_nat b 127 hb (by omega), nat_mask7]
  have hp : (2 : Nat) ^ (7 * i) ≤ 9223372036854775808 := Nat.le_trans (Nat.pow_le_pow_right (by decide) (by omega : 7 * i ≤ 63)) (by decide)
  have h0 : 0 < (2 : Nat) ^ (7 * i) := Nat.pow_pos (by decide)
  have hlt : (b % 128) * 2 ^ (7 * i) + 2 ^ (7 * i) ≤ 18446744073709551616 := by
    rcases hi with hi | ⟨h9, hb1⟩
    · have h7 : (2 : Nat) ^ (7 * i) ≤ 72057594037927936 := Nat.le_trans (Nat.pow_le_pow_right (by decide) (by omega : 7 * i ≤ 56)) (by decide)
      have h8 : (b % 128) * 2 ^ (7 * i) ≤ 127 * 2 ^ (7 * i) := Nat.mul_le_mul_right _ (by omega)
      omega
    · have h8 : (b % 128) * 2 ^ (7 * i) ≤ 1 * 2 ^ (7 * i) := Nat.mul_le_mul_right _ (by omega)
      rw [Nat.one_mul] at h8
      omega
  have e1 : IntKind.u64.wrap (bits .and .u8 (b : Int) 127) = ((b % 128 : Nat) : Int) := by
    rw [h1, IntKind.wrap_u64]
    omega
  have e2 : IntKind.u64.wrap (((b % 128 : Nat) : Int) * 2 ^ (7 * i)) = (((b % 128) * 2 ^ (7 * i) : Nat) : Int) := by
    rw [IntKind.wrap_u64]
    have : ((b % 128 : Nat) : Int) * 2 ^ (7 * i) = (((b % 128) * 2 ^ (7 * i) : Nat) : Int) := by simp
    rw [this]
    omega
  rw [e1, e2, u64_or_nat n _ (by omega) (by omega)]
  refine ⟨?_, by omega⟩
  congr 1
  rw [Nat.or_comm, nat_join (7 * i) _ n (Nat.mul_mod_left _ _) hn, Nat.add_comm]
set_option maxHeartbeats 1000000 in
set_option maxRecDepth 100000 in
theorem ruint_calls (w0 W : World) (g : Nat) (s : RS) (h : Rd w0 W g s) (hf : Fits s.l.length) (hb : Bys s.l) :
    Calls Tryd.prog 37 #[.pointer (some ⟨g, 0, none⟩)] W fun e w' => e = .returned (.int .u64 (uR 10 0 s).1) ∧ Rd w0 w' g (uR 10 0 s).2 ∧ W.grownBy w' (some g) := by
  have hR := Aside0.mk h
  have hF := Aside0.mk hf
  have hBy := Aside0.mk hb
  clear h hf hb
  go_enter Tryd.func37, Tryd.ntmps37
  go_wp2
  go_loopg [3, 4] 10 (fun kq v3 v4 w' => ∃ (n : Nat) (i : Int) (s1 : RS), v3 = .int .u64 n ∧ v4 = .int .i64 i ∧ Aside0 ((kq : Int) + i = 10 ∧ 0 ≤ i ∧ i ≤ 10 ∧ n < 2 ^ (7 * i.toNat)) ∧ Aside0 (uR kq n s1 = uR 10 0 s) ∧ Aside0 (Rd w0 w' g s1) ∧ Aside0 (Fits s1.l.length ∧ Bys s1.l) ∧ Aside0 (W.grownBy w' (some g)))
  case atStart => exact ⟨0, 0, s, rfl, rfl, ⟨by omega, by omega, by omega, by decide⟩, ⟨rfl⟩, hR, ⟨hF.out, hBy.out⟩, ⟨grown_refl _ _⟩⟩
  case round =>
    clear hR hF hBy
    obtain ⟨n, i, s1, rfl, rfl, hi, hu, hR, hB, hG⟩ := hrel
    obtain ⟨b, s2, hbs⟩ : ∃ b s2, byteR s1 = (b, s2) := ⟨_, _, rfl⟩
    by_cases q0 : i < 10
    · have c0 : decide (i < 10) = true := decide_eq_true q0
      have p0 : 0 ≤ i := hi.out.2.1
      have hby := byte_calls w0 wr g s1 hR.out hB.out.1
      have hbb := byteR_bys hB.out.2
      have hbl := byteR_len s1
      rw [hbs] at hby hbb hbl
      have hbs := Aside0.mk hbs
      have hby' := Aside0.mk hby
      have hbb' := Aside0.mk hbb
      have hbl' := Aside0.mk hbl
      clear hby hbb hbl
      dsimp only at *
      obtain ⟨f, rfl⟩ : ∃ f, gk = f + 1 := ⟨gk - 1, by have := hi.out; omega⟩
      have hfi : 9 - f = i.toNat := by have := hi.out; omega
      have hfi' := Aside0.mk hfi
      clear hfi
      by_cases he : s2.e = 0
      · have he' := Aside0.mk he
        clear he
        obtain ⟨n2, hor⟩ : ∃ n2 : Int, bits .or .u64 (n : Int) (IntKind.u64.wrap (IntKind.u64.wrap (bits .and .u8 b 127) * 2 ^ (7 * i).toNat)) = n2 := ⟨_, rfl⟩
        have hor2 : Aside0 (i < 9 ∨ (i = 9 ∧ b ≤ 1) → n2 = ((n + (b.toNat % 128) * 2 ^ (7 * (9 - f)) : Nat) : Int) ∧ n + (b.toNat % 128) * 2 ^ (7 * (9 - f)) < 18446744073709551616) := by
          refine ⟨fun hh => ?_⟩
          have hbn : ((b.toNat : Nat) : Int) = b := Int.toNat_of_nonneg hbb'.out.2.1
          have hin : (7 * i).toNat = 7 * i.toNat := by have := hi.out; omega
          have h3 := or_shift n b.toNat i.toNat hi.out.2.2.2 (by have := hbb'.out; omega) (by have := hi.out; omega)
          rw [hbn, ← hin, hor, hin] at h3
          rw [hfi'.out]
          exact h3
        by_cases d9 : i = 9
        · have c9 : (i == 9) = true := by simp [d9]
          have ci : decide (0 < i) = true := decide_eq_true (by omega)
          have d9' := Aside0.mk d9
          by_cases d1 : 1 < b
          · have c1 : decide (1 < b) = true := decide_eq_true d1
            clear d9
            go_wp2_with (first | ((with_reducible refine gate_callee (f := 56) rfl ?_); refine goesL_ (some 11) rfl rfl Tryd.func56 (by kernel_rfl) rfl #[.pointer (some ⟨g, 0, none⟩)] rfl (by (try simp only [List.map_toArray, List.map_cons, List.map_nil]); first | done | rfl) ?_; refine hby'.out.mono ?_; rintro e w1 ⟨rfl, HR1, G1⟩; refine ⟨_, rfl, ?_⟩; have HR1' := Aside0.mk HR1; have G1' := Aside0.mk G1; clear HR1 G1; (try dsimp only)) | ((with_reducible refine gate_callee (f := 57) rfl ?_); refine goesL_ (some 13) rfl rfl Tryd.func57 (by kernel_rfl) rfl #[.pointer (some ⟨g, 0, none⟩)] rfl (by (try simp only [List.map_toArray, List.map_cons, List.map_nil]); first | done | rfl) ?_; refine (err_calls w0 w1 g s2 HR1'.out).mono ?_; rintro e w2 ⟨rfl, rfl⟩; refine ⟨_, rfl, ?_⟩; (try rw [he'.out]); (try dsimp only)) | ((with_reducible refine gate_callee (f := 58) rfl ?_); refine goesL_ (some 39) rfl rfl Tryd.func58 (by kernel_rfl) rfl #[.pointer (some ⟨g, 0, none⟩), .int .i64 11] rfl (by (try simp only [List.map_toArray, List.map_cons, List.map_nil]); first | done | rfl) ?_; refine (fail_calls w0 w1 g s2 HR1'.out 11).mono ?_; rintro e w2 ⟨⟨u, rfl⟩, HR2, G2⟩; refine ⟨_, rfl, ?_⟩; (try dsimp only)))
            go_ret
            rw [← hu.out, uR_bad hbs.out he'.out f n (by have := hi.out; have := d9'.out; omega)]
            exact ⟨rfl, HR2, grown_trans (grown_trans hG.out G1'.out) G2⟩
          · have c1 : decide (1 < b) = false := decide_eq_false d1
            by_cases d0 : b = 0
            · have c0b : (b == 0) = true := by simp [d0]
              have d0' := Aside0.mk d0
              clear d0 d9
              go_wp2_with (first | ((with_reducible refine gate_callee (f := 56) rfl ?_); refine goesL_ (some 11) rfl rfl Tryd.func56 (by kernel_rfl) rfl #[.pointer (some ⟨g, 0, none⟩)] rfl (by (try simp only [List.map_toArray, List.map_cons, List.map_nil]); first | done | rfl) ?_; refine hby'.out.mono ?_; rintro e w1 ⟨rfl, HR1, G1⟩; refine ⟨_, rfl, ?_⟩; have HR1' := Aside0.mk HR1; have G1' := Aside0.mk G1; clear HR1 G1; (try dsimp only)) | ((with_reducible refine gate_callee (f := 57) rfl ?_); refine goesL_ (some 13) rfl rfl Tryd.func57 (by kernel_rfl) rfl #[.pointer (some ⟨g, 0, none⟩)] rfl (by (try simp only [List.map_toArray, List.map_cons, List.map_nil]); first | done | rfl) ?_; refine (err_calls w0 w1 g s2 HR1'.out).mono ?_; rintro e w2 ⟨rfl, rfl⟩; refine ⟨_, rfl, ?_⟩; (try rw [he'.out]); (try dsimp only)) | ((with_reducible refine gate_callee (f := 58) rfl ?_); refine goesL_ (some 39) rfl rfl Tryd.func58 (by kernel_rfl) rfl #[.pointer (some ⟨g, 0, none⟩), .int .i64 11] rfl (by (try simp only [List.map_toArray, List.map_cons, List.map_nil]); first | done | rfl) ?_; refine (fail_calls w0 w1 g s2 HR1'.out 11).mono ?_; rintro e w2 ⟨⟨u, rfl⟩, HR2, G2⟩; refine ⟨_, rfl, ?_⟩; (try dsimp only)))
              go_ret
              rw [← hu.out, uR_bad hbs.out he'.out f n (by have := hi.out; have := d9'.out; have := d0'.out; omega)]
              exact ⟨rfl, HR2, grown_trans (grown_trans hG.out G1'.out) G2⟩
            · have c0b : (b == 0) = false := by simp [d0]
              have cl : decide (b < 128) = true := decide_eq_true (by omega)
              clear d9
              go_wp2_with (first | ((with_reducible refine gate_callee (f := 56) rfl ?_); refine goesL_ (some 11) rfl rfl Tryd.func56 (by kernel_rfl) rfl #[.pointer (some ⟨g, 0, none⟩)] rfl (by (try simp only [List.map_toArray, List.map_cons, List.map_nil]); first | done | rfl) ?_; refine hby'.out.mono ?_; rintro e w1 ⟨rfl, HR1, G1⟩; refine ⟨_, rfl, ?_⟩; have HR1' := Aside0.mk HR1; have G1' := Aside0.mk G1; clear HR1 G1; (try dsimp only)) | ((with_reducible refine gate_callee (f := 57) rfl ?_); refine goesL_ (some 13) rfl rfl Tryd.func57 (by kernel_rfl) rfl #[.pointer (some ⟨g, 0, none⟩)] rfl (by (try simp only [List.map_toArray, List.map_cons, List.map_nil]); first | done | rfl) ?_; refine (err_calls w0 w1 g s2 HR1'.out).mono ?_; rintro e w2 ⟨rfl, rfl⟩; refine ⟨_, rfl, ?_⟩; (try rw [he'.out]); (try dsimp only)))
              go_ret
              rw [← hu.out, uR_end hbs.out he'.out f n (by have := hi.out; have := d9'.out; have := hbb'.out; omega) (by have := hi.out; have := d9'.out; have := hbb'.out; omega)]
              exact ⟨by rw [← (hor2.out (by have := hi.out; have := d9'.out; have := hbb'.out; omega)).1]; rfl, HR1'.out, grown_trans hG.out G1'.out⟩
        · have c9 : (i == 9) = false := by simp [d9]
          by_cases dz : 0 < i
          · have ci : decide (0 < i) = true := decide_eq_true dz
            by_cases d0 : b = 0
            · have c0b : (b == 0) = true := by simp [d0]
              have d0' := Aside0.mk d0
              clear d0
              go_wp2_with (first | ((with_reducible refine gate_callee (f := 56) rfl ?_); refine goesL_ (some 11) rfl rfl Tryd.func56 (by kernel_rfl) rfl #[.pointer (some ⟨g, 0, none⟩)] rfl (by (try simp only [List.map_toArray, List.map_cons, List.map_nil]); first | done | rfl) ?_; refine hby'.out.mono ?_; rintro e w1 ⟨rfl, HR1, G1⟩; refine ⟨_, rfl, ?_⟩; have HR1' := Aside0.mk HR1; have G1' := Aside0.mk G1; clear HR1 G1; (try dsimp only)) | ((with_reducible refine gate_callee (f := 57) rfl ?_); refine goesL_ (some 13) rfl rfl Tryd.func57 (by kernel_rfl) rfl #[.pointer (some ⟨g, 0, none⟩)] rfl (by (try simp only [List.map_toArray, List.map_cons, List.map_nil]); first | done | rfl) ?_; refine (err_calls w0 w1 g s2 HR1'.out).mono ?_; rintro e w2 ⟨rfl, rfl⟩; refine ⟨_, rfl, ?_⟩; (try rw [he'.out]); (try dsimp only)) | ((with_reducible refine gate_callee (f := 58) rfl ?_); refine goesL_ (some 39) rfl rfl Tryd.func58 (by kernel_rfl) rfl #[.pointer (some ⟨g, 0, none⟩), .int .i64 11] rfl (by (try simp only [List.map_toArray, List.map_cons, List.map_nil]); first | done | rfl) ?_; refine (fail_calls w0 w1 g s2 HR1'.out 11).mono ?_; rintro e w2 ⟨⟨u, rfl⟩, HR2, G2⟩; refine ⟨_, rfl, ?_⟩; (try dsimp only)))
              go_ret
              rw [← hu.out, uR_bad hbs.out he'.out f n (by have := hi.out; have := d0'.out; omega)]
              exact ⟨rfl, HR2, grown_trans (grown_trans hG.out G1'.out) G2⟩
            · have c0b : (b == 0) = false := by simp [d0]
              by_cases dl : b < 128
              · have cl : decide (b < 128) = true := decide_eq_true dl
                go_wp2_with (first | ((with_reducible refine gate_callee (f := 56) rfl ?_); refine goesL_ (some 11) rfl rfl Tryd.func56 (by kernel_rfl) rfl #[.pointer (some ⟨g, 0, none⟩)] rfl (by (try simp only [List.map_toArray, List.map_cons, List.map_nil]); first | done | rfl) ?_; refine hby'.out.mono ?_; rintro e w1 ⟨rfl, HR1, G1⟩; refine ⟨_, rfl, ?_⟩; have HR1' := Aside0.mk HR1; have G1' := Aside0.mk G1; clear HR1 G1; (try dsimp only)) | ((with_reducible refine gate_callee (f := 57) rfl ?_); refine goesL_ (some 13) rfl rfl Tryd.func57 (by kernel_rfl) rfl #[.pointer (some ⟨g, 0, none⟩)] rfl (by (try simp only [List.map_toArray, List.map_cons, List.map_nil]); first | done | rfl) ?_; refine (err_calls w0 w1 g s2 HR1'.out).mono ?_; rintro e w2 ⟨rfl, rfl⟩; refine ⟨_, rfl, ?_⟩; (try rw [he'.out]); (try dsimp only)))
                go_ret
                rw [← hu.out, uR_end hbs.out he'.out f n (by have := hi.out; omega) (by omega)]
                exact ⟨by rw [← (hor2.out (by omega)).1]; rfl, HR1'.out, grown_trans hG.out G1'.out⟩
              · have cl : decide (b < 128) = false := decide_eq_false dl
                go_wp2_with (first | ((with_reducible refine gate_callee (f := 56) rfl ?_); refine goesL_ (some 11) rfl rfl Tryd.func56 (by kernel_rfl) rfl #[.pointer (some ⟨g, 0, none⟩)] rfl (by (try simp only [List.map_toArray, List.map_cons, List.map_nil]); first | done | rfl) ?_; refine hby'.out.mono ?_; rintro e w1 ⟨rfl, HR1, G1⟩; refine ⟨_, rfl, ?_⟩; have HR1' := Aside0.mk HR1; have G1' := Aside0.mk G1; clear HR1 G1; (try dsimp only)) | ((with_reducible refine gate_callee (f := 57) rfl ?_); refine goesL_ (some 13) rfl rfl Tryd.func57 (by kernel_rfl) rfl #[.pointer (some ⟨g, 0, none⟩)] rfl (by (try simp only [List.map_toArray, List.map_cons, List.map_nil]); first | done | rfl) ?_; refine (err_calls w0 w1 g s2 HR1'.out).mono ?_; rintro e w2 ⟨rfl, rfl⟩; refine ⟨_, rfl, ?_⟩; (try rw [he'.out]); (try dsimp only)))
                go_roundg f
                case measure => omega
                case rel =>
                  refine ⟨n + (b.toNat % 128) * 2 ^ (7 * (9 - f)), i + 1, s2, by rw [← (hor2.out (by omega)).1], rfl, ⟨by have := hi.out; omega, by omega, by omega, ?_⟩, ⟨?_⟩, HR1', ⟨?_, hbb'.out.1⟩, ⟨grown_trans hG.out G1'.out⟩⟩
                  · have := hi.out.2.2.2
                    rw [hfi'.out, show (i + 1).toNat = i.toNat + 1 from by omega, show 7 * (i.toNat + 1) = 7 * i.toNat + 7 from by omega, Nat.pow_add]
                    have h8 : (b.toNat % 128) * 2 ^ (7 * i.toNat) ≤ 127 * 2 ^ (7 * i.toNat) := Nat.mul_le_mul_right _ (by omega)
                    omega
                  · rw [← hu.out, uR_go hbs.out he'.out f n (by have := hi.out; omega) (by omega)]
                  · have := hbl'.out
                    have := hB.out.1
                    unfold Fits at *
                    omega
          · have ci : decide (0 < i) = false := decide_eq_false dz
            by_cases dl : b < 128
            · have cl : decide (b < 128) = true := decide_eq_true dl
              go_wp2_with (first | ((with_reducible refine gate_callee (f := 56) rfl ?_); refine goesL_ (some 11) rfl rfl Tryd.func56 (by kernel_rfl) rfl #[.pointer (some ⟨g, 0, none⟩)] rfl (by (try simp only [List.map_toArray, List.map_cons, List.map_nil]); first | done | rfl) ?_; refine hby'.out.mono ?_; rintro e w1 ⟨rfl, HR1, G1⟩; refine ⟨_, rfl, ?_⟩; have HR1' := Aside0.mk HR1; have G1' := Aside0.mk G1; clear HR1 G1; (try dsimp only)) | ((with_reducible refine gate_callee (f := 57) rfl ?_); refine goesL_ (some 13) rfl rfl Tryd.func57 (by kernel_rfl) rfl #[.pointer (some ⟨g, 0, none⟩)] rfl (by (try simp only [List.map_toArray, List.map_cons, List.map_nil]); first | done | rfl) ?_; refine (err_calls w0 w1 g s2 HR1'.out).mono ?_; rintro e w2 ⟨rfl, rfl⟩; refine ⟨_, rfl, ?_⟩; (try rw [he'.out]); (try dsimp only)))
              go_ret
              rw [← hu.out, uR_end hbs.out he'.out f n (by have := hi.out; omega) (by omega)]
              exact ⟨by rw [← (hor2.out (by omega)).1]; rfl, HR1'.out, grown_trans hG.out G1'.out⟩
            · have cl : decide (b < 128) = false := decide_eq_false dl
              go_wp2_with (first | ((with_reducible refine gate_callee (f := 56) rfl ?_); refine goesL_ (some 11) rfl rfl Tryd.func56 (by kernel_rfl) rfl #[.pointer (some ⟨g, 0, none⟩)] rfl (by (try simp only [List.map_toArray, List.map_cons, List.map_nil]); first | done | rfl) ?_; refine hby'.out.mono ?_; rintro e w1 ⟨rfl, HR1, G1⟩; refine ⟨_, rfl, ?_⟩; have HR1' := Aside0.mk HR1; have G1' := Aside0.mk G1; clear HR1 G1; (try dsimp only)) | ((with_reducible refine gate_callee (f := 57) rfl ?_); refine goesL_ (some 13) rfl rfl Tryd.func57 (by kernel_rfl) rfl #[.pointer (some ⟨g, 0, none⟩)] rfl (by (try simp only [List.map_toArray, List.map_cons, List.map_nil]); first | done | rfl) ?_; refine (err_calls w0 w1 g s2 HR1'.out).mono ?_; rintro e w2 ⟨rfl, rfl⟩; refine ⟨_, rfl, ?_⟩; (try rw [he'.out]); (try dsimp only)))
              go_roundg f
              case measure => omega
              case rel =>
                refine ⟨n + (b.toNat % 128) * 2 ^ (7 * (9 - f)), i + 1, s2, by rw [← (hor2.out (by omega)).1], rfl, ⟨by have := hi.out; omega, by omega, by omega, ?_⟩, ⟨?_⟩, HR1', ⟨?_, hbb'.out.1⟩, ⟨grown_trans hG.out G1'.out⟩⟩
                · have := hi.out.2.2.2
                  rw [hfi'.out, show (i + 1).toNat = i.toNat + 1 from by omega, show 7 * (i.toNat + 1) = 7 * i.toNat + 7 from by omega, Nat.pow_add]
                  have h8 : (b.toNat % 128) * 2 ^ (7 * i.toNat) ≤ 127 * 2 ^ (7 * i.toNat) := Nat.mul_le_mul_right _ (by omega)
                  omega
                · rw [← hu.out, uR_go hbs.out he'.out f n (by have := hi.out; omega) (by omega)]
                · have := hbl'.out
                  have := hB.out.1
                  unfold Fits at *
                  omega
      · have hn : (s2.e != 0) = true := by simp [he]
        have hn2 : (s2.e = 0) = False := eq_false he
        go_wp2_with (first | ((with_reducible refine gate_callee (f := 56) rfl ?_); refine goesL_ (some 11) rfl rfl Tryd.func56 (by kernel_rfl) rfl #[.pointer (some ⟨g, 0, none⟩)] rfl (by (try simp only [List.map_toArray, List.map_cons, List.map_nil]); first | done | rfl) ?_; refine hby'.out.mono ?_; rintro e w1 ⟨rfl, HR1, G1⟩; refine ⟨_, rfl, ?_⟩; have HR1' := Aside0.mk HR1; have G1' := Aside0.mk G1; clear HR1 G1; (try dsimp only)) | ((with_reducible refine gate_callee (f := 57) rfl ?_); refine goesL_ (some 13) rfl rfl Tryd.func57 (by kernel_rfl) rfl #[.pointer (some ⟨g, 0, none⟩)] rfl (by (try simp only [List.map_toArray, List.map_cons, List.map_nil]); first | done | rfl) ?_; refine (err_calls w0 w1 g s2 HR1'.out).mono ?_; rintro e w2 ⟨rfl, rfl⟩; refine ⟨_, rfl, ?_⟩; (try dsimp only)))
        go_ret
        rw [← hu.out, uR_err hbs.out he]
        exact ⟨rfl, HR1'.out, grown_trans hG.out G1'.out⟩
    · have c0 : decide (i < 10) = false := decide_eq_false q0
      have hk0 : gk = 0 := by have := hi.out; omega
      subst hk0
      go_wp2
      go_ret
      rw [← hu.out]
      exact ⟨rfl, hR.out, hG.out⟩
end Go.Proofs.YtfkfboigkpofkaaDoor.M
end
section
namespace Go.Proofs.YtfkfboigkpofkaaDoor.M
open Go.RowKit Go.Proofs.YtfkfboigkpofkaaDoorW.PrintWords Go.Proofs.YtfkfboigkpofkaaDoorW.PrintLast Go.Proofs.YtfkfboigkpofkaaDoorW.PrintMore Go.Proofs.YtfkfboigkpofkaaDoor.PMsgPuts
set_option linter.unusedVariables false
set_option linter.unusedSimpArgs false
structure Less (s s' : RS) : Prop where
  len : s'.l.length ≤ s.l.length
  bys : Bys s.l → Bys s'.l
  lim : s'.lim = s.lim
  err : s.e ≠ 0 → s' = s
theorem Less.refl (s : RS) : Less s s := ⟨Nat.le_refl _, id, rfl, fun _ => rfl⟩
theorem Less.trans {a b c : RS} (h : Less a b) (k : Less b c) : Less a c := ⟨Nat.le_trans k.len h.len, k.bys ∘ h.bys, k.lim.trans h.lim, fun e => by have := h.err e; subst this; exact k.err e⟩
theorem less_fail (s : RS) (c : Int) : Less s (failR s c) := by
  unfold failR
  split
  · exact ⟨Nat.le_refl _, id, rfl, fun h => absurd (by assumption) h⟩
  · exact Less.refl _
theorem less_byte (s : RS) : Less s (byteR s).2 := by
  refine ⟨byteR_len s, fun h => (byteR_bys h).1, ?_, ?_⟩
  · unfold byteR
    split
    · split <;> rfl
    · rfl
  · intro h
    unfold byteR
    rw [if_neg h]
theorem less_uR : ∀ (f n : Nat) (s : RS), Less s (uR f n s).2
  | 0, _, s => Less.refl s
  | f + 1, n, s => by
    unfold uR
    split
    · exact less_byte s
    · split
      · exact (less_byte s).trans (less_fail _ _)
      · split
        · exact less_byte s
        · exact (less_byte s).trans (less_uR f _ _)
theorem uR_U : ∀ (f n : Nat) (s : RS), Bys s.l → f ≤ 10 → n < 2 ^ (7 * (10 - f)) → U (uR f n s).1
  | 0, _, s, _, _, _ => ⟨Int.le_refl 0, (by decide : (0 : Int) < 18446744073709551616)⟩
  | f + 1, n, s, hb, hf, hn => by
    have h1 := (byteR_bys hb)
    unfold uR
    split
    · exact ⟨Int.le_refl 0, (by decide : (0 : Int) < 18446744073709551616)⟩
    · split
      · exact ⟨Int.le_refl 0, (by decide : (0 : Int) < 18446744073709551616)⟩
      · rename_i hbad
        have e9 : 10 - (f + 1) = 9 - f := by omega
        rw [e9] at hn
        split
        · have h2 := or_shift n (byteR s).1.toNat (9 - f) hn (by omega) (by omega)
          exact ⟨Int.natCast_nonneg _, by have := h2.2; show ((_ : Nat) : Int) < _; omega⟩
        · refine uR_U f _ _ h1.1 (by omega) ?_
          rw [show 10 - f = (9 - f) + 1 from by omega, show 7 * (9 - f + 1) = 7 * (9 - f) + 7 from by omega, Nat.pow_add]
          have h8 : ((byteR s).1.toNat % 128) * 2 ^ (7 * (9 - f)) ≤ 127 * 2 ^ (7 * (9 - f)) := Nat.mul_le_mul_right _ (by omega)
          omega
def nR (s : RS) : Int × RS := uR 10 0 s
theorem less_nR (s : RS) : Less s (nR s).2 := less_uR _ _ _
theorem nR_U {s : RS} (h : Bys s.l) : U (nR s).1 := uR_U 10 0 s h (by decide) (by decide)
def textR (s : RS) : ByteArray × RS :=
  if (nR s).2.e ≠ 0 then (⟨#[]⟩, (nR s).2)
  else if max (nR s).2.lim 0 < (nR s).1 then (⟨#[]⟩, failR (nR s).2 11)
  else if ((nR s).2.l.length : Int) < (nR s).1 then (⟨#[]⟩, failR (nR s).2 10)
  else (strOfNums ((nR s).2.l.take (nR s).1.toNat), { (nR s).2 with l := (nR s).2.l.drop (nR s).1.toNat })
theorem less_text (s : RS) : Less s (textR s).2 := by
  unfold textR
  split
  · exact less_nR s
  · rename_i he
    split
    · exact (less_nR s).trans (less_fail _ _)
    · split
      · exact (less_nR s).trans (less_fail _ _)
      · refine (less_nR s).trans ⟨by simp, fun h x hx => h x (List.mem_of_mem_drop hx), rfl, fun h => absurd h he⟩
theorem string_take {w0 W : World} {A : Option Addr} {l : List Int} {c : Nat} {n : Int} (hB : Below w0.heap.size w0 W) (hC : Kd.C (Kd.int .u8) w0 A l.length l) (h0 : 0 ≤ n) (h1 : n ≤ l.length) :
    (convert 27 9 (.slice A n.toNat c)).run Tryd.prog W = .ok (.string (strOfNums (l.take n.toNat))) W := by
  have h := Kd.C_take (m := n.toNat) (Kd.C_below hC hB) (by omega)
  have e : (l.take n.toNat).length = n.toNat := by simp; omega
  rw [e] at h
  exact Kd.C_string Tryd.underlying27 Tryd.underlying5 Tryd.underlying9 h
set_option maxHeartbeats 1000000 in
set_option maxRecDepth 100000 in
attribute [local go_sem] max2_int min2_int max_two min_two in
theorem rtext_calls (w0 W : World) (g : Nat) (s : RS) (h : Rd w0 W g s) (hf : Fits s.l.length) (hb : Bys s.l) (hlim : 0 ≤ s.lim ∧ s.lim < 9223372036854775808) :
    Calls Tryd.prog 69 #[.pointer (some ⟨g, 0, none⟩)] W fun e w' => e = .returned (.string (textR s).1) ∧ Rd w0 w' g (textR s).2 ∧ W.grownBy w' (some g) := by
  obtain ⟨n, s1, hns⟩ : ∃ n s1, nR s = (n, s1) := ⟨_, _, rfl⟩
  have hu : Aside0 (Calls Tryd.prog 37 #[.pointer (some ⟨g, 0, none⟩)] W fun e w' => e = .returned (.int .u64 n) ∧ Rd w0 w' g s1 ∧ W.grownBy w' (some g)) := by
    have := ruint_calls w0 W g s h hf hb
    rw [show uR 10 0 s = (n, s1) from hns] at this
    exact ⟨this⟩
  have hL := less_nR s
  have hU := nR_U hb
  rw [hns] at hL hU
  have hL' := Aside0.mk hL
  have hU' := Aside0.mk hU
  have hF := Aside0.mk hf
  have hlim' := Aside0.mk hlim
  have hlm : s1.lim = s.lim := hL.lim
  have hns' := Aside0.mk hns
  clear hns hL hU h hf hb hlim
  by_cases he : s1.e = 0
  · have he' := Aside0.mk he
    clear he
    have hl0 : 0 ≤ s1.lim := by have := hlim'.out; omega
    have hl1 : s1.lim < 9223372036854775808 := by have := hlim'.out; omega
    have hlen : (s1.l.length : Int) < 140737488355328 := by have := hF.out; have := hL'.out.len; dsimp only at this; unfold Fits at *; omega
    clear hlm
    by_cases d1 : s1.lim < n
    · have c1 : decide (s1.lim < n) = true := decide_eq_true d1
      have d1' := Aside0.mk d1
      clear d1
      go_enter Tryd.func69, Tryd.ntmps69
      go_wp2_with (first | ((with_reducible refine gate_callee (f := 37) rfl ?_); refine goesL_ (some 6) rfl rfl Tryd.func37 (by kernel_rfl) rfl #[.pointer (some ⟨g, 0, none⟩)] rfl (by (try simp only [List.map_toArray, List.map_cons, List.map_nil]); first | done | rfl) ?_; refine (hu.out).mono ?_; rintro e w1 ⟨rfl, HR1, G1⟩; refine ⟨_, rfl, ?_⟩; have HR1' := Aside0.mk HR1; have G1' := Aside0.mk G1; obtain ⟨A, c, hb, hc, hC⟩ := HR1.at_; have h0 := (blk_cell hb 0).trans rfl; have h1 := (blk_cell hb 1).trans rfl; have h2 := (blk_cell hb 2).trans rfl; have hf1 := blk_frozen hb 1; have hB := Aside0.mk hb; have hC' := Aside0.mk hC; clear hb hC HR1 G1; (try dsimp only)) | ((with_reducible refine gate_callee (f := 57) rfl ?_); refine goesL_ (some 9) rfl rfl Tryd.func57 (by kernel_rfl) rfl #[.pointer (some ⟨g, 0, none⟩)] rfl (by (try simp only [List.map_toArray, List.map_cons, List.map_nil]); first | done | rfl) ?_; refine (err_calls w0 w1 g s1 HR1'.out).mono ?_; rintro e w2 ⟨rfl, rfl⟩; refine ⟨_, rfl, ?_⟩; rw [he'.out]; (try dsimp only)) | ((with_reducible refine gate_callee (f := 58) rfl ?_); refine goesL_ (some 23) rfl rfl Tryd.func58 (by kernel_rfl) rfl #[.pointer (some ⟨g, 0, none⟩), .int .i64 11] rfl (by (try simp only [List.map_toArray, List.map_cons, List.map_nil]); first | done | rfl) ?_; refine (fail_calls w0 w1 g s1 HR1'.out 11).mono ?_; rintro e w2 ⟨⟨u, rfl⟩, HR2, G2⟩; refine ⟨_, rfl, ?_⟩; (try dsimp only)))
      go_ret
      have e1 : textR s = (⟨#[]⟩, failR s1 11) := by unfold textR; rw [hns'.out, if_neg (by simp [he'.out]), if_pos (by have := d1'.out; simp only; omega)]
      rw [e1]
      exact ⟨rfl, HR2, grown_trans G1'.out G2⟩
    · have c1 : decide (s1.lim < n) = false := decide_eq_false d1
      by_cases d2 : (s1.l.length : Int) < n
      · have c2 : decide ((s1.l.length : Int) < n) = true := decide_eq_true d2
        have d1' := Aside0.mk d1
        have d2' := Aside0.mk d2
        clear d1 d2
        go_enter Tryd.func69, Tryd.ntmps69
        go_wp2_with (first | ((with_reducible refine gate_callee (f := 37) rfl ?_); refine goesL_ (some 6) rfl rfl Tryd.func37 (by kernel_rfl) rfl #[.pointer (some ⟨g, 0, none⟩)] rfl (by (try simp only [List.map_toArray, List.map_cons, List.map_nil]); first | done | rfl) ?_; refine (hu.out).mono ?_; rintro e w1 ⟨rfl, HR1, G1⟩; refine ⟨_, rfl, ?_⟩; have HR1' := Aside0.mk HR1; have G1' := Aside0.mk G1; obtain ⟨A, c, hb, hc, hC⟩ := HR1.at_; have h0 := (blk_cell hb 0).trans rfl; have h1 := (blk_cell hb 1).trans rfl; have h2 := (blk_cell hb 2).trans rfl; have hf1 := blk_frozen hb 1; have hB := Aside0.mk hb; have hC' := Aside0.mk hC; clear hb hC HR1 G1; (try dsimp only)) | ((with_reducible refine gate_callee (f := 57) rfl ?_); refine goesL_ (some 9) rfl rfl Tryd.func57 (by kernel_rfl) rfl #[.pointer (some ⟨g, 0, none⟩)] rfl (by (try simp only [List.map_toArray, List.map_cons, List.map_nil]); first | done | rfl) ?_; refine (err_calls w0 w1 g s1 HR1'.out).mono ?_; rintro e w2 ⟨rfl, rfl⟩; refine ⟨_, rfl, ?_⟩; rw [he'.out]; (try dsimp only)) | ((with_reducible refine gate_callee (f := 58) rfl ?_); refine goesL_ (some 36) rfl rfl Tryd.func58 (by kernel_rfl) rfl #[.pointer (some ⟨g, 0, none⟩), .int .i64 10] rfl (by (try simp only [List.map_toArray, List.map_cons, List.map_nil]); first | done | rfl) ?_; refine (fail_calls w0 w1 g s1 HR1'.out 10).mono ?_; rintro e w2 ⟨⟨u, rfl⟩, HR2, G2⟩; refine ⟨_, rfl, ?_⟩; (try dsimp only)))
        go_ret
        have e1 : textR s = (⟨#[]⟩, failR s1 10) := by unfold textR; rw [hns'.out, if_neg (by simp [he'.out]), if_neg (by have := d1'.out; simp only; omega), if_pos d2'.out]
        rw [e1]
        exact ⟨rfl, HR2, grown_trans G1'.out G2⟩
      · have c2 : decide ((s1.l.length : Int) < n) = false := decide_eq_false d2
        have n0 : 0 ≤ n := hU'.out.1
        have n1 : n ≤ (s1.l.length : Int) := by omega
        have d1' := Aside0.mk d1
        have d2' := Aside0.mk d2
        clear d1 d2
        go_enter Tryd.func69, Tryd.ntmps69
        repeat (first | ((with_reducible refine gate_callee (f := 37) rfl ?_); refine goesL_ (some 6) rfl rfl Tryd.func37 (by kernel_rfl) rfl #[.pointer (some ⟨g, 0, none⟩)] rfl (by (try simp only [List.map_toArray, List.map_cons, List.map_nil]); first | done | rfl) ?_; refine (hu.out).mono ?_; rintro e w1 ⟨rfl, HR1, G1⟩; refine ⟨_, rfl, ?_⟩; have HR1' := Aside0.mk HR1; have G1' := Aside0.mk G1; obtain ⟨A, c, hb, hc, hC⟩ := HR1.at_; have h0 := (blk_cell hb 0).trans rfl; have h1 := (blk_cell hb 1).trans rfl; have h2 := (blk_cell hb 2).trans rfl; have hf1 := blk_frozen hb 1; have hB := Aside0.mk hb; have hC' := Aside0.mk hC; have n2 : n ≤ (c : Int) := (by omega); have hcv : (convert 27 9 (.slice A n.toNat c)).run Tryd.prog w1 = .ok (.string (strOfNums (s1.l.take n.toNat))) w1 := string_take HR1.bel hC n0 n1; clear hb hC HR1 G1; (try dsimp only)) | ((with_reducible refine gate_callee (f := 57) rfl ?_); refine goesL_ (some 9) rfl rfl Tryd.func57 (by kernel_rfl) rfl #[.pointer (some ⟨g, 0, none⟩)] rfl (by (try simp only [List.map_toArray, List.map_cons, List.map_nil]); first | done | rfl) ?_; refine (err_calls w0 w1 g s1 HR1'.out).mono ?_; rintro e w2 ⟨rfl, rfl⟩; refine ⟨_, rfl, ?_⟩; rw [he'.out]; (try dsimp only)) | go_step)
        go_ret
        have e1 : textR s = (strOfNums (s1.l.take n.toNat), ⟨s1.e, s1.l.drop n.toNat, s1.lim⟩) := by unfold textR; rw [hns'.out, if_neg (by simp [he'.out]), if_neg (by have := d1'.out; simp only; omega), if_neg d2'.out]
        rw [e1]
        refine ⟨rfl, ⟨HR1'.out.base, HR1'.out.bel.trans (grown_bel (grown_cell (blk_lt hB.out) 1 _) HR1'.out.base HR1'.out.bel.size), if c = n.toNat then A else A.map (·.add (n.toNat * (Kd.int .u8).sz)), c - n.toNat, ?_, ?_, Kd.C_drop hC'.out (by omega) hc⟩, grown_trans G1'.out (grown_cell (blk_lt hB.out) 1 _)⟩
        · have e3 : (if c = n.toNat then A else A.map (·.add (n.toNat * (Kd.int .u8).sz))) = (if c = n.toNat then A else A.map (·.add n.toNat)) := by rw [show n.toNat * (Kd.int .u8).sz = n.toNat from Nat.mul_one _]
          have e4 : (s1.l.drop n.toNat).length = s1.l.length - n.toNat := by simp
          dsimp only
          rw [e3, e4]
          have h3 := blk_set hB.out 1 (.slice (if c = n.toNat then A else A.map (·.add n.toNat)) (s1.l.length - n.toNat) (c - n.toNat))
          simpa using h3
        · dsimp only
          simp only [List.length_drop]
          omega
  · have hn : (s1.e != 0) = true := by simp [he]
    have hn2 : (s1.e = 0) = False := eq_false he
    go_enter Tryd.func69, Tryd.ntmps69
    go_wp2_with (first | ((with_reducible refine gate_callee (f := 37) rfl ?_); refine goesL_ (some 6) rfl rfl Tryd.func37 (by kernel_rfl) rfl #[.pointer (some ⟨g, 0, none⟩)] rfl (by (try simp only [List.map_toArray, List.map_cons, List.map_nil]); first | done | rfl) ?_; refine (hu.out).mono ?_; rintro e w1 ⟨rfl, HR1, G1⟩; refine ⟨_, rfl, ?_⟩; have HR1' := Aside0.mk HR1; have G1' := Aside0.mk G1; clear HR1 G1; (try dsimp only)) | ((with_reducible refine gate_callee (f := 57) rfl ?_); refine goesL_ (some 9) rfl rfl Tryd.func57 (by kernel_rfl) rfl #[.pointer (some ⟨g, 0, none⟩)] rfl (by (try simp only [List.map_toArray, List.map_cons, List.map_nil]); first | done | rfl) ?_; refine (err_calls w0 w1 g s1 HR1'.out).mono ?_; rintro e w2 ⟨rfl, rfl⟩; refine ⟨_, rfl, ?_⟩; (try dsimp only)))
    go_ret
    have e1 : textR s = (⟨#[]⟩, s1) := by unfold textR; rw [hns'.out, if_pos he]
    rw [e1]
    exact ⟨rfl, HR1'.out, G1'.out⟩
theorem Rd.below {w0 W W' : World} {g : Nat} {s : RS} (h : Rd w0 W g s) (hb : Below W.heap.size W W') : Rd w0 W' g s := by
  obtain ⟨A, c, h1, h2, h3⟩ := h.at_
  exact ⟨h.base, h.bel.trans (hb.mono h.bel.size), A, c, blk_below h1 hb, h2, h3⟩
def doneR (s : RS) : Int × RS := if s.e ≠ 0 then (s.e, s) else if s.l = [] then (0, s) else (11, ⟨11, s.l, s.lim⟩)
set_option maxHeartbeats 1000000 in
set_option maxRecDepth 100000 in
theorem done_calls (w0 W : World) (g : Nat) (s : RS) (h : Rd w0 W g s) (hf : Fits s.l.length) :
    Calls Tryd.prog 39 #[.pointer (some ⟨g, 0, none⟩)] W fun e w' => e = .returned (.int .i64 (doneR s).1) ∧ Rd w0 w' g (doneR s).2 ∧ W.grownBy w' (some g) := by
  have hR := Aside0.mk h
  have hlen : (s.l.length : Int) < 140737488355328 := by unfold Fits at hf; omega
  obtain ⟨A, c, hb, hc, hC⟩ := h.at_
  have h0 := (blk_cell hb 0).trans rfl
  have h1 := (blk_cell hb 1).trans rfl
  clear h hf hb hC
  by_cases he : s.e = 0
  · rw [he] at h0
    have he' := Aside0.mk he
    clear he
    obtain ⟨e, l, lim⟩ := s
    cases l with
    | nil =>
      dsimp only [List.length_nil] at *
      have e1 : doneR ⟨e, [], lim⟩ = (0, ⟨e, [], lim⟩) := by unfold doneR; rw [if_neg (by simp [he'.out]), if_pos rfl]
      rw [e1]
      clear e1 hlen hc
      go_enter Tryd.func39, Tryd.ntmps39
      go_wp2_with (first | ((with_reducible refine gate_callee (f := 57) rfl ?_); refine goesL_ (some 5) rfl rfl Tryd.func57 (by kernel_rfl) rfl #[.pointer (some ⟨g, 0, none⟩)] rfl (by (try simp only [List.map_toArray, List.map_cons, List.map_nil]); first | done | rfl) ?_; refine (err_calls w0 W g _ hR.out).mono ?_; rintro e w1 ⟨rfl, rfl⟩; refine ⟨_, rfl, ?_⟩; rw [he'.out]; (try dsimp only)))
      go_ret
      exact ⟨rfl, hR.out, grown_refl _ _⟩
    | cons b t =>
      have e1 : doneR ⟨e, b :: t, lim⟩ = (11, failR ⟨e, b :: t, lim⟩ 11) := by unfold doneR failR; rw [if_neg (fun h => h he'.out), if_neg (by simp), if_pos he'.out]
      rw [e1]
      have hfe : (failR ⟨e, b :: t, lim⟩ 11).e = 11 := by unfold failR; rw [if_pos he'.out]
      have hfe' := Aside0.mk hfe
      dsimp only at *
      obtain ⟨n, hn⟩ : ∃ n, (b :: t).length = n := ⟨_, rfl⟩
      have hm0 : (0 < n) = True := eq_true (by rw [← hn]; simp)
      rw [hn] at hlen h1 hc
      have hn' := Aside0.mk hn
      clear hn e1 hfe
      go_enter Tryd.func39, Tryd.ntmps39
      go_wp2_with (first | ((with_reducible refine gate_callee (f := 57) rfl ?_); refine goesL_ (some 5) rfl rfl Tryd.func57 (by kernel_rfl) rfl #[.pointer (some ⟨g, 0, none⟩)] rfl (by (try simp only [List.map_toArray, List.map_cons, List.map_nil]); first | done | rfl) ?_; refine (err_calls w0 W g _ hR.out).mono ?_; rintro e w1 ⟨rfl, rfl⟩; refine ⟨_, rfl, ?_⟩; rw [he'.out]; (try dsimp only)) | ((with_reducible refine gate_callee (f := 58) rfl ?_); refine goesL_ (some 18) rfl rfl Tryd.func58 (by kernel_rfl) rfl #[.pointer (some ⟨g, 0, none⟩), .int .i64 11] rfl (by (try simp only [List.map_toArray, List.map_cons, List.map_nil]); first | done | rfl) ?_; refine (fail_calls w0 W g _ hR.out 11).mono ?_; rintro e w1 ⟨⟨u, rfl⟩, HR2, G2⟩; refine ⟨_, rfl, ?_⟩; have HR2' := Aside0.mk HR2; obtain ⟨A2, c2, hb2, _, _⟩ := HR2.at_; have h02 := (blk_cell hb2 0).trans rfl; rw [hfe'.out] at h02; clear hb2; (try dsimp only)))
      go_ret
      exact ⟨rfl, HR2'.out, G2⟩
  · have hn : (s.e != 0) = true := by simp [he]
    have hn2 : (s.e = 0) = False := eq_false he
    have e1 : doneR s = (s.e, s) := by unfold doneR; rw [if_pos he]
    rw [e1]
    go_enter Tryd.func39, Tryd.ntmps39
    go_wp2_with (first | ((with_reducible refine gate_callee (f := 57) rfl ?_); refine goesL_ (some 5) rfl rfl Tryd.func57 (by kernel_rfl) rfl #[.pointer (some ⟨g, 0, none⟩)] rfl (by (try simp only [List.map_toArray, List.map_cons, List.map_nil]); first | done | rfl) ?_; refine (err_calls w0 W g s hR.out).mono ?_; rintro e w1 ⟨rfl, rfl⟩; refine ⟨_, rfl, ?_⟩; (try dsimp only)))
    go_ret
    exact ⟨rfl, hR.out, grown_refl _ _⟩
end Go.Proofs.YtfkfboigkpofkaaDoor.M
end
section
namespace Go.Proofs.YtfkfboigkpofkaaDoor.M
open Go.RowKit Go.Proofs.YtfkfboigkpofkaaDoorW.PrintWords Go.Proofs.YtfkfboigkpofkaaDoorW.PrintLast Go.Proofs.YtfkfboigkpofkaaDoorW.PrintMore Go.Proofs.YtfkfboigkpofkaaDoor.PMsgPuts
set_option linter.unusedVariables false
set_option linter.unusedSimpArgs false
def balR (s : RS) : (Int × Int × Int) × RS :=
  if (nR (nR s).2).2.e ≠ 0 then ((0, 0, (nR (nR s).2).2.e), (nR (nR s).2).2)
  else if 7 ≤ (nR (nR s).2).1 then ((0, 0, 11), (nR (nR s).2).2)
  else (((nR s).1, (nR (nR s).2).1, 0), (nR (nR s).2).2)
theorem less_bal (s : RS) : Less s (balR s).2 := by
  unfold balR
  split
  · exact (less_nR _).trans (less_nR _)
  · split
    · exact (less_nR _).trans (less_nR _)
    · exact (less_nR _).trans (less_nR _)
theorem Rd.set {w0 W : World} {g : Nat} {s : RS} (h : Rd w0 W g s) {r : Nat} (hr : w0.heap.size ≤ r) (hne : g ≠ r) (i : Nat) (u : Value) : Rd w0 (W.setCell ⟨r, i, none⟩ u) g s := by
  obtain ⟨A, c, h1, h2, h3⟩ := h.at_
  refine ⟨h.base, h.bel.trans ⟨rfl, rfl, rfl, by simp [World.setCell], fun k hk => Below.heap_setCell _ _ _ _ (by show k ≠ r; omega)⟩, A, c, (Below.heap_setCell _ _ _ _ hne).trans h1, h2, h3⟩
theorem set2 {W : World} {r : Nat} {a b : Value} {t : TypeId} (h : W.heap[r]? = some (.cells #[a, b] t (0, 0))) (x y : Value) :
    ((W.setCell ⟨r, 0, none⟩ x).setCell ⟨r, 1, none⟩ y).heap[r]? = some (.cells #[x, y] t (0, 0)) := by
  have h1 : (W.setCell ⟨r, 0, none⟩ x).heap[r]? = some (.cells #[x, b] t (0, 0)) := by simpa using blk_set h 0 x
  simpa using blk_set h1 1 y
def NumAt (w0 : World) (g : Nat) (s : RS) (n : Int) (s1 : RS) : Prop := ∀ V, Rd w0 V g s → Calls Tryd.prog 37 #[.pointer (some ⟨g, 0, none⟩)] V fun e w' => e = .returned (.int .u64 n) ∧ Rd w0 w' g s1 ∧ V.grownBy w' (some g)
theorem num_at (w0 : World) (g : Nat) {s : RS} (hf : Fits s.l.length) (hb : Bys s.l) {n : Int} {s1 : RS} (h : nR s = (n, s1)) : NumAt w0 g s n s1 := by
  intro V hV
  have := ruint_calls w0 V g s hV hf hb
  rwa [show uR 10 0 s = (n, s1) from h] at this
set_option maxHeartbeats 1000000 in
set_option maxRecDepth 100000 in
theorem bal_calls (w0 W : World) (g : Nat) (s : RS) (h : Rd w0 W g s) (hf : Fits s.l.length) (hb : Bys s.l) :
    Calls Tryd.prog 68 #[.pointer (some ⟨g, 0, none⟩)] W fun e w' => e = .returned (.tuple #[.agg #[.int .u64 (balR s).1.1, .int .i64 (balR s).1.2.1], .int .i64 (balR s).1.2.2]) ∧ Rd w0 w' g (balR s).2 ∧ W.grownBy w' (some g) := by
  obtain ⟨n, s1, h1⟩ : ∃ n s1, nR s = (n, s1) := ⟨_, _, rfl⟩
  obtain ⟨k, s2, h2⟩ : ∃ k s2, nR s1 = (k, s2) := ⟨_, _, rfl⟩
  have hbr : balR s = if s2.e ≠ 0 then ((0, 0, s2.e), s2) else if 7 ≤ k then ((0, 0, 11), s2) else ((n, k, 0), s2) := by
    unfold balR
    simp only [h1, h2]
  have hbr' := Aside0.mk hbr
  have hL1 := less_nR s
  rw [h1] at hL1
  have hu1 := Aside0.mk (num_at w0 g hf hb h1)
  have hf1 : Fits s1.l.length := by have := hL1.len; dsimp only at this; unfold Fits at *; omega
  have hb1 : Bys s1.l := hL1.bys hb
  have hU2 := nR_U hb1
  rw [h2] at hU2
  have hu2 := Aside0.mk (num_at w0 g hf1 hb1 h2)
  have hA := Aside0.mk (Rd.below h (bel1 W (.cells #[.int .u64 0, .int .i64 0] 24)))
  have hX := Aside0.mk (heap_alloc_new W (.cells #[.int .u64 0, .int .i64 0] 24))
  have hgr : some W.heap.size ≠ some g := by
    obtain ⟨A, c, hbk, _, _⟩ := h.at_
    have := blk_lt hbk
    intro e
    have := Option.some.inj e
    omega
  have hgr' := Aside0.mk hgr
  have hbs' := Aside0.mk h.bel.size
  have hne' := Aside0.mk (show g ≠ W.heap.size from fun e => hgr (by rw [e]))
  have hU2' := Aside0.mk hU2
  have hgl := Aside0.mk h
  clear h hf hb h1 h2 hbr hL1 hf1 hb1 hU2 hgr
  by_cases he : s2.e = 0
  · have he' := Aside0.mk he
    clear he
    by_cases h7 : 7 ≤ k
    · have c7 : decide (7 ≤ k) = true := decide_eq_true h7
      have h7' := Aside0.mk h7
      clear h7
      go_enter Tryd.func68, Tryd.ntmps68
      go_wp2_with (first | ((with_reducible refine gate_callee (f := 37) rfl ?_); (with_reducible refine gate_dst (N := 8) rfl ?_); refine goesL_ (some 8) rfl rfl Tryd.func37 (by kernel_rfl) rfl #[.pointer (some ⟨g, 0, none⟩)] rfl (by (try simp only [List.map_toArray, List.map_cons, List.map_nil]); first | done | rfl) ?_; refine (hu1.out _ hA.out).mono ?_; rintro e w1 ⟨rfl, HR1, G1⟩; refine ⟨_, rfl, ?_⟩; have HR1' := Aside0.mk HR1; have G1' := Aside0.mk G1; have hX1 := Aside0.mk (blk_grown hX.out G1 hgr'.out); clear HR1 G1; (try dsimp only)) | ((with_reducible refine gate_callee (f := 37) rfl ?_); (with_reducible refine gate_dst (N := 10) rfl ?_); refine goesL_ (some 10) rfl rfl Tryd.func37 (by kernel_rfl) rfl #[.pointer (some ⟨g, 0, none⟩)] rfl (by (try simp only [List.map_toArray, List.map_cons, List.map_nil]); first | done | rfl) ?_; refine (hu2.out _ HR1'.out).mono ?_; rintro e w2 ⟨rfl, HR2, G2⟩; refine ⟨_, rfl, ?_⟩; have HR2' := Aside0.mk HR2; have G2' := Aside0.mk G2; have hX2 := Aside0.mk (blk_grown hX1.out G2 hgr'.out); have hz0 := (blk_cell hX2.out 0).trans rfl; have hz1 := (blk_cell hX2.out 1).trans rfl; have hy0 := blk_frozen hX2.out 0; have hy1 := blk_frozen hX2.out 1; clear HR2 G2; (try dsimp only)) | ((with_reducible refine gate_callee (f := 57) rfl ?_); (with_reducible refine gate_dst (N := 12) rfl ?_); refine goesL_ (some 12) rfl rfl Tryd.func57 (by kernel_rfl) rfl #[.pointer (some ⟨g, 0, none⟩)] rfl (by (try simp only [List.map_toArray, List.map_cons, List.map_nil]); first | done | rfl) ?_; refine (err_calls w0 w2 g s2 HR2'.out).mono ?_; rintro e w3 ⟨rfl, rfl⟩; refine ⟨_, rfl, ?_⟩; rw [he'.out]; (try dsimp only)))
      refine bodyPost_ret (results_ct rfl _ _ W.heap.size 24 _ (0, 0) _ rfl (set2 hX2.out _ _) Tryd.underlying24 rfl (by kernel_rfl)) rfl ?_
      rw [hbr'.out, if_neg (fun h => h he'.out), if_pos h7'.out]
      exact ⟨rfl, (HR2'.out.set hbs'.out hne'.out 0 _).set hbs'.out hne'.out 1 _, grown_set (p := ⟨W.heap.size, 1, none⟩) (grown_set (p := ⟨W.heap.size, 0, none⟩) (grown_trans (grown_trans (World.grownBy_alloc W _ (some g)) G1'.out) G2'.out) (Nat.le_refl _) _) (Nat.le_refl _) _⟩
    · have c7 : decide (7 ≤ k) = false := decide_eq_false h7
      have hk0 : 0 ≤ k := hU2'.out.1
      have hk7 : k < 7 := by omega
      have h7' := Aside0.mk h7
      clear h7
      go_enter Tryd.func68, Tryd.ntmps68
      go_wp2_with (first | ((with_reducible refine gate_callee (f := 37) rfl ?_); (with_reducible refine gate_dst (N := 8) rfl ?_); refine goesL_ (some 8) rfl rfl Tryd.func37 (by kernel_rfl) rfl #[.pointer (some ⟨g, 0, none⟩)] rfl (by (try simp only [List.map_toArray, List.map_cons, List.map_nil]); first | done | rfl) ?_; refine (hu1.out _ hA.out).mono ?_; rintro e w1 ⟨rfl, HR1, G1⟩; refine ⟨_, rfl, ?_⟩; have HR1' := Aside0.mk HR1; have G1' := Aside0.mk G1; have hX1 := Aside0.mk (blk_grown hX.out G1 hgr'.out); clear HR1 G1; (try dsimp only)) | ((with_reducible refine gate_callee (f := 37) rfl ?_); (with_reducible refine gate_dst (N := 10) rfl ?_); refine goesL_ (some 10) rfl rfl Tryd.func37 (by kernel_rfl) rfl #[.pointer (some ⟨g, 0, none⟩)] rfl (by (try simp only [List.map_toArray, List.map_cons, List.map_nil]); first | done | rfl) ?_; refine (hu2.out _ HR1'.out).mono ?_; rintro e w2 ⟨rfl, HR2, G2⟩; refine ⟨_, rfl, ?_⟩; have HR2' := Aside0.mk HR2; have G2' := Aside0.mk G2; have hX2 := Aside0.mk (blk_grown hX1.out G2 hgr'.out); have hz0 := (blk_cell hX2.out 0).trans rfl; have hz1 := (blk_cell hX2.out 1).trans rfl; have hy0 := blk_frozen hX2.out 0; have hy1 := blk_frozen hX2.out 1; clear HR2 G2; (try dsimp only)) | ((with_reducible refine gate_callee (f := 57) rfl ?_); (with_reducible refine gate_dst (N := 12) rfl ?_); refine goesL_ (some 12) rfl rfl Tryd.func57 (by kernel_rfl) rfl #[.pointer (some ⟨g, 0, none⟩)] rfl (by (try simp only [List.map_toArray, List.map_cons, List.map_nil]); first | done | rfl) ?_; refine (err_calls w0 w2 g s2 HR2'.out).mono ?_; rintro e w3 ⟨rfl, rfl⟩; refine ⟨_, rfl, ?_⟩; rw [he'.out]; (try dsimp only)))
      refine bodyPost_ret (results_ct rfl _ _ W.heap.size 24 _ (0, 0) _ rfl (set2 hX2.out _ _) Tryd.underlying24 rfl (by kernel_rfl)) rfl ?_
      rw [hbr'.out, if_neg (fun h => h he'.out), if_neg (by have := h7'.out; omega)]
      exact ⟨rfl, (HR2'.out.set hbs'.out hne'.out 0 _).set hbs'.out hne'.out 1 _, grown_set (p := ⟨W.heap.size, 1, none⟩) (grown_set (p := ⟨W.heap.size, 0, none⟩) (grown_trans (grown_trans (World.grownBy_alloc W _ (some g)) G1'.out) G2'.out) (Nat.le_refl _) _) (Nat.le_refl _) _⟩
  · have hn : (s2.e != 0) = true := by simp [he]
    have hn2 : (s2.e = 0) = False := eq_false he
    go_enter Tryd.func68, Tryd.ntmps68
    go_wp2_with (first | ((with_reducible refine gate_callee (f := 37) rfl ?_); (with_reducible refine gate_dst (N := 8) rfl ?_); refine goesL_ (some 8) rfl rfl Tryd.func37 (by kernel_rfl) rfl #[.pointer (some ⟨g, 0, none⟩)] rfl (by (try simp only [List.map_toArray, List.map_cons, List.map_nil]); first | done | rfl) ?_; refine (hu1.out _ hA.out).mono ?_; rintro e w1 ⟨rfl, HR1, G1⟩; refine ⟨_, rfl, ?_⟩; have HR1' := Aside0.mk HR1; have G1' := Aside0.mk G1; have hX1 := Aside0.mk (blk_grown hX.out G1 hgr'.out); clear HR1 G1; (try dsimp only)) | ((with_reducible refine gate_callee (f := 37) rfl ?_); (with_reducible refine gate_dst (N := 10) rfl ?_); refine goesL_ (some 10) rfl rfl Tryd.func37 (by kernel_rfl) rfl #[.pointer (some ⟨g, 0, none⟩)] rfl (by (try simp only [List.map_toArray, List.map_cons, List.map_nil]); first | done | rfl) ?_; refine (hu2.out _ HR1'.out).mono ?_; rintro e w2 ⟨rfl, HR2, G2⟩; refine ⟨_, rfl, ?_⟩; have HR2' := Aside0.mk HR2; have G2' := Aside0.mk G2; have hX2 := Aside0.mk (blk_grown hX1.out G2 hgr'.out); have hz0 := (blk_cell hX2.out 0).trans rfl; have hz1 := (blk_cell hX2.out 1).trans rfl; have hy0 := blk_frozen hX2.out 0; have hy1 := blk_frozen hX2.out 1; clear HR2 G2; (try dsimp only)) | ((with_reducible refine gate_callee (f := 57) rfl ?_); (with_reducible refine gate_dst (N := 12) rfl ?_); refine goesL_ (some 12) rfl rfl Tryd.func57 (by kernel_rfl) rfl #[.pointer (some ⟨g, 0, none⟩)] rfl (by (try simp only [List.map_toArray, List.map_cons, List.map_nil]); first | done | rfl) ?_; refine (err_calls w0 w2 g s2 HR2'.out).mono ?_; rintro e w3 ⟨rfl, rfl⟩; refine ⟨_, rfl, ?_⟩;  (try dsimp only)))
    refine bodyPost_ret (results_ct rfl _ _ W.heap.size 24 _ (0, 0) _ rfl (set2 hX2.out _ _) Tryd.underlying24 rfl (by kernel_rfl)) rfl ?_
    rw [hbr'.out, if_pos he]
    exact ⟨rfl, (HR2'.out.set hbs'.out hne'.out 0 _).set hbs'.out hne'.out 1 _, grown_set (p := ⟨W.heap.size, 1, none⟩) (grown_set (p := ⟨W.heap.size, 0, none⟩) (grown_trans (grown_trans (World.grownBy_alloc W _ (some g)) G1'.out) G2'.out) (Nat.le_refl _) _) (Nat.le_refl _) _⟩
end Go.Proofs.YtfkfboigkpofkaaDoor.M
end
section
namespace Go.Proofs.YtfkfboigkpofkaaDoor.M
open Go.RowKit Go.Proofs.YtfkfboigkpofkaaDoorW.PrintWords Go.Proofs.YtfkfboigkpofkaaDoorW.PrintLast Go.Proofs.YtfkfboigkpofkaaDoorW.PrintMore Go.Proofs.YtfkfboigkpofkaaDoor.PMsgPuts
set_option linter.unusedVariables false
set_option linter.unusedSimpArgs false
structure TS where
  r : RS
  bad : Bool
structure Tk (w0 W : World) (t g : Nat) (s : TS) : Prop where
  rd : Rd w0 W g s.r
  box : W.heap[t]? = some (.cells #[.pointer (some ⟨g, 0, none⟩), .bool s.bad] 73 (0, 0))
  base : w0.heap.size ≤ t
  ne : g ≠ t
structure Two (W W' : World) (t g : Nat) : Prop where
  os : W'.os = W.os
  tape : W'.tape = W.tape
  output : W'.output = W.output
  size : W.heap.size ≤ W'.heap.size
  block : ∀ k, k < W.heap.size → k ≠ t → k ≠ g → W'.heap[k]? = W.heap[k]?
theorem Two.trans {a b c : World} {t g : Nat} (h : Two a b t g) (k : Two b c t g) : Two a c t g :=
  ⟨k.os.trans h.os, k.tape.trans h.tape, k.output.trans h.output, Nat.le_trans h.size k.size, fun i hi h1 h2 => (k.block i (Nat.lt_of_lt_of_le hi h.size) h1 h2).trans (h.block i hi h1 h2)⟩
theorem Two.of_below {W W' : World} (h : Below W.heap.size W W') (t g : Nat) : Two W W' t g := ⟨h.os, h.tape, h.output, h.size, fun k hk _ _ => h.block k hk⟩
theorem Two.of_g {W W' : World} {g : Nat} (h : W.grownBy W' (some g)) (t : Nat) : Two W W' t g := ⟨h.os, h.tape, h.output, h.size, fun k hk _ hg => h.block k hk (fun e => hg (Option.some.inj e))⟩
theorem Two.set_t {W W' : World} {t g : Nat} (h : Two W W' t g) (i : Nat) (u : Value) : Two W (W'.setCell ⟨t, i, none⟩ u) t g :=
  ⟨h.os, h.tape, h.output, by simpa [World.setCell] using h.size, fun k hk h1 h2 => (Below.heap_setCell _ _ _ _ (show k ≠ t from h1)).trans (h.block k hk h1 h2)⟩
theorem Two.set_new {W W' : World} {t g : Nat} (h : Two W W' t g) {r : Nat} (hr : W.heap.size ≤ r) (i : Nat) (u : Value) : Two W (W'.setCell ⟨r, i, none⟩ u) t g :=
  ⟨h.os, h.tape, h.output, by simpa [World.setCell] using h.size, fun k hk h1 h2 => (Below.heap_setCell _ _ _ _ (show k ≠ r by omega)).trans (h.block k hk h1 h2)⟩
theorem Two.keep {W W' : World} {t g : Nat} (h : Two W W' t g) {r : Nat} {o : Obj} (ho : W.heap[r]? = some o) (h1 : r ≠ t) (h2 : r ≠ g) : W'.heap[r]? = some o := (h.block r (blk_lt ho) h1 h2).trans ho
theorem Two.bel {W W' : World} {t g n : Nat} (h : Two W W' t g) (hn : n ≤ W.heap.size) (ht : n ≤ t) (hg : n ≤ g) : Below n W W' := ⟨h.os, h.tape, h.output, h.size, fun k hk => h.block k (by omega) (by omega) (by omega)⟩
theorem Two.kept {W W' : World} {t g : Nat} (h : Two W W' t g) : Kept W W' (fun k => k = t ∨ k = g) := ⟨h.size, fun i hi hn => h.block i hi (fun e => hn (.inl e)) (fun e => hn (.inr e))⟩
theorem Tk.read {w0 W W' : World} {t g : Nat} {s : TS} (h : Tk w0 W t g s) {r : RS} (hr : Rd w0 W' g r) (hG : W.grownBy W' (some g)) : Tk w0 W' t g ⟨r, s.bad⟩ :=
  ⟨hr, blk_grown h.box hG (fun e => h.ne (Option.some.inj e).symm), h.base, h.ne⟩
theorem Tk.below {w0 W W' : World} {t g : Nat} {s : TS} (h : Tk w0 W t g s) (hb : Below W.heap.size W W') : Tk w0 W' t g s := ⟨h.rd.below hb, blk_below h.box hb, h.base, h.ne⟩
theorem Tk.set {w0 W : World} {t g : Nat} {s : TS} (h : Tk w0 W t g s) {r : Nat} (hr : w0.heap.size ≤ r) (h1 : g ≠ r) (h2 : t ≠ r) (i : Nat) (u : Value) : Tk w0 (W.setCell ⟨r, i, none⟩ u) t g s :=
  ⟨h.rd.set hr h1 i u, (Below.heap_setCell _ _ _ _ (show t ≠ r from h2)).trans h.box, h.base, h.ne⟩
theorem Tk.bad {w0 W : World} {t g : Nat} {s : TS} (h : Tk w0 W t g s) (b : Bool) : Tk w0 (W.setCell ⟨t, 1, none⟩ (.bool b)) t g ⟨s.r, b⟩ :=
  ⟨h.rd.set h.base h.ne 1 _, by simpa using blk_set h.box 1 (.bool b), h.base, h.ne⟩
theorem Tk.lt {w0 W : World} {t g : Nat} {s : TS} (h : Tk w0 W t g s) : t < W.heap.size ∧ g < W.heap.size := by
  obtain ⟨A, c, h1, _⟩ := h.rd.at_
  exact ⟨blk_lt h.box, blk_lt h1⟩
def balT (s : TS) : (Int × Int) × TS := (((balR s.r).1.1, (balR s.r).1.2.1), ⟨(balR s.r).2, s.bad || (balR s.r).1.2.2 != 0⟩)
def textT (s : TS) : List Int × TS := (bytesOf (textR s.r).1, ⟨(textR s.r).2, s.bad⟩)
structure Fine (s : RS) : Prop where
  fits : Fits s.l.length
  bys : Bys s.l
  lim : 0 ≤ s.lim ∧ s.lim < 9223372036854775808
theorem Fine.less {s s' : RS} (h : Fine s) (hl : Less s s') : Fine s' := ⟨by have := hl.len; have := h.fits; unfold Fits at *; omega, hl.bys h.bys, by rw [hl.lim]; exact h.lim⟩
set_option maxHeartbeats 1000000 in
set_option maxRecDepth 100000 in
theorem tbal_calls (w0 W : World) (t g : Nat) (s : TS) (h : Tk w0 W t g s) (hF : Fine s.r) :
    Calls Tryd.prog 59 #[.pointer (some ⟨t, 0, none⟩)] W fun e w' => e = .returned (.agg #[.int .u64 (balT s).1.1, .int .i64 (balT s).1.2]) ∧ Tk w0 w' t g (balT s).2 ∧ Two W w' t g := by
  obtain ⟨n, r, er, s1, hb⟩ : ∃ n r er s1, balR s.r = ((n, r, er), s1) := ⟨_, _, _, _, rfl⟩
  have hB : balT s = ((n, r), ⟨s1, s.bad || er != 0⟩) := by unfold balT; rw [hb]
  rw [hB]
  have hc : Aside0 (∀ V, Rd w0 V g s.r → Calls Tryd.prog 68 #[.pointer (some ⟨g, 0, none⟩)] V fun e w' => e = .returned (.tuple #[.agg #[.int .u64 n, .int .i64 r], .int .i64 er]) ∧ Rd w0 w' g s1 ∧ V.grownBy w' (some g)) := by
    refine ⟨fun V hV => ?_⟩
    have := bal_calls w0 V g s.r hV hF.fits hF.bys
    rwa [hb] at this
  have hA := Aside0.mk (h.below (bel1 W (.cells #[.int .u64 0, .int .i64 0] 24)))
  have hX := Aside0.mk (heap_alloc_new W (.cells #[.int .u64 0, .int .i64 0] 24))
  have hlt := Aside0.mk h.lt
  have hb0 := (blk_cell hA.out.box 0).trans rfl
  have hbs := Aside0.mk h.rd.bel.size
  have hgr : some W.heap.size ≠ some g := by have := h.lt.2; intro e; have := Option.some.inj e; omega
  have hgr' := Aside0.mk hgr
  clear hb hB h hF hgr
  have hs := Aside0.mk (set2 (t := 24) (heap_alloc_new W (.cells #[.int .u64 0, .int .i64 0] 24)))
  clear hs
  obtain ⟨sr, bad⟩ := s
  cases bad
  · dsimp only at hb0
    go_enter Tryd.func59, Tryd.ntmps59
    go_wp2_with (first | ((with_reducible refine gate_callee (f := 68) rfl ?_); (with_reducible refine gate_dst (N := 10) rfl ?_); refine goesL_ (some 10) rfl rfl Tryd.func68 (by kernel_rfl) rfl #[.pointer (some ⟨g, 0, none⟩)] rfl (by (try simp only [List.map_toArray, List.map_cons, List.map_nil]); first | done | rfl) ?_; refine (hc.out _ hA.out.rd).mono ?_; rintro e w1 ⟨rfl, HR1, G1⟩; refine ⟨_, rfl, ?_⟩; have HT1 := Aside0.mk (hA.out.read HR1 G1); have G1' := Aside0.mk G1; have hX1 := Aside0.mk (blk_grown hX.out G1 hgr'.out); have HT2 := Aside0.mk (HT1.out.below (bel1 w1 (.cells #[.int .u64 n, .int .i64 r] 24))); have hX2 := Aside0.mk (blk_alloc hX1.out (.cells #[.int .u64 n, .int .i64 r] 24)); have hb1 := (blk_cell HT2.out.box 1).trans rfl; have hf1 := blk_frozen HT2.out.box 1; have hz0 := blk_frozen hX2.out 0; have hz1 := blk_frozen hX2.out 1; have ht1 : t ≠ w1.heap.size := Nat.ne_of_lt HT1.out.lt.1; have ht2 := ht1.symm; have hw0 := (blk_cell hX2.out 0).trans rfl; have hw1 := (blk_cell hX2.out 1).trans rfl; have ht3 : t ≠ W.heap.size := Nat.ne_of_lt hlt.out.1; have ht4 := ht3.symm; clear HR1 G1; (try dsimp only)))
    have hX3 := (Below.heap_setCell (w1.alloc (.cells #[.int .u64 n, .int .i64 r] 24)) ⟨t, 1, none⟩ (.bool (er != 0)) W.heap.size ht4).trans hX2.out
    refine bodyPost_ret (results_cell_row rfl _ _ W.heap.size 24 _ (0, 0) _ rfl (set2 hX3 _ _) Tryd.underlying24 rfl (by kernel_rfl)) rfl ?_
    exact ⟨rfl, ((HT2.out.bad (er != 0)).set hbs.out (fun e => hgr'.out (by rw [e])) ht3 0 _).set hbs.out (fun e => hgr'.out (by rw [e])) ht3 1 _,
      (((((Two.of_below (bel1 W (.cells #[.int .u64 0, .int .i64 0] 24)) t g).trans (Two.of_g G1'.out t)).trans (Two.of_below (bel1 w1 (.cells #[.int .u64 n, .int .i64 r] 24)) t g)).set_t 1 _).set_new (Nat.le_refl _) 0 _).set_new (Nat.le_refl _) 1 _⟩
  · dsimp only at hb0
    go_enter Tryd.func59, Tryd.ntmps59
    go_wp2_with (first | ((with_reducible refine gate_callee (f := 68) rfl ?_); (with_reducible refine gate_dst (N := 10) rfl ?_); refine goesL_ (some 10) rfl rfl Tryd.func68 (by kernel_rfl) rfl #[.pointer (some ⟨g, 0, none⟩)] rfl (by (try simp only [List.map_toArray, List.map_cons, List.map_nil]); first | done | rfl) ?_; refine (hc.out _ hA.out.rd).mono ?_; rintro e w1 ⟨rfl, HR1, G1⟩; refine ⟨_, rfl, ?_⟩; have HT1 := Aside0.mk (hA.out.read HR1 G1); have G1' := Aside0.mk G1; have hX1 := Aside0.mk (blk_grown hX.out G1 hgr'.out); have HT2 := Aside0.mk (HT1.out.below (bel1 w1 (.cells #[.int .u64 n, .int .i64 r] 24))); have hX2 := Aside0.mk (blk_alloc hX1.out (.cells #[.int .u64 n, .int .i64 r] 24)); have hb1 := (blk_cell HT2.out.box 1).trans rfl; have hf1 := blk_frozen HT2.out.box 1; have hz0 := blk_frozen hX2.out 0; have hz1 := blk_frozen hX2.out 1; have ht1 : t ≠ w1.heap.size := Nat.ne_of_lt HT1.out.lt.1; have ht2 := ht1.symm; have hw0 := (blk_cell hX2.out 0).trans rfl; have hw1 := (blk_cell hX2.out 1).trans rfl; have ht3 : t ≠ W.heap.size := Nat.ne_of_lt hlt.out.1; have ht4 := ht3.symm; clear HR1 G1; (try dsimp only)))
    have hX3 := (Below.heap_setCell (w1.alloc (.cells #[.int .u64 n, .int .i64 r] 24)) ⟨t, 1, none⟩ (.bool true) W.heap.size ht4).trans hX2.out
    refine bodyPost_ret (results_cell_row rfl _ _ W.heap.size 24 _ (0, 0) _ rfl (set2 hX3 _ _) Tryd.underlying24 rfl (by kernel_rfl)) rfl ?_
    exact ⟨rfl, ((HT2.out.bad true).set hbs.out (fun e => hgr'.out (by rw [e])) ht3 0 _).set hbs.out (fun e => hgr'.out (by rw [e])) ht3 1 _,
      (((((Two.of_below (bel1 W (.cells #[.int .u64 0, .int .i64 0] 24)) t g).trans (Two.of_g G1'.out t)).trans (Two.of_below (bel1 w1 (.cells #[.int .u64 n, .int .i64 r] 24)) t g)).set_t 1 _).set_new (Nat.le_refl _) 0 _).set_new (Nat.le_refl _) 1 _⟩
theorem sON_size (l : List Int) : (strOfNums l).size = l.length := by
  unfold strOfNums
  simp [ByteArray.size]
theorem text_size (s : RS) : (textR s).1.size ≤ s.l.length := by
  have h := (less_nR s).len
  unfold textR
  split
  · exact Nat.zero_le _
  · split
    · exact Nat.zero_le _
    · split
      · exact Nat.zero_le _
      · dsimp only
        rw [sON_size, List.length_take]
        omega
theorem conv_V (w : World) (s : ByteArray) (hs : Fits s.size) (base : Nat) : ∃ (W : World) (v : Value), (convert 9 27 (.string s)).run Tryd.prog w = .ok v W ∧ Below w.heap.size w W ∧ Kd.V (Kd.int .u8) 5 W base (fun k => k = w.heap.size) v (bytesOf s) := by
  refine ⟨Lib.bytesWorld w 5 s, .slice (some ⟨w.heap.size, 0, none⟩) s.size (grownCap w s.size 0 5), ?_, ?_, ?_⟩
  · rw [Lib.run_convert_string_bytes w 9 27 5 s Tryd.underlying9 Tryd.underlying27 Tryd.underlying5]
  · refine ⟨rfl, rfl, rfl, ?_, fun i hi => Lib.bytesWorld_at_old _ _ _ _ hi⟩
    rw [Lib.bytesWorld_size]
    omega
  · rw [← bytesOf_length s]
    refine Kd.V_mk ?_ ?_
    · rw [bytesOf_length]
      exact grownCap_ge w s.size 0 5
    · intro W' hW'
      have h := hW' w.heap.size rfl (by rw [Lib.bytesWorld_size]; omega)
      refine ⟨rfl, ?_, fun _ => ⟨⟨w.heap.size, 0, none⟩, rfl, fun j p hj => ⟨[.int .u8 p], rfl, rfl, fun i u hu => ?_⟩⟩⟩
      · rw [bytesOf_length]
        unfold Fits at hs
        omega
      · rcases i with _ | i
        · simp only [List.getElem?_cons_zero, Option.some.injEq] at hu
          subst hu
          have hj2 := (List.getElem?_eq_some_iff.1 hj).1
          rw [bytesOf_length] at hj2
          have e : (⟨w.heap.size, 0, none⟩ : Addr).add (j * (Kd.int .u8).sz + 0) = ⟨w.heap.size, j, none⟩ := by
            rw [add_plain]
            congr 1
            exact Nat.mul_one j
          rw [e]
          refine (World.cell?_of_block (a := ⟨w.heap.size, j, none⟩) h).trans ?_
          rw [Lib.bytesWorld_cell _ _ _ _ hj2]
          have hb : (bytesOf s)[j]? = some ((s.data.toList.getD j 0).toNat : Int) := by
            have hj3 : j < s.data.toList.length := by rw [data_length]; exact hj2
            unfold bytesOf
            rw [List.getElem?_map, List.getElem?_eq_getElem hj3, List.getD_eq_getElem?_getD, List.getElem?_eq_getElem hj3]
            rfl
          rw [hb] at hj
          rw [← Option.some.inj hj]
        · simp at hu
set_option maxHeartbeats 1000000 in
set_option maxRecDepth 100000 in
theorem ttext_calls (w0 W : World) (t g : Nat) (s : TS) (h : Tk w0 W t g s) (hF : Fine s.r) (base : Nat) :
    Calls Tryd.prog 60 #[.pointer (some ⟨t, 0, none⟩)] W fun e w' => ∃ v, e = .returned v ∧ Kd.V (Kd.int .u8) 5 w' base (fun k => W.heap.size ≤ k) v (textT s).1 ∧ Tk w0 w' t g (textT s).2 ∧ Two W w' t g := by
  have hc := Aside0.mk (rtext_calls w0 W g s.r h.rd hF.fits hF.bys hF.lim)
  have hT := Aside0.mk h
  have hb0 := (blk_cell h.box 0).trans rfl
  have hsz := Aside0.mk (show Fits (textR s.r).1.size from by have := text_size s.r; have := hF.fits; unfold Fits at *; omega)
  clear h hF
  go_enter Tryd.func60, Tryd.ntmps60
  go_wp2_with (first | ((with_reducible refine gate_callee (f := 69) rfl ?_); (with_reducible refine gate_dst (N := 7) rfl ?_); refine goesL_ (some 7) rfl rfl Tryd.func69 (by kernel_rfl) rfl #[.pointer (some ⟨g, 0, none⟩)] rfl (by (try simp only [List.map_toArray, List.map_cons, List.map_nil]); first | done | rfl) ?_; refine (hc.out).mono ?_; rintro e w1 ⟨rfl, HR1, G1⟩; refine ⟨_, rfl, ?_⟩; have HT1 := Aside0.mk (hT.out.read HR1 G1); have G1' := Aside0.mk G1; obtain ⟨w2, v, hcv, hB2, hV⟩ := conv_V w1 (textR s.r).1 hsz.out base; have hB2' := Aside0.mk hB2; have hV' := Aside0.mk hV; clear HR1 G1 hB2 hV; (try dsimp only)))
  go_ret
  exact ⟨_, rfl, Kd.V_mono hV'.out (fun k hk => by rw [hk]; exact G1'.out.size), HT1.out.below hB2'.out, (Two.of_g G1'.out t).trans (Two.of_below hB2'.out t g)⟩
end Go.Proofs.YtfkfboigkpofkaaDoor.M
end
section
namespace Go.Proofs.YtfkfboigkpofkaaDoor.M
open Go.RowKit Go.Proofs.YtfkfboigkpofkaaDoorW.PrintWords Go.Proofs.YtfkfboigkpofkaaDoorW.PrintLast Go.Proofs.YtfkfboigkpofkaaDoorW.PrintMore Go.Proofs.YtfkfboigkpofkaaDoor.PMsgPuts
set_option linter.unusedVariables false
set_option linter.unusedSimpArgs false
theorem set4 {W : World} {r : Nat} {a b c d : Value} {t : TypeId} (h : W.heap[r]? = some (.cells #[a, b, c, d] t (0, 0))) (x y z u : Value) :
    ((((W.setCell ⟨r, 0, none⟩ x).setCell ⟨r, 1, none⟩ y).setCell ⟨r, 2, none⟩ z).setCell ⟨r, 3, none⟩ u).heap[r]? = some (.cells #[x, y, z, u] t (0, 0)) := by
  have h1 : (W.setCell ⟨r, 0, none⟩ x).heap[r]? = some (.cells #[x, b, c, d] t (0, 0)) := by simpa using blk_set h 0 x
  have h2 : ((W.setCell ⟨r, 0, none⟩ x).setCell ⟨r, 1, none⟩ y).heap[r]? = some (.cells #[x, y, c, d] t (0, 0)) := by simpa using blk_set h1 1 y
  have h3 : (((W.setCell ⟨r, 0, none⟩ x).setCell ⟨r, 1, none⟩ y).setCell ⟨r, 2, none⟩ z).heap[r]? = some (.cells #[x, y, z, d] t (0, 0)) := by simpa using blk_set h2 2 z
  simpa using blk_set h3 3 u
theorem le1 {a b : Nat} (h : a ≤ b) : a ≤ b + 1 := Nat.le_succ_of_le h
theorem set12 {W : World} {r : Nat} {a b c d : Value} {t : TypeId} (h : W.heap[r]? = some (.cells #[a, b, c, d] t (0, 0))) (y z : Value) :
    ((W.setCell ⟨r, 1, none⟩ y).setCell ⟨r, 2, none⟩ z).heap[r]? = some (.cells #[a, y, z, d] t (0, 0)) := by
  have h2 : (W.setCell ⟨r, 1, none⟩ y).heap[r]? = some (.cells #[a, y, c, d] t (0, 0)) := by simpa using blk_set h 1 y
  simpa using blk_set h2 2 z
theorem blk_set_far {W : World} {g r : Nat} {o : Obj} (h : W.heap[g]? = some o) (hne : g ≠ r) (i : Nat) (u : Value) : (W.setCell ⟨r, i, none⟩ u).heap[g]? = some o := (Below.heap_setCell _ _ _ _ (show g ≠ r from hne)).trans h
def voteT (s : TS) : S52 × TS :=
  (⟨(nR s.r).1, ⟨(balT ⟨(nR s.r).2, s.bad⟩).1.1, (balT ⟨(nR s.r).2, s.bad⟩).1.2⟩, (textT (balT ⟨(nR s.r).2, s.bad⟩).2).1⟩, (textT (balT ⟨(nR s.r).2, s.bad⟩).2).2)
set_option maxHeartbeats 1000000 in
set_option maxRecDepth 100000 in
theorem vote_calls (w0 W : World) (t g : Nat) (s : TS) (h : Tk w0 W t g s) (hF : Fine s.r) (base : Nat) :
    Calls Tryd.prog 63 #[.pointer (some ⟨t, 0, none⟩)] W fun e w' => ∃ v, e = .returned (.agg #[.int .u64 (voteT s).1.f0, .int .u64 (voteT s).1.f1.f0, .int .i64 (voteT s).1.f1.f1, v]) ∧ Kd.V (Kd.int .u8) 5 w' base (fun k => W.heap.size ≤ k) v (voteT s).1.f2 ∧ Tk w0 w' t g (voteT s).2 ∧ Two W w' t g := by
  obtain ⟨sr, bad⟩ := s
  obtain ⟨n, s1, h1⟩ : ∃ n s1, nR sr = (n, s1) := ⟨_, _, rfl⟩
  obtain ⟨n2, r2, s2, h2⟩ : ∃ n2 r2 s2, balT ⟨s1, bad⟩ = ((n2, r2), s2) := ⟨_, _, _, rfl⟩
  obtain ⟨l, s3, h3⟩ : ∃ l s3, textT s2 = (l, s3) := ⟨_, _, rfl⟩
  have hv : voteT ⟨sr, bad⟩ = (⟨n, ⟨n2, r2⟩, l⟩, s3) := by unfold voteT; simp only [h1, h2, h3]
  rw [hv]
  clear hv
  have hF1 : Fine s1 := by have := hF.less (less_nR sr); rwa [h1] at this
  have hF2 : Fine s2.r := by
    have := hF1.less (less_bal s1)
    have e : (balR s1).2 = s2.r := by have := congrArg (fun x => x.2.r) h2; exact this
    rwa [e] at this
  have hc1 := Aside0.mk (num_at w0 g hF.fits hF.bys h1)
  have hc2 : Aside0 (∀ V, Tk w0 V t g ⟨s1, bad⟩ → Calls Tryd.prog 59 #[.pointer (some ⟨t, 0, none⟩)] V fun e w' => e = .returned (.agg #[.int .u64 n2, .int .i64 r2]) ∧ Tk w0 w' t g s2 ∧ Two V w' t g) := by
    refine ⟨fun V hV => ?_⟩
    have := tbal_calls w0 V t g ⟨s1, bad⟩ hV hF1
    rwa [h2] at this
  have hc3 : Aside0 (∀ V, Tk w0 V t g s2 → Calls Tryd.prog 60 #[.pointer (some ⟨t, 0, none⟩)] V fun e w' => ∃ v, e = .returned v ∧ Kd.V (Kd.int .u8) 5 w' base (fun k => V.heap.size ≤ k) v l ∧ Tk w0 w' t g s3 ∧ Two V w' t g) := by
    refine ⟨fun V hV => ?_⟩
    have := ttext_calls w0 V t g s2 hV hF2 base
    rwa [h3] at this
  obtain ⟨W1, hW1⟩ : ∃ W1, (W.alloc (.cells #[.int .u64 0, .int .u64 0, .int .i64 0, .slice none 0 0] 52)).alloc (.cells #[.int .u64 0, .int .u64 0, .int .i64 0, .slice none 0 0] 52) = W1 := ⟨_, rfl⟩
  have hB1 := Aside0.mk (show Below W.heap.size W W1 by rw [← hW1]; exact bel2 W _ _)
  have hT := Aside0.mk (h.below hB1.out)
  have hr : W1.heap[W.heap.size]? = some (.cells #[.int .u64 0, .int .u64 0, .int .i64 0, .slice none 0 0] 52 (0, 0)) := by rw [← hW1]; exact blk_alloc (heap_alloc_new W _) _
  have hb : W1.heap[W.heap.size + 1]? = some (.cells #[.int .u64 0, .int .u64 0, .int .i64 0, .slice none 0 0] 52 (0, 0)) := by
    rw [← hW1]
    have := heap_alloc_new (W.alloc (.cells #[.int .u64 0, .int .u64 0, .int .i64 0, .slice none 0 0] 52)) (.cells #[.int .u64 0, .int .u64 0, .int .i64 0, .slice none 0 0] 52)
    simpa using this
  have hlt := h.lt
  have hbs := Aside0.mk h.rd.bel.size
  have hr' := Aside0.mk hr
  have hb' := Aside0.mk hb
  have hrt : t ≠ W.heap.size := by omega
  have hrg : g ≠ W.heap.size := by omega
  have hbt : t ≠ W.heap.size + 1 := by omega
  have hbg : g ≠ W.heap.size + 1 := by omega
  have hlt' := Aside0.mk hlt
  have hrt' := Aside0.mk hrt
  have hrg' := Aside0.mk hrg
  have hbt' := Aside0.mk hbt
  have hbg' := Aside0.mk hbg
  have ht0 := (blk_cell hT.out.box 0).trans rfl
  clear h hF h1 h2 h3 hF1 hF2 hr hb hlt hrt hrg hbt hbg
  subst hW1
  go_enter Tryd.func63, Tryd.ntmps63
  repeat (first
    | ((with_reducible refine gate_callee (f := 37) rfl ?_); (with_reducible refine gate_dst (N := 8) rfl ?_); refine goesL_ (some 8) rfl rfl Tryd.func37 (by kernel_rfl) rfl #[.pointer (some ⟨g, 0, none⟩)] rfl (by (try simp only [List.map_toArray, List.map_cons, List.map_nil]); first | done | rfl) ?_; refine (hc1.out _ hT.out.rd).mono ?_; rintro e w1 ⟨rfl, HR1, G1⟩; refine ⟨_, rfl, ?_⟩; have HT1 := Aside0.mk (hT.out.read HR1 G1); have T1 := Aside0.mk (Two.of_g G1 t); have hb1 := Aside0.mk (T1.out.keep hb'.out hbt'.out.symm hbg'.out.symm); have hr1 := Aside0.mk (T1.out.keep hr'.out hrt'.out.symm hrg'.out.symm); have hy0 := (blk_cell hb1.out 0).trans rfl; have hf0 := blk_frozen hb1.out 0; clear HR1 G1 ht0; (try dsimp only))
    | ((with_reducible refine gate_callee (f := 59) rfl ?_); (with_reducible refine gate_dst (N := 11) rfl ?_); refine goesL_ (some 11) rfl rfl Tryd.func59 (by kernel_rfl) rfl #[.pointer (some ⟨t, 0, none⟩)] rfl (by (try simp only [List.map_toArray, List.map_cons, List.map_nil]); first | done | rfl) ?_; refine (hc2.out _ (HT1.out.set (le1 hbs.out) hbg'.out hbt'.out 0 _)).mono ?_; rintro e w2 ⟨rfl, HT2, T2⟩; refine ⟨_, rfl, ?_⟩; have HT2' := Aside0.mk HT2; have T2' := Aside0.mk T2; have hb2 := Aside0.mk (T2.keep (show _ = some (.cells #[.int .u64 n, .int .u64 0, .int .i64 0, .slice none 0 0] 52 (0, 0)) by simpa using blk_set hb1.out 0 (.int .u64 n)) hbt'.out.symm hbg'.out.symm); have hr2 := Aside0.mk (T2.keep (blk_set_far hr1.out (Nat.ne_of_lt (Nat.lt_succ_self _)) 0 (.int .u64 n)) hrt'.out.symm hrg'.out.symm); clear hy0 hf0; have hy1 := (blk_cell hb2.out 1).trans rfl; have hf1 := blk_frozen hb2.out 1; have hy2 := (blk_cell hb2.out 2).trans rfl; have hf2 := blk_frozen hb2.out 2; clear HT2 T2; (try dsimp only))
    | ((with_reducible refine gate_callee (f := 60) rfl ?_); (with_reducible refine gate_dst (N := 14) rfl ?_); refine goesL_ (some 14) rfl rfl Tryd.func60 (by kernel_rfl) rfl #[.pointer (some ⟨t, 0, none⟩)] rfl (by (try simp only [List.map_toArray, List.map_cons, List.map_nil]); first | done | rfl) ?_; refine (hc3.out _ ((HT2'.out.set (le1 hbs.out) hbg'.out hbt'.out 1 _).set (le1 hbs.out) hbg'.out hbt'.out 2 _)).mono ?_; rintro e w3 ⟨v, rfl, HV, HT3, T3⟩; refine ⟨_, rfl, ?_⟩; obtain ⟨Av, cv, rfl⟩ := Kd.V_slice HV; have HV' := Aside0.mk HV; have HT3' := Aside0.mk HT3; have T3' := Aside0.mk T3; have hb3 := Aside0.mk (T3.keep (set12 hb2.out (.int .u64 n2) (.int .i64 r2)) hbt'.out.symm hbg'.out.symm); have hr3 := Aside0.mk (T3.keep (blk_set_far (blk_set_far hr2.out (Nat.ne_of_lt (Nat.lt_succ_self _)) 1 (.int .u64 n2)) (Nat.ne_of_lt (Nat.lt_succ_self _)) 2 (.int .i64 r2)) hrt'.out.symm hrg'.out.symm); clear hy1 hf1 hy2 hf2; have hy0 := (blk_cell hb3.out 0).trans rfl; have hy1 := (blk_cell hb3.out 1).trans rfl; have hy2 := (blk_cell hb3.out 2).trans rfl; have hy3 := (blk_cell hb3.out 3).trans rfl; have hf3 := blk_frozen hb3.out 3; have hx0 := (blk_cell hr3.out 0).trans rfl; have hx1 := (blk_cell hr3.out 1).trans rfl; have hx2 := (blk_cell hr3.out 2).trans rfl; have hx3 := (blk_cell hr3.out 3).trans rfl; have hg0 := blk_frozen hr3.out 0; have hg1 := blk_frozen hr3.out 1; have hg2 := blk_frozen hr3.out 2; have hg3 := blk_frozen hr3.out 3; clear HT3 T3 HV; (try dsimp only))
    | go_step)
  have hsz : W.heap.size + 2 ≤ w2.heap.size := by
    have h1 := T1.out.size
    have h2 := T2'.out.size
    have h3 : ((W.alloc (.cells #[.int .u64 0, .int .u64 0, .int .i64 0, .slice none 0 0] 52)).alloc (.cells #[.int .u64 0, .int .u64 0, .int .i64 0, .slice none 0 0] 52)).heap.size = W.heap.size + 2 := by simp
    have h4 : (w1.setCell ⟨W.heap.size + 1, 0, none⟩ (.int .u64 n)).heap.size = w1.heap.size := by simp [World.setCell]
    omega
  have hV0 := Kd.V_mono HV'.out (ok' := fun k => W.heap.size + 2 ≤ k) (fun k hk => by
    have h5 : ((w2.setCell ⟨W.heap.size + 1, 1, none⟩ (.int .u64 n2)).setCell ⟨W.heap.size + 1, 2, none⟩ (.int .i64 r2)).heap.size = w2.heap.size := by simp [World.setCell]
    have hk' : ((w2.setCell ⟨W.heap.size + 1, 1, none⟩ (.int .u64 n2)).setCell ⟨W.heap.size + 1, 2, none⟩ (.int .i64 r2)).heap.size ≤ k := hk
    omega)
  have hb4 := blk_set_far hr3.out (Nat.ne_of_lt (Nat.lt_succ_self _)) 3 (.slice Av l.length cv)
  refine bodyPost_ret (results_cell_row rfl _ _ W.heap.size 52 _ (0, 0) _ rfl (set4 hb4 _ _ _ _) Tryd.underlying52 rfl (by kernel_rfl)) rfl ?_
  have f1 : ∀ k, W.heap.size + 2 ≤ k → k ≠ W.heap.size := fun k hk => by omega
  have f2 : ∀ k, W.heap.size + 2 ≤ k → k ≠ W.heap.size + 1 := fun k hk => by omega
  refine ⟨_, rfl, Kd.V_mono (Kd.V_far (p := ⟨W.heap.size, 3, none⟩) (Kd.V_far (p := ⟨W.heap.size, 2, none⟩) (Kd.V_far (p := ⟨W.heap.size, 1, none⟩) (Kd.V_far (p := ⟨W.heap.size, 0, none⟩) (Kd.V_far (p := ⟨W.heap.size + 1, 3, none⟩) hV0 f2 _) f1 _) f1 _) f1 _) f1 _) (fun k hk => by omega), ?_, ?_⟩
  · exact ((((HT3'.out.set (le1 hbs.out) hbg'.out hbt'.out 3 _).set hbs.out hrg'.out hrt'.out 0 _).set hbs.out hrg'.out hrt'.out 1 _).set hbs.out hrg'.out hrt'.out 2 _).set hbs.out hrg'.out hrt'.out 3 _
  · have e1 := (((Two.of_below hB1.out t g).trans T1.out).set_new (Nat.le_succ W.heap.size) 0 (.int .u64 n)).trans T2'.out
    have e2 := ((e1.set_new (Nat.le_succ W.heap.size) 1 (.int .u64 n2)).set_new (Nat.le_succ W.heap.size) 2 (.int .i64 r2)).trans T3'.out
    exact (((((e2.set_new (Nat.le_succ W.heap.size) 3 _).set_new (Nat.le_refl _) 0 _).set_new (Nat.le_refl _) 1 _).set_new (Nat.le_refl _) 2 _).set_new (Nat.le_refl _) 3 _)
end Go.Proofs.YtfkfboigkpofkaaDoor.M
end
