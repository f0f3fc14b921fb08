import Derived.Test.YthcgeekibomhiaaKMBaseA
import Derived.Test.YthcgeekibomhiaaKMBaseB
namespace Go.Proofs.Ythcgeekibomhiaa
set_option linter.unusedVariables false
set_option linter.unusedSimpArgs false
open Go.RowKit
def rTo (mi : Bool) (x : Int) (s : Nat) (n m : Int) : Nat := (cutQ s x n + if upB m mi (decide (cutQ s x n % 2 = 1)) (cutH s x n) (cutR s x n) = true then 1 else 0) % T256
def rOdd (s : Nat) (x n : Int) : Bool := cutH s x n || cutR s x n
theorem low_bit (q : Nat) : (bits .and .u64 (l0 q) 1 == 1) = decide (q % 2 = 1) := by
  have e := bits_mask64 (l0 q) (U0 q) 1 (by decide)
  rw [show ((2 ^ 1 - 1 : Nat) : Int) = 1 from rfl] at e
  rw [e, Bool.eq_iff_iff]
  unfold l0
  simp
  omega
set_option maxHeartbeats 2000000 in
set_option maxRecDepth 100000 in
theorem r_to_walk (mi ch cr up : Bool) (x n m : Int) (s cq : Nat) (hq : Hd (cq < T256)) (w : World)
    (hc : Hd (∀ w, Calls Try.prog 102 #[.agg #[.bool mi, .int .i64 x, .int .u64 (l0 s), .int .u64 (l1 s), .int .u64 (l2 s), .int .u64 (l3 s), .bool false], .int .i64 n] w fun e w' => ∃ q : Nat, Hd (q = cq ∧ q < T256) ∧ e = .returned (.tuple #[.agg #[.int .u64 (l0 q), .int .u64 (l1 q), .int .u64 (l2 q), .int .u64 (l3 q)], .bool ch, .bool cr]) ∧ Below w.heap.size w w'))
    (hu : Hd (up = upB m mi (decide (cq % 2 = 1)) ch cr)) : Calls Try.prog 79 #[.agg #[.bool mi, .int .i64 x, .int .u64 (l0 s), .int .u64 (l1 s), .int .u64 (l2 s), .int .u64 (l3 s), .bool false], .int .i64 n, .int .i64 m] w fun e w' =>
    ∃ q : Nat, Hd (q = (cq + if up = true then 1 else 0) % T256 ∧ q < T256) ∧ e = .returned (.tuple #[.agg #[.int .u64 (l0 q), .int .u64 (l1 q), .int .u64 (l2 q), .int .u64 (l3 q)], .bool (ch || cr)]) ∧ Below w.heap.size w w' := by
  have lb := low_bit cq
  go_enter Try.func79, Try.ntmps79
  go_wp2_with fail
  refine (hc.out _).mono ?_; rintro e w1 ⟨q, hqq, rfl, hb⟩; have k0 : Blk w1 (w.heap.size) 64 #[.bool mi, .int .i64 x, .int .u64 (l0 s), .int .u64 (l1 s), .int .u64 (l2 s), .int .u64 (l3 s), .bool false] := BLKq; have k1 : Blk w1 (w.heap.size + 1) 62 #[.int .u64 0, .int .u64 0, .int .u64 0, .int .u64 0] := BLKq; have ltk0_w1 := k0.lt; have ltk1_w1 := k1.lt; have KB : Hd (Below w.heap.size w w1) := Hd.mk (bthen BELz hb); have hzw1 := hb.size
  (try simp at hzw1)
  clear hb; obtain rfl : q = cq := hqq.out.1; have ck0_0 : w1.cell? ⟨w.heap.size, 0, none⟩ = some (.bool mi) := k0.cell 0; have fk0_0 := k0.free 0; have ck0_1 : w1.cell? ⟨w.heap.size, 1, none⟩ = some (.int .i64 x) := k0.cell 1; have fk0_1 := k0.free 1; have ck0_2 : w1.cell? ⟨w.heap.size, 2, none⟩ = some (.int .u64 (l0 s)) := k0.cell 2; have fk0_2 := k0.free 2; have ck0_3 : w1.cell? ⟨w.heap.size, 3, none⟩ = some (.int .u64 (l1 s)) := k0.cell 3; have fk0_3 := k0.free 3; have ck0_4 : w1.cell? ⟨w.heap.size, 4, none⟩ = some (.int .u64 (l2 s)) := k0.cell 4; have fk0_4 := k0.free 4; have ck0_5 : w1.cell? ⟨w.heap.size, 5, none⟩ = some (.int .u64 (l3 s)) := k0.cell 5; have fk0_5 := k0.free 5; have ck0_6 : w1.cell? ⟨w.heap.size, 6, none⟩ = some (.bool false) := k0.cell 6; have fk0_6 := k0.free 6
  go_wp2_with fail
  refine (r_up m mi (decide (q % 2 = 1)) ch cr _).mono ?_; rintro e w2 ⟨rfl, hb⟩; replace k0 : Blk w2 (w.heap.size) 64 #[.bool mi, .int .i64 x, .int .u64 (l0 s), .int .u64 (l1 s), .int .u64 (l2 s), .int .u64 (l3 s), .bool false] := BLKq; replace k1 : Blk w2 (w.heap.size + 1) 62 #[.int .u64 0, .int .u64 0, .int .u64 0, .int .u64 0] := BLKq; have kq : Blk w2 (w1.heap.size) 62 #[.int .u64 (l0 q), .int .u64 (l1 q), .int .u64 (l2 q), .int .u64 (l3 q)] := BLKq; have ltk0_w2 := k0.lt; have ltk1_w2 := k1.lt; have ltkq_w2 := kq.lt; replace KB : Hd (Below w.heap.size w w2) := Hd.mk (bthen (BELq KB) hb); have hzw2 := hb.size
  (try simp at hzw2)
  clear hb; clear ck0_0 fk0_0 ck0_1 fk0_1 ck0_2 fk0_2 ck0_3 fk0_3 ck0_4 fk0_4 ck0_5 fk0_5 ck0_6 fk0_6; rw [← hu.out]
  cases up with
  | false =>
    have ck0_0 : w2.cell? ⟨w.heap.size, 0, none⟩ = some (.bool mi) := k0.cell 0; have fk0_0 := k0.free 0; have ck0_1 : w2.cell? ⟨w.heap.size, 1, none⟩ = some (.int .i64 x) := k0.cell 1; have fk0_1 := k0.free 1; have ck0_2 : w2.cell? ⟨w.heap.size, 2, none⟩ = some (.int .u64 (l0 s)) := k0.cell 2; have fk0_2 := k0.free 2; have ck0_3 : w2.cell? ⟨w.heap.size, 3, none⟩ = some (.int .u64 (l1 s)) := k0.cell 3; have fk0_3 := k0.free 3; have ck0_4 : w2.cell? ⟨w.heap.size, 4, none⟩ = some (.int .u64 (l2 s)) := k0.cell 4; have fk0_4 := k0.free 4; have ck0_5 : w2.cell? ⟨w.heap.size, 5, none⟩ = some (.int .u64 (l3 s)) := k0.cell 5; have fk0_5 := k0.free 5; have ck0_6 : w2.cell? ⟨w.heap.size, 6, none⟩ = some (.bool false) := k0.cell 6; have fk0_6 := k0.free 6; have ck1_0 : w2.cell? ⟨w.heap.size + 1, 0, none⟩ = some (.int .u64 0) := k1.cell 0; have fk1_0 := k1.free 0; have ck1_1 : w2.cell? ⟨w.heap.size + 1, 1, none⟩ = some (.int .u64 0) := k1.cell 1; have fk1_1 := k1.free 1; have ck1_2 : w2.cell? ⟨w.heap.size + 1, 2, none⟩ = some (.int .u64 0) := k1.cell 2; have fk1_2 := k1.free 2; have ck1_3 : w2.cell? ⟨w.heap.size + 1, 3, none⟩ = some (.int .u64 0) := k1.cell 3; have fk1_3 := k1.free 3; have ckq_0 : w2.cell? ⟨w1.heap.size, 0, none⟩ = some (.int .u64 (l0 q)) := kq.cell 0; have fkq_0 := kq.free 0; have ckq_1 : w2.cell? ⟨w1.heap.size, 1, none⟩ = some (.int .u64 (l1 q)) := kq.cell 1; have fkq_1 := kq.free 1; have ckq_2 : w2.cell? ⟨w1.heap.size, 2, none⟩ = some (.int .u64 (l2 q)) := kq.cell 2; have fkq_2 := kq.free 2; have ckq_3 : w2.cell? ⟨w1.heap.size, 3, none⟩ = some (.int .u64 (l3 q)) := kq.cell 3; have fkq_3 := kq.free 3
    cases ch <;> cases cr
    all_goals
      go_wp2_with fail
      refine bodyPost_ret (v := .tuple #[.agg #[.int .u64 (l0 q), .int .u64 (l1 q), .int .u64 (l2 q), .int .u64 (l3 q)], .bool _]) (by simp [results, Try.results79, go_sem, *]) rfl ⟨q, ⟨by first | exact (Nat.mod_eq_of_lt hq.out).symm | (rw [if_neg (by decide)]; exact (Nat.mod_eq_of_lt hq.out).symm), hq.out⟩, rfl, ?_⟩; have HB := KB; exact BELq HB
  | true =>
    have ck0_0 : w2.cell? ⟨w.heap.size, 0, none⟩ = some (.bool mi) := k0.cell 0; have fk0_0 := k0.free 0; have ck0_1 : w2.cell? ⟨w.heap.size, 1, none⟩ = some (.int .i64 x) := k0.cell 1; have fk0_1 := k0.free 1; have ck0_2 : w2.cell? ⟨w.heap.size, 2, none⟩ = some (.int .u64 (l0 s)) := k0.cell 2; have fk0_2 := k0.free 2; have ck0_3 : w2.cell? ⟨w.heap.size, 3, none⟩ = some (.int .u64 (l1 s)) := k0.cell 3; have fk0_3 := k0.free 3; have ck0_4 : w2.cell? ⟨w.heap.size, 4, none⟩ = some (.int .u64 (l2 s)) := k0.cell 4; have fk0_4 := k0.free 4; have ck0_5 : w2.cell? ⟨w.heap.size, 5, none⟩ = some (.int .u64 (l3 s)) := k0.cell 5; have fk0_5 := k0.free 5; have ck0_6 : w2.cell? ⟨w.heap.size, 6, none⟩ = some (.bool false) := k0.cell 6; have fk0_6 := k0.free 6; have ck1_0 : w2.cell? ⟨w.heap.size + 1, 0, none⟩ = some (.int .u64 0) := k1.cell 0; have fk1_0 := k1.free 0; have ck1_1 : w2.cell? ⟨w.heap.size + 1, 1, none⟩ = some (.int .u64 0) := k1.cell 1; have fk1_1 := k1.free 1; have ck1_2 : w2.cell? ⟨w.heap.size + 1, 2, none⟩ = some (.int .u64 0) := k1.cell 2; have fk1_2 := k1.free 2; have ck1_3 : w2.cell? ⟨w.heap.size + 1, 3, none⟩ = some (.int .u64 0) := k1.cell 3; have fk1_3 := k1.free 3; have ckq_0 : w2.cell? ⟨w1.heap.size, 0, none⟩ = some (.int .u64 (l0 q)) := kq.cell 0; have fkq_0 := kq.free 0; have ckq_1 : w2.cell? ⟨w1.heap.size, 1, none⟩ = some (.int .u64 (l1 q)) := kq.cell 1; have fkq_1 := kq.free 1; have ckq_2 : w2.cell? ⟨w1.heap.size, 2, none⟩ = some (.int .u64 (l2 q)) := kq.cell 2; have fkq_2 := kq.free 2; have ckq_3 : w2.cell? ⟨w1.heap.size, 3, none⟩ = some (.int .u64 (l3 q)) := kq.cell 3; have fkq_3 := kq.free 3; have HB := Hd.mk (Below.refl w2.heap.size w2)
    go_wp2_with fail
    go_region_with (first | (go_at_call 66; refine (wof 1 (by unfold U; omega) _).mono ?_; rintro e w3 ⟨rfl, hb⟩; have kdd : Blk w3 (w1.heap.size) 62 #[.int .u64 (l0 q), .int .u64 (l1 q), .int .u64 (l2 q), .int .u64 (l3 q)] := Blk.aft hb BLKq; have j1 : Blk w3 (w.heap.size + 1) 62 #[.int .u64 0, .int .u64 0, .int .u64 0, .int .u64 0] := Blk.aft hb BLKq; have dd := kdd.four; have jj := j1.four; have lj := j1.lt; have lk := kdd.lt; obtain ⟨hc, hf⟩ := bcell hb; have hz := hb.size; (try simp at hz); (try (have hz2 := Nat.lt_of_succ_le hz)); have n0 := Hd.mk (bthen (by repeat (first | (with_reducible exact HB.out) | (with_reducible apply bdrN) | (with_reducible apply bdr) | (with_reducible apply bal))) hb); clear HB; have HB := n0; clear n0) | (go_at_call 100; refine (wadd q (Int.toNat 1) hq.out (by unfold T256; decide) _).mono ?_; rintro e w3 ⟨z, oz, hz1, rfl, hb⟩; have kdd : Blk w3 (w1.heap.size) 62 #[.int .u64 (l0 q), .int .u64 (l1 q), .int .u64 (l2 q), .int .u64 (l3 q)] := Blk.aft hb BLKq; have j1 : Blk w3 (w.heap.size + 1) 62 #[.int .u64 0, .int .u64 0, .int .u64 0, .int .u64 0] := Blk.aft hb BLKq; have dd := kdd.four; have jj := j1.four; have lj := j1.lt; have lk := kdd.lt; obtain ⟨hc, hf⟩ := bcell hb; have hz := hb.size; (try simp at hz); (try (have hz2 := Nat.lt_of_succ_le hz)); have n0 := Hd.mk (bthen (by repeat (first | (with_reducible exact HB.out) | (with_reducible apply bdrN) | (with_reducible apply bdr) | (with_reducible apply bal))) hb); clear HB; have HB := n0; clear n0))
    all_goals
      have HZ : Hd (z = (q + 1) % T256) := ⟨hz1.out.1⟩
      cases ch <;> cases cr
      all_goals
        go_wp2_with fail
        refine bodyPost_ret (v := .tuple #[.agg #[.int .u64 (l0 z), .int .u64 (l1 z), .int .u64 (l2 z), .int .u64 (l3 z)], .bool _]) (by simp [results, Try.results79, go_sem, *]) rfl ⟨z, ⟨by first | exact HZ.out | (rw [if_pos rfl]; exact HZ.out), by rw [HZ.out]; exact Nat.mod_lt _ (by decide)⟩, rfl, ?_⟩; have HB := Hd.mk (bthen KB.out HB.out); exact BELq HB
theorem r_to (mi : Bool) (x n m : Int) (s : Nat) (hs : s < T256) (w : World) (h0 : -300000 ≤ x) (h1 : x ≤ 300000) (h2 : -300000 ≤ n) (h3 : n ≤ 300000) : Calls Try.prog 79 #[.agg #[.bool mi, .int .i64 x, .int .u64 (l0 s), .int .u64 (l1 s), .int .u64 (l2 s), .int .u64 (l3 s), .bool false], .int .i64 n, .int .i64 m] w fun e w' =>
    ∃ q : Nat, Hd (q = rTo mi x s n m ∧ q < T256) ∧ e = .returned (.tuple #[.agg #[.int .u64 (l0 q), .int .u64 (l1 q), .int .u64 (l2 q), .int .u64 (l3 q)], .bool (rOdd s x n)]) ∧ Below w.heap.size w w' :=
  r_to_walk mi (cutH s x n) (cutR s x n) _ x n m s (cutQ s x n) ⟨cutQ_lt s x n hs⟩ w ⟨fun w => r_cut mi x n s hs w h0 h1 h2 h3⟩ ⟨rfl⟩
def rTiny (mi : Bool) (x : Int) (s : Nat) (top m : Int) : Bool := if -1021 ≤ top then false else if top < -1022 then true else decide (blen (rTo mi x s (top - 53) m) ≤ 53)
set_option maxHeartbeats 1000000 in
set_option maxRecDepth 100000 in
theorem r_tiny (mi : Bool) (x top m : Int) (s : Nat) (hs : s < T256) (w : World) (h0 : -300000 ≤ x) (h1 : x ≤ 300000) (h2 : -299000 ≤ top) (h3 : top ≤ 300000) : Calls Try.prog 80 #[.agg #[.bool mi, .int .i64 x, .int .u64 (l0 s), .int .u64 (l1 s), .int .u64 (l2 s), .int .u64 (l3 s), .bool false], .int .i64 top, .int .i64 m] w fun e w' =>
    e = .returned (.bool (rTiny mi x s top m)) ∧ Below w.heap.size w w' := by
  unfold rTiny
  by_cases c1 : -1021 ≤ top
  · rw [if_pos c1]
    go_enter Try.func80, Try.ntmps80
    go_wp2_with fail
    go_ret
    exact ⟨rfl, BELz⟩
  · rw [if_neg c1]
    by_cases c2 : top < -1022
    · rw [if_pos c2]
      go_enter Try.func80, Try.ntmps80
      go_wp2_with fail
      go_ret
      exact ⟨rfl, BELz⟩
    · rw [if_neg c2]
      have HS := Hd.mk hs; clear hs
      go_enter Try.func80, Try.ntmps80
      go_wp2_with fail
      refine (r_to mi x _ m s HS.out _ h0 h1 (by omega) (by omega)).mono ?_; rintro e w1 ⟨q, hq, rfl, hb⟩; have k0 : Blk w1 (w.heap.size) 64 #[.bool mi, .int .i64 x, .int .u64 (l0 s), .int .u64 (l1 s), .int .u64 (l2 s), .int .u64 (l3 s), .bool false] := BLKq; have ltk0_w1 := k0.lt; have KB : Hd (Below w.heap.size w w1) := Hd.mk (bthen BELz hb); have hzw1 := hb.size
      (try simp at hzw1)
      clear hb
      go_wp2_with fail
      refine (wlen q hq.out.2 _).mono ?_; rintro e w2 ⟨rfl, hb⟩; replace k0 : Blk w2 (w.heap.size) 64 #[.bool mi, .int .i64 x, .int .u64 (l0 s), .int .u64 (l1 s), .int .u64 (l2 s), .int .u64 (l3 s), .bool false] := BLKq; have kq : Blk w2 (w1.heap.size) 62 #[.int .u64 (l0 q), .int .u64 (l1 q), .int .u64 (l2 q), .int .u64 (l3 q)] := BLKq; have ltk0_w2 := k0.lt; have ltkq_w2 := kq.lt; replace KB : Hd (Below w.heap.size w w2) := Hd.mk (bthen (BELq KB) hb); have hzw2 := hb.size
      (try simp at hzw2)
      clear hb; have ED := Hd.mk (show decide ((blen q : Int) ≤ 53) = decide (blen q ≤ 53) by rw [Bool.eq_iff_iff]; simp; omega)
      go_wp2_with fail
      rw [← hq.out.1]
      go_ret
      exact ⟨congrArg (fun b => Ending.returned (.bool b)) ED.out, BELq KB⟩
set_option maxHeartbeats 1000000 in
set_option maxRecDepth 100000 in
theorem r_of_no (p : Int) (hp : U p) (hf : ¬ pC p < 3) (w : World) : Calls Try.prog 48 #[.int .u64 p] w fun e w' =>
    e = .returned (.tuple #[.agg #[.bool false, .int .i64 0, .int .u64 0, .int .u64 0, .int .u64 0, .int .u64 0, .bool false], .iface 112 (.int .i64 1)]) ∧ Below w.heap.size w w' := by
  have HP := Hd.mk hp; have hd : decide (pC p < 3) = false := decide_eq_false hf; clear hp hf
  go_enter Try.func48, Try.ntmps48
  go_wp2_with fail
  refine (take p HP.out _).mono ?_; rintro e w1 ⟨rfl, hb⟩; have k0 : Blk w1 (w.heap.size) 64 #[.bool false, .int .i64 0, .int .u64 0, .int .u64 0, .int .u64 0, .int .u64 0, .bool false] := BLKq; have ltk0_w1 := k0.lt; have KB : Hd (Below w.heap.size w w1) := Hd.mk (bthen BELz hb); have hzw1 := hb.size
  (try simp at hzw1)
  clear hb
  go_wp2_with fail
  refine (p_finite p HP.out _).mono ?_; rintro e w2 ⟨rfl, hb⟩; replace k0 : Blk w2 (w.heap.size) 64 #[.bool false, .int .i64 0, .int .u64 0, .int .u64 0, .int .u64 0, .int .u64 0, .bool false] := BLKq; have kp : Blk w2 (w1.heap.size) 86 #[.bool (pM p), .int .i64 (pC p), .int .i64 (pX p), .int .u64 (pS p)] := BLKq; have ltk0_w2 := k0.lt; have ltkp_w2 := kp.lt; replace KB : Hd (Below w.heap.size w w2) := Hd.mk (bthen (BELq KB) hb); have hzw2 := hb.size
  (try simp at hzw2)
  clear hb; have ck0_0 : w2.cell? ⟨w.heap.size, 0, none⟩ = some (.bool false) := k0.cell 0; have fk0_0 := k0.free 0; have ck0_1 : w2.cell? ⟨w.heap.size, 1, none⟩ = some (.int .i64 0) := k0.cell 1; have fk0_1 := k0.free 1; have ck0_2 : w2.cell? ⟨w.heap.size, 2, none⟩ = some (.int .u64 0) := k0.cell 2; have fk0_2 := k0.free 2; have ck0_3 : w2.cell? ⟨w.heap.size, 3, none⟩ = some (.int .u64 0) := k0.cell 3; have fk0_3 := k0.free 3; have ck0_4 : w2.cell? ⟨w.heap.size, 4, none⟩ = some (.int .u64 0) := k0.cell 4; have fk0_4 := k0.free 4; have ck0_5 : w2.cell? ⟨w.heap.size, 5, none⟩ = some (.int .u64 0) := k0.cell 5; have fk0_5 := k0.free 5; have ck0_6 : w2.cell? ⟨w.heap.size, 6, none⟩ = some (.bool false) := k0.cell 6; have fk0_6 := k0.free 6; have ckp_0 : w2.cell? ⟨w1.heap.size, 0, none⟩ = some (.bool (pM p)) := kp.cell 0; have fkp_0 := kp.free 0; have ckp_1 : w2.cell? ⟨w1.heap.size, 1, none⟩ = some (.int .i64 (pC p)) := kp.cell 1; have fkp_1 := kp.free 1; have ckp_2 : w2.cell? ⟨w1.heap.size, 2, none⟩ = some (.int .i64 (pX p)) := kp.cell 2; have fkp_2 := kp.free 2; have ckp_3 : w2.cell? ⟨w1.heap.size, 3, none⟩ = some (.int .u64 (pS p)) := kp.cell 3; have fkp_3 := kp.free 3; rw [hd]
  go_wp2_with fail
  refine bodyPost_ret (v := .tuple #[.agg #[.bool false, .int .i64 0, .int .u64 0, .int .u64 0, .int .u64 0, .int .u64 0, .bool false], .iface 112 (.int .i64 1)]) (by simp [results, Try.results48, go_sem, *]) rfl ⟨rfl, ?_⟩; have HB := KB; exact BELq HB
theorem U_S (p : Int) (hp : U p) : U (pS p) ∧ 0 ≤ pS p ∧ pS p < 9007199254740992 := by
  have := pF_bd p
  unfold pS U
  split
  · omega
  · split <;> omega
set_option maxHeartbeats 1000000 in
set_option maxRecDepth 100000 in
theorem r_of (p : Int) (hp : U p) (hf : pC p < 3) (w : World) : Calls Try.prog 48 #[.int .u64 p] w fun e w' =>
    e = .returned (.tuple #[.agg #[.bool (pM p), .int .i64 (pX p), .int .u64 (l0 ((pS p).toNat)), .int .u64 (l1 ((pS p).toNat)), .int .u64 (l2 ((pS p).toNat)), .int .u64 (l3 ((pS p).toNat)), .bool false], .nilIface]) ∧ Below w.heap.size w w' := by
  have HP := Hd.mk hp; have HU := Hd.mk (U_S p hp).1; have hd : decide (pC p < 3) = true := decide_eq_true hf; clear hp hf
  go_enter Try.func48, Try.ntmps48
  go_wp2_with fail
  refine (take p HP.out _).mono ?_; rintro e w1 ⟨rfl, hb⟩; have k0 : Blk w1 (w.heap.size) 64 #[.bool false, .int .i64 0, .int .u64 0, .int .u64 0, .int .u64 0, .int .u64 0, .bool false] := BLKq; have ltk0_w1 := k0.lt; have KB : Hd (Below w.heap.size w w1) := Hd.mk (bthen BELz hb); have hzw1 := hb.size
  (try simp at hzw1)
  clear hb
  go_wp2_with fail
  refine (p_finite p HP.out _).mono ?_; rintro e w2 ⟨rfl, hb⟩; replace k0 : Blk w2 (w.heap.size) 64 #[.bool false, .int .i64 0, .int .u64 0, .int .u64 0, .int .u64 0, .int .u64 0, .bool false] := BLKq; have kp : Blk w2 (w1.heap.size) 86 #[.bool (pM p), .int .i64 (pC p), .int .i64 (pX p), .int .u64 (pS p)] := BLKq; have ltk0_w2 := k0.lt; have ltkp_w2 := kp.lt; replace KB : Hd (Below w.heap.size w w2) := Hd.mk (bthen (BELq KB) hb); have hzw2 := hb.size
  (try simp at hzw2)
  clear hb; have ck0_0 : w2.cell? ⟨w.heap.size, 0, none⟩ = some (.bool false) := k0.cell 0; have fk0_0 := k0.free 0; have ck0_1 : w2.cell? ⟨w.heap.size, 1, none⟩ = some (.int .i64 0) := k0.cell 1; have fk0_1 := k0.free 1; have ck0_2 : w2.cell? ⟨w.heap.size, 2, none⟩ = some (.int .u64 0) := k0.cell 2; have fk0_2 := k0.free 2; have ck0_3 : w2.cell? ⟨w.heap.size, 3, none⟩ = some (.int .u64 0) := k0.cell 3; have fk0_3 := k0.free 3; have ck0_4 : w2.cell? ⟨w.heap.size, 4, none⟩ = some (.int .u64 0) := k0.cell 4; have fk0_4 := k0.free 4; have ck0_5 : w2.cell? ⟨w.heap.size, 5, none⟩ = some (.int .u64 0) := k0.cell 5; have fk0_5 := k0.free 5; have ck0_6 : w2.cell? ⟨w.heap.size, 6, none⟩ = some (.bool false) := k0.cell 6; have fk0_6 := k0.free 6; have ckp_0 : w2.cell? ⟨w1.heap.size, 0, none⟩ = some (.bool (pM p)) := kp.cell 0; have fkp_0 := kp.free 0; have ckp_1 : w2.cell? ⟨w1.heap.size, 1, none⟩ = some (.int .i64 (pC p)) := kp.cell 1; have fkp_1 := kp.free 1; have ckp_2 : w2.cell? ⟨w1.heap.size, 2, none⟩ = some (.int .i64 (pX p)) := kp.cell 2; have fkp_2 := kp.free 2; have ckp_3 : w2.cell? ⟨w1.heap.size, 3, none⟩ = some (.int .u64 (pS p)) := kp.cell 3; have fkp_3 := kp.free 3; rw [hd]; have HB := Hd.mk (Below.refl w2.heap.size w2)
  have n1 : w.heap.size ≠ w1.heap.size := by omega
  have n2 : w1.heap.size ≠ w.heap.size := by omega
  go_wp2_with fail
  go_region_with (go_at_call 66; refine (wof _ HU.out _).mono ?_; rintro e w3 ⟨rfl, hb⟩; have j1 : Blk w3 (w.heap.size) 64 #[.bool false, .int .i64 0, .int .u64 0, .int .u64 0, .int .u64 0, .int .u64 0, .bool false] := Blk.aft hb BLKq; have j2 : Blk w3 (w1.heap.size) 86 #[.bool (pM p), .int .i64 (pC p), .int .i64 (pX p), .int .u64 (pS p)] := Blk.aft hb BLKq; have fj0 := j1.free 0; have fj1 := j1.free 1; have fj2 := j1.free 2; have fj3 := j1.free 3; have fj4 := j1.free 4; have fj5 := j1.free 5; have fj6 := j1.free 6; have cj0 : w3.cell? ⟨w.heap.size, 0, none⟩ = some (.bool false) := j1.cell 0; have cj1 : w3.cell? ⟨w.heap.size, 1, none⟩ = some (.int .i64 0) := j1.cell 1; have cj2 : w3.cell? ⟨w.heap.size, 2, none⟩ = some (.int .u64 0) := j1.cell 2; have cj3 : w3.cell? ⟨w.heap.size, 3, none⟩ = some (.int .u64 0) := j1.cell 3; have cj4 : w3.cell? ⟨w.heap.size, 4, none⟩ = some (.int .u64 0) := j1.cell 4; have cj5 : w3.cell? ⟨w.heap.size, 5, none⟩ = some (.int .u64 0) := j1.cell 5; have cj6 : w3.cell? ⟨w.heap.size, 6, none⟩ = some (.bool false) := j1.cell 6; have cp0 : w3.cell? ⟨w1.heap.size, 0, none⟩ = some (.bool (pM p)) := j2.cell 0; have cp1 : w3.cell? ⟨w1.heap.size, 1, none⟩ = some (.int .i64 (pC p)) := j2.cell 1; have cp2 : w3.cell? ⟨w1.heap.size, 2, none⟩ = some (.int .i64 (pX p)) := j2.cell 2; have cp3 : w3.cell? ⟨w1.heap.size, 3, none⟩ = some (.int .u64 (pS p)) := j2.cell 3; have lj1 := j1.lt; have lj2 := j2.lt; obtain ⟨hc, hf⟩ := bcell hb; have hz := hb.size; (try simp at hz); (try (have hz2 := Nat.lt_of_succ_le hz)); have n0 := Hd.mk (bthen (by repeat (first | (with_reducible exact HB.out) | (with_reducible apply bdrN) | (with_reducible apply bdr) | (with_reducible apply bal))) hb); clear HB; have HB := n0; clear n0)
  all_goals
    go_wp2_with fail
    refine bodyPost_ret (v := .tuple #[.agg #[.bool (pM p), .int .i64 (pX p), .int .u64 (l0 ((pS p).toNat)), .int .u64 (l1 ((pS p).toNat)), .int .u64 (l2 ((pS p).toNat)), .int .u64 (l3 ((pS p).toNat)), .bool false], .nilIface]) (by simp [results, Try.results48, go_sem, *]) rfl ⟨rfl, ?_⟩; have HB := Hd.mk (bthen KB.out HB.out); exact BELq HB
end Go.Proofs.Ythcgeekibomhiaa
namespace Go.Proofs.Ythcgeekibomhiaa
set_option linter.unusedVariables false
set_option linter.unusedSimpArgs false
open Go.RowKit
def rTop (x : Int) (s : Nat) : Int := x + (blen s : Int)
def rN (x : Int) (s : Nat) : Int := if rTop x s - 53 < -1074 then -1074 else rTop x s - 53
def rFlag (mi : Bool) (x : Int) (s : Nat) (m : Int) : Int := if rOdd s x (rN x s) then (if rTiny mi x s (rTop x s) m then 24 else 16) else 0
def rQ (mi : Bool) (x : Int) (s : Nat) (m : Int) : Nat := rTo mi x s (rN x s) m
def rQ2 (mi : Bool) (x : Int) (s : Nat) (m : Int) : Nat := if 53 < blen (rQ mi x s m) then rQ mi x s m / 2 else rQ mi x s m
def rN2 (mi : Bool) (x : Int) (s : Nat) (m : Int) : Int := if 53 < blen (rQ mi x s m) then rN x s + 1 else rN x s
def rP (q : Nat) (n : Int) : Int := if 4503599627370496 ≤ l0 q then IntKind.u64.wrap (l0 q + (n + 1074) * 4503599627370496) else l0 q
def rRound (mi : Bool) (x : Int) (s : Nat) (m : Int) : Int × Int :=
  if s = 0 then (sg mi, 0) else if 971 < rN2 mi x s m then (overP mi m, 20) else (pA (rP (rQ2 mi x s m) (rN2 mi x s m)) + sg mi, rFlag mi x s m)
theorem U_sg (b : Bool) : U (sg b) := by have := sg_bd b; unfold U; omega
theorem pM_sg (b : Bool) : pM (sg b) = b := by cases b <;> decide
theorem U_wrap (z : Int) : U (IntKind.u64.wrap z) := by rw [IntKind.wrap_u64]; unfold U; omega
theorem or_16_8 : bits .or .u8 16 8 = 24 := by decide
set_option maxHeartbeats 2000000 in
set_option maxRecDepth 100000 in
theorem r_round_nil (mi mo : Bool) (x x' m : Int) (s s' : Nat) (hs : s' < T256) (h0 : -131072 ≤ x) (h1 : x ≤ 131072) (h2 : -140000 ≤ x') (h3 : x' ≤ 140000)
    (HE : Hd (∀ w, Calls Try.prog 75 #[.agg #[.bool mi, .int .i64 x, .int .u64 (l0 s), .int .u64 (l1 s), .int .u64 (l2 s), .int .u64 (l3 s), .bool mo]] w fun e w' => e = .returned (.agg #[.bool mi, .int .i64 x', .int .u64 (l0 s'), .int .u64 (l1 s'), .int .u64 (l2 s'), .int .u64 (l3 s'), .bool false]) ∧ Below w.heap.size w w')) (hz : s' = 0) (w : World) : Calls Try.prog 46 #[.agg #[.bool mi, .int .i64 x, .int .u64 (l0 s), .int .u64 (l1 s), .int .u64 (l2 s), .int .u64 (l3 s), .bool mo], .int .i64 m] w fun e w' => e = .returned (.tuple #[.int .u64 (sg mi), .int .u8 0]) ∧ Below w.heap.size w w' := by
  have hE := fun w => eq_nil w s' hs
  have hd : decide (s' = 0) = true := decide_eq_true hz; have U0' : Hd (U 0) := ⟨U_zero⟩; have US := Hd.mk (U_sg mi); have PS := Hd.mk (show pA 0 + sg (pM (sg mi)) = sg mi by rw [pM_sg]; cases mi <;> decide); clear hz hs
  go_enter Try.func46, Try.ntmps46
  go_wp2_with fail
  refine (r_near mi mo x s h0 h1 _).mono ?_; rintro e w1 ⟨rfl, hb⟩; have k0 : Blk w1 (w.heap.size) 64 #[.bool mi, .int .i64 x, .int .u64 (l0 s), .int .u64 (l1 s), .int .u64 (l2 s), .int .u64 (l3 s), .bool mo] := BLKq; have ltk0_w1 := k0.lt; have KB : Hd (Below w.heap.size w w1) := Hd.mk (bthen BELz hb); have hzw1 := hb.size
  (try simp at hzw1)
  clear hb
  go_wp2_with fail
  refine (HE.out _).mono ?_; rintro e w2 ⟨rfl, hb⟩; replace k0 : Blk w2 (w.heap.size) 64 #[.bool mi, .int .i64 x, .int .u64 (l0 s), .int .u64 (l1 s), .int .u64 (l2 s), .int .u64 (l3 s), .bool mo] := BLKq; have ltk0_w2 := k0.lt; replace KB : Hd (Below w.heap.size w w2) := Hd.mk (bthen (BELq KB) hb); have hzw2 := hb.size
  (try simp at hzw2)
  clear hb; have ck0_0 : w2.cell? ⟨w.heap.size, 0, none⟩ = some (.bool mi) := k0.cell 0; have fk0_0 := k0.free 0; have ck0_1 : w2.cell? ⟨w.heap.size, 1, none⟩ = some (.int .i64 x) := k0.cell 1; have fk0_1 := k0.free 1; have ck0_2 : w2.cell? ⟨w.heap.size, 2, none⟩ = some (.int .u64 (l0 s)) := k0.cell 2; have fk0_2 := k0.free 2; have ck0_3 : w2.cell? ⟨w.heap.size, 3, none⟩ = some (.int .u64 (l1 s)) := k0.cell 3; have fk0_3 := k0.free 3; have ck0_4 : w2.cell? ⟨w.heap.size, 4, none⟩ = some (.int .u64 (l2 s)) := k0.cell 4; have fk0_4 := k0.free 4; have ck0_5 : w2.cell? ⟨w.heap.size, 5, none⟩ = some (.int .u64 (l3 s)) := k0.cell 5; have fk0_5 := k0.free 5; have ck0_6 : w2.cell? ⟨w.heap.size, 6, none⟩ = some (.bool mo) := k0.cell 6; have fk0_6 := k0.free 6
  go_wp2_with fail
  refine (r_sign mi _).mono ?_; rintro e w3 ⟨rfl, hb⟩
  replace k0 : Blk w3 (w.heap.size) 64 #[.bool mi, .int .i64 x', .int .u64 (l0 s'), .int .u64 (l1 s'), .int .u64 (l2 s'), .int .u64 (l3 s'), .bool false] := by
    apply Blk.same
    · exact BLKq
    · rfl
  have ltk0_w3 := k0.lt; replace KB : Hd (Below w.heap.size w w3) := Hd.mk (bthen (BELq KB) hb); have hzw3 := hb.size
  (try simp at hzw3)
  clear hb; clear ck0_0 fk0_0 ck0_1 fk0_1 ck0_2 fk0_2 ck0_3 fk0_3 ck0_4 fk0_4 ck0_5 fk0_5 ck0_6 fk0_6
  go_wp2_with fail
  refine (p_copy 0 (sg mi) U0'.out US.out _).mono ?_; rintro e w4 ⟨rfl, hb⟩; replace k0 : Blk w4 (w.heap.size) 64 #[.bool mi, .int .i64 x', .int .u64 (l0 s'), .int .u64 (l1 s'), .int .u64 (l2 s'), .int .u64 (l3 s'), .bool false] := BLKq; have ltk0_w4 := k0.lt; replace KB : Hd (Below w.heap.size w w4) := Hd.mk (bthen (BELq KB) hb); have hzw4 := hb.size
  (try simp at hzw4)
  clear hb; rw [PS.out]
  go_wp2_with fail
  go_ret2
  refine ⟨rfl, ?_⟩; have HB := KB; exact BELq HB
set_option maxHeartbeats 4000000 in
set_option maxRecDepth 100000 in
theorem r_round_lo (mi mo : Bool) (x x' m : Int) (s s' : Nat) (hs : s' < T256) (h0 : -131072 ≤ x) (h1 : x ≤ 131072) (h2 : -140000 ≤ x') (h3 : x' ≤ 140000)
    (HE : Hd (∀ w, Calls Try.prog 75 #[.agg #[.bool mi, .int .i64 x, .int .u64 (l0 s), .int .u64 (l1 s), .int .u64 (l2 s), .int .u64 (l3 s), .bool mo]] w fun e w' => e = .returned (.agg #[.bool mi, .int .i64 x', .int .u64 (l0 s'), .int .u64 (l1 s'), .int .u64 (l2 s'), .int .u64 (l3 s'), .bool false]) ∧ Below w.heap.size w w')) (hz : s' ≠ 0) (hm : x' + (blen s' : Int) - 53 < -1074) (w : World) : Calls Try.prog 46 #[.agg #[.bool mi, .int .i64 x, .int .u64 (l0 s), .int .u64 (l1 s), .int .u64 (l2 s), .int .u64 (l3 s), .bool mo], .int .i64 m] w fun e w' =>
    e = .returned (.tuple #[.int .u64 (rRound mi x' s' m).1, .int .u8 (rRound mi x' s' m).2]) ∧ Below w.heap.size w w' := by
  have hE := fun w => eq_nil w s' hs
  have hd : decide (s' = 0) = false := decide_eq_false hz; have HS := Hd.mk hs
  have hbl : (blen s' : Int) ≤ 256 := by have := blen_le_iff.2 (show s' < 2 ^ 256 from hs); omega
  have EN : Hd (rN x' s' = (-1074)) := ⟨by unfold rN rTop; rw [if_pos hm]⟩; have ER : Hd (rRound mi x' s' m = if 971 < rN2 mi x' s' m then (overP mi m, 20) else (pA (rP (rQ2 mi x' s' m) (rN2 mi x' s' m)) + sg mi, rFlag mi x' s' m)) := ⟨by unfold rRound; rw [if_neg hz]⟩; have US := Hd.mk (U_sg mi); clear hs hz
  go_enter Try.func46, Try.ntmps46
  go_wp2_with fail
  refine (r_near mi mo x s h0 h1 _).mono ?_; rintro e w1 ⟨rfl, hb⟩; have k0 : Blk w1 (w.heap.size) 64 #[.bool mi, .int .i64 x, .int .u64 (l0 s), .int .u64 (l1 s), .int .u64 (l2 s), .int .u64 (l3 s), .bool mo] := BLKq; have ltk0_w1 := k0.lt; have KB : Hd (Below w.heap.size w w1) := Hd.mk (bthen BELz hb); have hzw1 := hb.size
  (try simp at hzw1)
  clear hb
  go_wp2_with fail
  refine (HE.out _).mono ?_; rintro e w2 ⟨rfl, hb⟩; replace k0 : Blk w2 (w.heap.size) 64 #[.bool mi, .int .i64 x, .int .u64 (l0 s), .int .u64 (l1 s), .int .u64 (l2 s), .int .u64 (l3 s), .bool mo] := BLKq; have ltk0_w2 := k0.lt; replace KB : Hd (Below w.heap.size w w2) := Hd.mk (bthen (BELq KB) hb); have hzw2 := hb.size
  (try simp at hzw2)
  clear hb; have ck0_0 : w2.cell? ⟨w.heap.size, 0, none⟩ = some (.bool mi) := k0.cell 0; have fk0_0 := k0.free 0; have ck0_1 : w2.cell? ⟨w.heap.size, 1, none⟩ = some (.int .i64 x) := k0.cell 1; have fk0_1 := k0.free 1; have ck0_2 : w2.cell? ⟨w.heap.size, 2, none⟩ = some (.int .u64 (l0 s)) := k0.cell 2; have fk0_2 := k0.free 2; have ck0_3 : w2.cell? ⟨w.heap.size, 3, none⟩ = some (.int .u64 (l1 s)) := k0.cell 3; have fk0_3 := k0.free 3; have ck0_4 : w2.cell? ⟨w.heap.size, 4, none⟩ = some (.int .u64 (l2 s)) := k0.cell 4; have fk0_4 := k0.free 4; have ck0_5 : w2.cell? ⟨w.heap.size, 5, none⟩ = some (.int .u64 (l3 s)) := k0.cell 5; have fk0_5 := k0.free 5; have ck0_6 : w2.cell? ⟨w.heap.size, 6, none⟩ = some (.bool mo) := k0.cell 6; have fk0_6 := k0.free 6
  go_wp2_with fail
  refine wp_named ?_; intro W0 hW0
  replace k0 : Blk W0 (w.heap.size) 64 #[.bool mi, .int .i64 x', .int .u64 (l0 s'), .int .u64 (l1 s'), .int .u64 (l2 s'), .int .u64 (l3 s'), .bool false] := by
    rw [hW0]; apply Blk.same
    · exact BLKq
    · rfl
  have ltk0_W0 := k0.lt; replace KB : Hd (Below w.heap.size w W0) := Hd.mk (by rw [hW0]; have HB := KB; exact BELq HB); clear hW0; clear ck0_0 fk0_0 ck0_1 fk0_1 ck0_2 fk0_2 ck0_3 fk0_3 ck0_4 fk0_4 ck0_5 fk0_5 ck0_6 fk0_6; have ck0_0 : W0.cell? ⟨w.heap.size, 0, none⟩ = some (.bool mi) := k0.cell 0; have fk0_0 := k0.free 0; have ck0_1 : W0.cell? ⟨w.heap.size, 1, none⟩ = some (.int .i64 x') := k0.cell 1; have fk0_1 := k0.free 1; have ck0_2 : W0.cell? ⟨w.heap.size, 2, none⟩ = some (.int .u64 (l0 s')) := k0.cell 2; have fk0_2 := k0.free 2; have ck0_3 : W0.cell? ⟨w.heap.size, 3, none⟩ = some (.int .u64 (l1 s')) := k0.cell 3; have fk0_3 := k0.free 3; have ck0_4 : W0.cell? ⟨w.heap.size, 4, none⟩ = some (.int .u64 (l2 s')) := k0.cell 4; have fk0_4 := k0.free 4; have ck0_5 : W0.cell? ⟨w.heap.size, 5, none⟩ = some (.int .u64 (l3 s')) := k0.cell 5; have fk0_5 := k0.free 5; have ck0_6 : W0.cell? ⟨w.heap.size, 6, none⟩ = some (.bool false) := k0.cell 6; have fk0_6 := k0.free 6; have HB := Hd.mk (Below.refl W0.heap.size W0)
  go_region_held3 (fun w' => w'.cell? ⟨w.heap.size, 0, none⟩ = some (.bool mi) ∧ w'.cell? ⟨w.heap.size, 1, none⟩ = some (.int .i64 x') ∧ w'.cell? ⟨w.heap.size, 2, none⟩ = some (.int .u64 (l0 s')) ∧ w'.cell? ⟨w.heap.size, 3, none⟩ = some (.int .u64 (l1 s')) ∧ w'.cell? ⟨w.heap.size, 4, none⟩ = some (.int .u64 (l2 s')) ∧ w'.cell? ⟨w.heap.size, 5, none⟩ = some (.int .u64 (l3 s')) ∧ w'.cell? ⟨w.heap.size, 6, none⟩ = some (.bool false)) (first | (simp [go_sem, World.cell?_alloc_past, *]; done) | (simp (disch := first | omega | (simp; done) | (simp; omega)) [go_sem, World.cell?_alloc_past, *]; done)) (first | (go_at_call 78; refine (wlen s' HS.out _).mono ?_; rintro e w3 ⟨rfl, hb⟩; obtain ⟨hc, hf⟩ := bcell hb; have hz := hb.size; (try simp at hz); (try (have hz2 := Nat.lt_of_succ_le hz)); have n0 := Hd.mk (bthen (by repeat (first | (with_reducible exact HB.out) | (with_reducible apply bdrN) | (with_reducible apply bdr) | (with_reducible apply bal))) hb); clear HB; have HB := n0; clear n0))
  replace k0 : Blk w3 (w.heap.size) 64 #[.bool mi, .int .i64 x', .int .u64 (l0 s'), .int .u64 (l1 s'), .int .u64 (l2 s'), .int .u64 (l3 s'), .bool false] := k0.after HB.out; replace KB := Hd.mk (bthen KB.out HB.out); clear HB hb hc hf hz; clear ck0_0 fk0_0 ck0_1 fk0_1 ck0_2 fk0_2 ck0_3 fk0_3 ck0_4 fk0_4 ck0_5 fk0_5 ck0_6 fk0_6; have lk0_3 := k0.lt; have ck0_0 : w3.cell? ⟨w.heap.size, 0, none⟩ = some (.bool mi) := k0.cell 0; have fk0_0 := k0.free 0; have ck0_1 : w3.cell? ⟨w.heap.size, 1, none⟩ = some (.int .i64 x') := k0.cell 1; have fk0_1 := k0.free 1; have ck0_2 : w3.cell? ⟨w.heap.size, 2, none⟩ = some (.int .u64 (l0 s')) := k0.cell 2; have fk0_2 := k0.free 2; have ck0_3 : w3.cell? ⟨w.heap.size, 3, none⟩ = some (.int .u64 (l1 s')) := k0.cell 3; have fk0_3 := k0.free 3; have ck0_4 : w3.cell? ⟨w.heap.size, 4, none⟩ = some (.int .u64 (l2 s')) := k0.cell 4; have fk0_4 := k0.free 4; have ck0_5 : w3.cell? ⟨w.heap.size, 5, none⟩ = some (.int .u64 (l3 s')) := k0.cell 5; have fk0_5 := k0.free 5; have ck0_6 : w3.cell? ⟨w.heap.size, 6, none⟩ = some (.bool false) := k0.cell 6; have fk0_6 := k0.free 6
  go_wp2_with fail
  refine (r_to mi x' (-1074) m s' HS.out _ (by omega) (by omega) (by omega) (by omega)).mono ?_; rintro e w4 ⟨q, hq, rfl, hb⟩; replace k0 : Blk w4 (w.heap.size) 64 #[.bool mi, .int .i64 x', .int .u64 (l0 s'), .int .u64 (l1 s'), .int .u64 (l2 s'), .int .u64 (l3 s'), .bool false] := BLKq; have ltk0_w4 := k0.lt; replace KB : Hd (Below w.heap.size w w4) := Hd.mk (bthen (BELq KB) hb); have hzw4 := hb.size
  (try simp at hzw4)
  clear hb; clear ck0_0 fk0_0 ck0_1 fk0_1 ck0_2 fk0_2 ck0_3 fk0_3 ck0_4 fk0_4 ck0_5 fk0_5 ck0_6 fk0_6
  rw [← EN.out] at hq
  have HQ : Hd (q = rQ mi x' s' m) := ⟨hq.out.1⟩; have EO : Hd (rFlag mi x' s' m = if rOdd s' x' (rN x' s') then (if rTiny mi x' s' (rTop x' s') m then 24 else 16) else 0) := ⟨rfl⟩
  rw [EN.out] at EO
  generalize rOdd s' x' (-1074) = od at *
  go_upto_if 39 with (fail)
  refine wp_named ?_; intro W1 hW1
  replace k0 : Blk W1 (w.heap.size) 64 #[.bool mi, .int .i64 x', .int .u64 (l0 s'), .int .u64 (l1 s'), .int .u64 (l2 s'), .int .u64 (l3 s'), .bool false] := by rw [hW1]; exact BLKq
  have kq : Blk W1 (w4.heap.size) 62 #[.int .u64 (l0 q), .int .u64 (l1 q), .int .u64 (l2 q), .int .u64 (l3 q)] := by rw [hW1]; exact BLKq
  have ltk0_W1 := k0.lt; have ltkq_W1 := kq.lt; replace KB : Hd (Below w.heap.size w W1) := Hd.mk (by rw [hW1]; have HB := KB; exact BELq HB); clear hW1; have ck0_0 : W1.cell? ⟨w.heap.size, 0, none⟩ = some (.bool mi) := k0.cell 0; have fk0_0 := k0.free 0; have ck0_1 : W1.cell? ⟨w.heap.size, 1, none⟩ = some (.int .i64 x') := k0.cell 1; have fk0_1 := k0.free 1; have ck0_2 : W1.cell? ⟨w.heap.size, 2, none⟩ = some (.int .u64 (l0 s')) := k0.cell 2; have fk0_2 := k0.free 2; have ck0_3 : W1.cell? ⟨w.heap.size, 3, none⟩ = some (.int .u64 (l1 s')) := k0.cell 3; have fk0_3 := k0.free 3; have ck0_4 : W1.cell? ⟨w.heap.size, 4, none⟩ = some (.int .u64 (l2 s')) := k0.cell 4; have fk0_4 := k0.free 4; have ck0_5 : W1.cell? ⟨w.heap.size, 5, none⟩ = some (.int .u64 (l3 s')) := k0.cell 5; have fk0_5 := k0.free 5; have ck0_6 : W1.cell? ⟨w.heap.size, 6, none⟩ = some (.bool false) := k0.cell 6; have fk0_6 := k0.free 6
  go_cut [10] (fun v10 wc => ∃ f : Int, v10 = .int .u8 f ∧ Hd (f = rFlag mi x' s' m) ∧ Hd (Blk wc (w.heap.size) 64 #[.bool mi, .int .i64 x', .int .u64 (l0 s'), .int .u64 (l1 s'), .int .u64 (l2 s'), .int .u64 (l3 s'), .bool false] ∧ Blk wc w4.heap.size 62 #[.int .u64 (l0 q), .int .u64 (l1 q), .int .u64 (l2 q), .int .u64 (l3 q)]) ∧ Hd (Below w.heap.size w wc))
  case first =>
    cases od with
    | false =>
      go_wp2_with fail
      go_meet
      case rel => exact ⟨0, rfl, ⟨by rw [EO.out]; simp⟩, ⟨BLKq, BLKq⟩, ⟨BELq KB⟩⟩
    | true =>
      go_wp2_with fail
      refine (r_tiny mi x' (x' + (blen s' : Int)) m s' HS.out _ (by omega) (by omega) (by omega) (by omega)).mono ?_; rintro e w5 ⟨rfl, hb⟩; replace k0 : Blk w5 (w.heap.size) 64 #[.bool mi, .int .i64 x', .int .u64 (l0 s'), .int .u64 (l1 s'), .int .u64 (l2 s'), .int .u64 (l3 s'), .bool false] := BLKq; replace kq : Blk w5 (w4.heap.size) 62 #[.int .u64 (l0 q), .int .u64 (l1 q), .int .u64 (l2 q), .int .u64 (l3 q)] := BLKq; have ltk0_w5 := k0.lt; have ltkq_w5 := kq.lt; replace KB : Hd (Below w.heap.size w w5) := Hd.mk (bthen (BELq KB) hb); have hzw5 := hb.size
      (try simp at hzw5)
      clear hb; clear ck0_0 fk0_0 ck0_1 fk0_1 ck0_2 fk0_2 ck0_3 fk0_3 ck0_4 fk0_4 ck0_5 fk0_5 ck0_6 fk0_6; have EO2 : Hd (rFlag mi x' s' m = if rTiny mi x' s' (x' + (blen s' : Int)) m then 24 else 16) := ⟨by rw [EO.out]; first | exact (if_pos trivial).trans rfl | exact (if_pos rfl).trans rfl⟩; clear EO
      generalize rTiny mi x' s' (x' + (blen s' : Int)) m = ti at *
      cases ti
      · go_wp2_with fail
        go_meet
        case rel => exact ⟨16, rfl, ⟨by rw [EO2.out]; simp⟩, ⟨BLKq, BLKq⟩, ⟨BELq KB⟩⟩
      · have or8 := or_16_8
        go_wp2_with fail
        go_meet
        case rel => exact ⟨24, rfl, ⟨by rw [EO2.out]; simp⟩, ⟨BLKq, BLKq⟩, ⟨BELq KB⟩⟩
  case rest =>
    clear ck0_0 fk0_0 ck0_1 fk0_1 ck0_2 fk0_2 ck0_3 fk0_3 ck0_4 fk0_4 ck0_5 fk0_5 ck0_6 fk0_6; clear k0 kq KB; obtain ⟨f, rfl, hf0, hkk, KB⟩ := hcut; obtain ⟨k0, kq⟩ := hkk.out; have ltk0_c := k0.lt; have ltkq_c := kq.lt; clear hkk EO; have ck0_0 : wc.cell? ⟨w.heap.size, 0, none⟩ = some (.bool mi) := k0.cell 0; have fk0_0 := k0.free 0; have ck0_1 : wc.cell? ⟨w.heap.size, 1, none⟩ = some (.int .i64 x') := k0.cell 1; have fk0_1 := k0.free 1; have ck0_2 : wc.cell? ⟨w.heap.size, 2, none⟩ = some (.int .u64 (l0 s')) := k0.cell 2; have fk0_2 := k0.free 2; have ck0_3 : wc.cell? ⟨w.heap.size, 3, none⟩ = some (.int .u64 (l1 s')) := k0.cell 3; have fk0_3 := k0.free 3; have ck0_4 : wc.cell? ⟨w.heap.size, 4, none⟩ = some (.int .u64 (l2 s')) := k0.cell 4; have fk0_4 := k0.free 4; have ck0_5 : wc.cell? ⟨w.heap.size, 5, none⟩ = some (.int .u64 (l3 s')) := k0.cell 5; have fk0_5 := k0.free 5; have ck0_6 : wc.cell? ⟨w.heap.size, 6, none⟩ = some (.bool false) := k0.cell 6; have fk0_6 := k0.free 6; have ckq_0 : wc.cell? ⟨w4.heap.size, 0, none⟩ = some (.int .u64 (l0 q)) := kq.cell 0; have fkq_0 := kq.free 0; have ckq_1 : wc.cell? ⟨w4.heap.size, 1, none⟩ = some (.int .u64 (l1 q)) := kq.cell 1; have fkq_1 := kq.free 1; have ckq_2 : wc.cell? ⟨w4.heap.size, 2, none⟩ = some (.int .u64 (l2 q)) := kq.cell 2; have fkq_2 := kq.free 2; have ckq_3 : wc.cell? ⟨w4.heap.size, 3, none⟩ = some (.int .u64 (l3 q)) := kq.cell 3; have fkq_3 := kq.free 3
    go_wp2_with fail
    refine (wlen q hq.out.2 _).mono ?_; rintro e w6 ⟨rfl, hb⟩; replace k0 : Blk w6 (w.heap.size) 64 #[.bool mi, .int .i64 x', .int .u64 (l0 s'), .int .u64 (l1 s'), .int .u64 (l2 s'), .int .u64 (l3 s'), .bool false] := BLKq; replace kq : Blk w6 (w4.heap.size) 62 #[.int .u64 (l0 q), .int .u64 (l1 q), .int .u64 (l2 q), .int .u64 (l3 q)] := BLKq; have ltk0_w6 := k0.lt; have ltkq_w6 := kq.lt; replace KB : Hd (Below w.heap.size w w6) := Hd.mk (bthen (BELq KB) hb); have hzw6 := hb.size
    (try simp at hzw6)
    clear hb; clear ck0_0 fk0_0 ck0_1 fk0_1 ck0_2 fk0_2 ck0_3 fk0_3 ck0_4 fk0_4 ck0_5 fk0_5 ck0_6 fk0_6; clear ckq_0 fkq_0 ckq_1 fkq_1 ckq_2 fkq_2 ckq_3 fkq_3
    by_cases hbq : 53 < blen q
    · have EN2 : Hd (rN2 mi x' s' m = (-1074) + 1 ∧ rQ2 mi x' s' m = q / 2) := ⟨by unfold rN2 rQ2; rw [← HQ.out, if_pos hbq, if_pos hbq, EN.out]; exact ⟨rfl, rfl⟩⟩
      have hbq1 : (53 : Int) < (blen q : Int) := by omega
      have ck0_0 : w6.cell? ⟨w.heap.size, 0, none⟩ = some (.bool mi) := k0.cell 0; have fk0_0 := k0.free 0; have ck0_1 : w6.cell? ⟨w.heap.size, 1, none⟩ = some (.int .i64 x') := k0.cell 1; have fk0_1 := k0.free 1; have ck0_2 : w6.cell? ⟨w.heap.size, 2, none⟩ = some (.int .u64 (l0 s')) := k0.cell 2; have fk0_2 := k0.free 2; have ck0_3 : w6.cell? ⟨w.heap.size, 3, none⟩ = some (.int .u64 (l1 s')) := k0.cell 3; have fk0_3 := k0.free 3; have ck0_4 : w6.cell? ⟨w.heap.size, 4, none⟩ = some (.int .u64 (l2 s')) := k0.cell 4; have fk0_4 := k0.free 4; have ck0_5 : w6.cell? ⟨w.heap.size, 5, none⟩ = some (.int .u64 (l3 s')) := k0.cell 5; have fk0_5 := k0.free 5; have ck0_6 : w6.cell? ⟨w.heap.size, 6, none⟩ = some (.bool false) := k0.cell 6; have fk0_6 := k0.free 6; have ckq_0 : w6.cell? ⟨w4.heap.size, 0, none⟩ = some (.int .u64 (l0 q)) := kq.cell 0; have fkq_0 := kq.free 0; have ckq_1 : w6.cell? ⟨w4.heap.size, 1, none⟩ = some (.int .u64 (l1 q)) := kq.cell 1; have fkq_1 := kq.free 1; have ckq_2 : w6.cell? ⟨w4.heap.size, 2, none⟩ = some (.int .u64 (l2 q)) := kq.cell 2; have fkq_2 := kq.free 2; have ckq_3 : w6.cell? ⟨w4.heap.size, 3, none⟩ = some (.int .u64 (l3 q)) := kq.cell 3; have fkq_3 := kq.free 3
      go_wp2_with fail
      refine (wshr q hq.out.2 1 _).mono ?_; rintro e w7 ⟨p, op, hpp, rfl, hb⟩; replace k0 : Blk w7 (w.heap.size) 64 #[.bool mi, .int .i64 x', .int .u64 (l0 s'), .int .u64 (l1 s'), .int .u64 (l2 s'), .int .u64 (l3 s'), .bool false] := BLKq; replace kq : Blk w7 (w4.heap.size) 62 #[.int .u64 (l0 q), .int .u64 (l1 q), .int .u64 (l2 q), .int .u64 (l3 q)] := BLKq; have ltk0_w7 := k0.lt; have ltkq_w7 := kq.lt; replace KB : Hd (Below w.heap.size w w7) := Hd.mk (bthen (BELq KB) hb); have hzw7 := hb.size
      (try simp at hzw7)
      clear hb; clear ck0_0 fk0_0 ck0_1 fk0_1 ck0_2 fk0_2 ck0_3 fk0_3 ck0_4 fk0_4 ck0_5 fk0_5 ck0_6 fk0_6; clear ckq_0 fkq_0 ckq_1 fkq_1 ckq_2 fkq_2 ckq_3 fkq_3; have HP : Hd (p = q / 2) := ⟨by rw [hpp.out.1, show (1 : Int).toNat = 1 from rfl, Nat.pow_one]⟩; clear hpp
      have hov : ¬ (971 : Int) < (-1073) := by decide
      have ck0_0 : w7.cell? ⟨w.heap.size, 0, none⟩ = some (.bool mi) := k0.cell 0; have fk0_0 := k0.free 0; have ck0_1 : w7.cell? ⟨w.heap.size, 1, none⟩ = some (.int .i64 x') := k0.cell 1; have fk0_1 := k0.free 1; have ck0_2 : w7.cell? ⟨w.heap.size, 2, none⟩ = some (.int .u64 (l0 s')) := k0.cell 2; have fk0_2 := k0.free 2; have ck0_3 : w7.cell? ⟨w.heap.size, 3, none⟩ = some (.int .u64 (l1 s')) := k0.cell 3; have fk0_3 := k0.free 3; have ck0_4 : w7.cell? ⟨w.heap.size, 4, none⟩ = some (.int .u64 (l2 s')) := k0.cell 4; have fk0_4 := k0.free 4; have ck0_5 : w7.cell? ⟨w.heap.size, 5, none⟩ = some (.int .u64 (l3 s')) := k0.cell 5; have fk0_5 := k0.free 5; have ck0_6 : w7.cell? ⟨w.heap.size, 6, none⟩ = some (.bool false) := k0.cell 6; have fk0_6 := k0.free 6; have ckq_0 : w7.cell? ⟨w4.heap.size, 0, none⟩ = some (.int .u64 (l0 q)) := kq.cell 0; have fkq_0 := kq.free 0; have ckq_1 : w7.cell? ⟨w4.heap.size, 1, none⟩ = some (.int .u64 (l1 q)) := kq.cell 1; have fkq_1 := kq.free 1; have ckq_2 : w7.cell? ⟨w4.heap.size, 2, none⟩ = some (.int .u64 (l2 q)) := kq.cell 2; have fkq_2 := kq.free 2; have ckq_3 : w7.cell? ⟨w4.heap.size, 3, none⟩ = some (.int .u64 (l3 q)) := kq.cell 3; have fkq_3 := kq.free 3
      by_cases hp : 4503599627370496 ≤ l0 p
      · have HP0 := Hd.mk hp
        have hpd : decide (4503599627370496 ≤ l0 p) = true := decide_eq_true hp; clear hp
        go_wp2_with fail
        refine (r_sign mi _).mono ?_; rintro e w8 ⟨rfl, hb⟩; replace k0 : Blk w8 (w.heap.size) 64 #[.bool mi, .int .i64 x', .int .u64 (l0 s'), .int .u64 (l1 s'), .int .u64 (l2 s'), .int .u64 (l3 s'), .bool false] := BLKq
        replace kq : Blk w8 (w4.heap.size) 62 #[.int .u64 (l0 p), .int .u64 (l1 p), .int .u64 (l2 p), .int .u64 (l3 p)] := by
          apply Blk.same
          · exact BLKq
          · rfl
        have ltk0_w8 := k0.lt; have ltkq_w8 := kq.lt; replace KB : Hd (Below w.heap.size w w8) := Hd.mk (bthen (BELq KB) hb); have hzw8 := hb.size
        (try simp at hzw8)
        clear hb; clear ck0_0 fk0_0 ck0_1 fk0_1 ck0_2 fk0_2 ck0_3 fk0_3 ck0_4 fk0_4 ck0_5 fk0_5 ck0_6 fk0_6; clear ckq_0 fkq_0 ckq_1 fkq_1 ckq_2 fkq_2 ckq_3 fkq_3
        go_wp2_with fail
        refine (p_copy (IntKind.u64.wrap (l0 p + 4503599627370496)) (sg mi) (by first | exact U0 _ | exact U_wrap _) US.out _).mono ?_; rintro e w9 ⟨rfl, hb⟩; replace k0 : Blk w9 (w.heap.size) 64 #[.bool mi, .int .i64 x', .int .u64 (l0 s'), .int .u64 (l1 s'), .int .u64 (l2 s'), .int .u64 (l3 s'), .bool false] := BLKq; replace kq : Blk w9 (w4.heap.size) 62 #[.int .u64 (l0 p), .int .u64 (l1 p), .int .u64 (l2 p), .int .u64 (l3 p)] := BLKq; have ltk0_w9 := k0.lt; have ltkq_w9 := kq.lt; replace KB : Hd (Below w.heap.size w w9) := Hd.mk (bthen (BELq KB) hb); have hzw9 := hb.size
        (try simp at hzw9)
        clear hb; rw [pM_sg]; have EP : Hd (rP p (-1073) = (IntKind.u64.wrap (l0 p + 4503599627370496))) := ⟨by unfold rP; rw [if_pos HP0.out, show (((-1073) + 1074 : Int) * 4503599627370496) = 4503599627370496 by decide]⟩; have RR : Hd (rRound mi x' s' m = (pA (IntKind.u64.wrap (l0 p + 4503599627370496)) + sg mi, f)) := ⟨by rw [ER.out, if_neg (by rw [EN2.out.1]; omega), EN2.out.1, EN2.out.2, ← HP.out, show (-1074 + 1 : Int) = -1073 from rfl, EP.out, hf0.out]⟩
        go_wp2_with fail
        go_ret2
        refine ⟨?_, BELq KB⟩; rw [RR.out]
        first | done | rfl
      · have HP0 := Hd.mk hp
        have hpd : decide (4503599627370496 ≤ l0 p) = false := decide_eq_false hp; clear hp
        go_wp2_with fail
        refine (r_sign mi _).mono ?_; rintro e w8 ⟨rfl, hb⟩; replace k0 : Blk w8 (w.heap.size) 64 #[.bool mi, .int .i64 x', .int .u64 (l0 s'), .int .u64 (l1 s'), .int .u64 (l2 s'), .int .u64 (l3 s'), .bool false] := BLKq
        replace kq : Blk w8 (w4.heap.size) 62 #[.int .u64 (l0 p), .int .u64 (l1 p), .int .u64 (l2 p), .int .u64 (l3 p)] := by
          apply Blk.same
          · exact BLKq
          · rfl
        have ltk0_w8 := k0.lt; have ltkq_w8 := kq.lt; replace KB : Hd (Below w.heap.size w w8) := Hd.mk (bthen (BELq KB) hb); have hzw8 := hb.size
        (try simp at hzw8)
        clear hb; clear ck0_0 fk0_0 ck0_1 fk0_1 ck0_2 fk0_2 ck0_3 fk0_3 ck0_4 fk0_4 ck0_5 fk0_5 ck0_6 fk0_6; clear ckq_0 fkq_0 ckq_1 fkq_1 ckq_2 fkq_2 ckq_3 fkq_3
        go_wp2_with fail
        refine (p_copy (l0 p) (sg mi) (by first | exact U0 _ | exact U_wrap _) US.out _).mono ?_; rintro e w9 ⟨rfl, hb⟩; replace k0 : Blk w9 (w.heap.size) 64 #[.bool mi, .int .i64 x', .int .u64 (l0 s'), .int .u64 (l1 s'), .int .u64 (l2 s'), .int .u64 (l3 s'), .bool false] := BLKq; replace kq : Blk w9 (w4.heap.size) 62 #[.int .u64 (l0 p), .int .u64 (l1 p), .int .u64 (l2 p), .int .u64 (l3 p)] := BLKq; have ltk0_w9 := k0.lt; have ltkq_w9 := kq.lt; replace KB : Hd (Below w.heap.size w w9) := Hd.mk (bthen (BELq KB) hb); have hzw9 := hb.size
        (try simp at hzw9)
        clear hb; rw [pM_sg]; have EP : Hd (rP p (-1073) = (l0 p)) := ⟨by unfold rP; rw [if_neg (by have := HP0.out; omega)]⟩; have RR : Hd (rRound mi x' s' m = (pA (l0 p) + sg mi, f)) := ⟨by rw [ER.out, if_neg (by rw [EN2.out.1]; omega), EN2.out.1, EN2.out.2, ← HP.out, show (-1074 + 1 : Int) = -1073 from rfl, EP.out, hf0.out]⟩
        go_wp2_with fail
        go_ret2
        refine ⟨?_, BELq KB⟩; rw [RR.out]
        first | done | rfl
    · have EN2 : Hd (rN2 mi x' s' m = (-1074) ∧ rQ2 mi x' s' m = q) := ⟨by unfold rN2 rQ2; rw [← HQ.out, if_neg hbq, if_neg hbq, EN.out]; exact ⟨rfl, rfl⟩⟩
      have hbq1 : ¬ (53 : Int) < (blen q : Int) := by omega
      have hov : ¬ (971 : Int) < (-1074) := by decide
      have ck0_0 : w6.cell? ⟨w.heap.size, 0, none⟩ = some (.bool mi) := k0.cell 0; have fk0_0 := k0.free 0; have ck0_1 : w6.cell? ⟨w.heap.size, 1, none⟩ = some (.int .i64 x') := k0.cell 1; have fk0_1 := k0.free 1; have ck0_2 : w6.cell? ⟨w.heap.size, 2, none⟩ = some (.int .u64 (l0 s')) := k0.cell 2; have fk0_2 := k0.free 2; have ck0_3 : w6.cell? ⟨w.heap.size, 3, none⟩ = some (.int .u64 (l1 s')) := k0.cell 3; have fk0_3 := k0.free 3; have ck0_4 : w6.cell? ⟨w.heap.size, 4, none⟩ = some (.int .u64 (l2 s')) := k0.cell 4; have fk0_4 := k0.free 4; have ck0_5 : w6.cell? ⟨w.heap.size, 5, none⟩ = some (.int .u64 (l3 s')) := k0.cell 5; have fk0_5 := k0.free 5; have ck0_6 : w6.cell? ⟨w.heap.size, 6, none⟩ = some (.bool false) := k0.cell 6; have fk0_6 := k0.free 6; have ckq_0 : w6.cell? ⟨w4.heap.size, 0, none⟩ = some (.int .u64 (l0 q)) := kq.cell 0; have fkq_0 := kq.free 0; have ckq_1 : w6.cell? ⟨w4.heap.size, 1, none⟩ = some (.int .u64 (l1 q)) := kq.cell 1; have fkq_1 := kq.free 1; have ckq_2 : w6.cell? ⟨w4.heap.size, 2, none⟩ = some (.int .u64 (l2 q)) := kq.cell 2; have fkq_2 := kq.free 2; have ckq_3 : w6.cell? ⟨w4.heap.size, 3, none⟩ = some (.int .u64 (l3 q)) := kq.cell 3; have fkq_3 := kq.free 3
      by_cases hp : 4503599627370496 ≤ l0 q
      · have HP0 := Hd.mk hp
        have hpd : decide (4503599627370496 ≤ l0 q) = true := decide_eq_true hp; clear hp
        go_wp2_with fail
        refine (r_sign mi _).mono ?_; rintro e w8 ⟨rfl, hb⟩; replace k0 : Blk w8 (w.heap.size) 64 #[.bool mi, .int .i64 x', .int .u64 (l0 s'), .int .u64 (l1 s'), .int .u64 (l2 s'), .int .u64 (l3 s'), .bool false] := BLKq; replace kq : Blk w8 (w4.heap.size) 62 #[.int .u64 (l0 q), .int .u64 (l1 q), .int .u64 (l2 q), .int .u64 (l3 q)] := BLKq; have ltk0_w8 := k0.lt; have ltkq_w8 := kq.lt; replace KB : Hd (Below w.heap.size w w8) := Hd.mk (bthen (BELq KB) hb); have hzw8 := hb.size
        (try simp at hzw8)
        clear hb; clear ck0_0 fk0_0 ck0_1 fk0_1 ck0_2 fk0_2 ck0_3 fk0_3 ck0_4 fk0_4 ck0_5 fk0_5 ck0_6 fk0_6; clear ckq_0 fkq_0 ckq_1 fkq_1 ckq_2 fkq_2 ckq_3 fkq_3
        go_wp2_with fail
        refine (p_copy (IntKind.u64.wrap (l0 q)) (sg mi) (by first | exact U0 _ | exact U_wrap _) US.out _).mono ?_; rintro e w9 ⟨rfl, hb⟩; replace k0 : Blk w9 (w.heap.size) 64 #[.bool mi, .int .i64 x', .int .u64 (l0 s'), .int .u64 (l1 s'), .int .u64 (l2 s'), .int .u64 (l3 s'), .bool false] := BLKq; replace kq : Blk w9 (w4.heap.size) 62 #[.int .u64 (l0 q), .int .u64 (l1 q), .int .u64 (l2 q), .int .u64 (l3 q)] := BLKq; have ltk0_w9 := k0.lt; have ltkq_w9 := kq.lt; replace KB : Hd (Below w.heap.size w w9) := Hd.mk (bthen (BELq KB) hb); have hzw9 := hb.size
        (try simp at hzw9)
        clear hb; rw [pM_sg]; have EP : Hd (rP q (-1074) = (IntKind.u64.wrap (l0 q))) := ⟨by unfold rP; rw [if_pos HP0.out, show (((-1074) + 1074 : Int) * 4503599627370496) = 0 by decide, Int.add_zero]⟩; have RR : Hd (rRound mi x' s' m = (pA (IntKind.u64.wrap (l0 q)) + sg mi, f)) := ⟨by rw [ER.out, if_neg (by rw [EN2.out.1]; omega), EN2.out.1, EN2.out.2, EP.out, hf0.out]⟩
        go_wp2_with fail
        go_ret2
        refine ⟨?_, BELq KB⟩; rw [RR.out]
        first | done | rfl
      · have HP0 := Hd.mk hp
        have hpd : decide (4503599627370496 ≤ l0 q) = false := decide_eq_false hp; clear hp
        go_wp2_with fail
        refine (r_sign mi _).mono ?_; rintro e w8 ⟨rfl, hb⟩; replace k0 : Blk w8 (w.heap.size) 64 #[.bool mi, .int .i64 x', .int .u64 (l0 s'), .int .u64 (l1 s'), .int .u64 (l2 s'), .int .u64 (l3 s'), .bool false] := BLKq; replace kq : Blk w8 (w4.heap.size) 62 #[.int .u64 (l0 q), .int .u64 (l1 q), .int .u64 (l2 q), .int .u64 (l3 q)] := BLKq; have ltk0_w8 := k0.lt; have ltkq_w8 := kq.lt; replace KB : Hd (Below w.heap.size w w8) := Hd.mk (bthen (BELq KB) hb); have hzw8 := hb.size
        (try simp at hzw8)
        clear hb; clear ck0_0 fk0_0 ck0_1 fk0_1 ck0_2 fk0_2 ck0_3 fk0_3 ck0_4 fk0_4 ck0_5 fk0_5 ck0_6 fk0_6; clear ckq_0 fkq_0 ckq_1 fkq_1 ckq_2 fkq_2 ckq_3 fkq_3
        go_wp2_with fail
        refine (p_copy (l0 q) (sg mi) (by first | exact U0 _ | exact U_wrap _) US.out _).mono ?_; rintro e w9 ⟨rfl, hb⟩; replace k0 : Blk w9 (w.heap.size) 64 #[.bool mi, .int .i64 x', .int .u64 (l0 s'), .int .u64 (l1 s'), .int .u64 (l2 s'), .int .u64 (l3 s'), .bool false] := BLKq; replace kq : Blk w9 (w4.heap.size) 62 #[.int .u64 (l0 q), .int .u64 (l1 q), .int .u64 (l2 q), .int .u64 (l3 q)] := BLKq; have ltk0_w9 := k0.lt; have ltkq_w9 := kq.lt; replace KB : Hd (Below w.heap.size w w9) := Hd.mk (bthen (BELq KB) hb); have hzw9 := hb.size
        (try simp at hzw9)
        clear hb; rw [pM_sg]; have EP : Hd (rP q (-1074) = (l0 q)) := ⟨by unfold rP; rw [if_neg (by have := HP0.out; omega)]⟩; have RR : Hd (rRound mi x' s' m = (pA (l0 q) + sg mi, f)) := ⟨by rw [ER.out, if_neg (by rw [EN2.out.1]; omega), EN2.out.1, EN2.out.2, EP.out, hf0.out]⟩
        go_wp2_with fail
        go_ret2
        refine ⟨?_, BELq KB⟩; rw [RR.out]
        first | done | rfl
set_option maxHeartbeats 4000000 in
set_option maxRecDepth 100000 in
theorem r_round_hi (mi mo : Bool) (x x' m : Int) (s s' : Nat) (hs : s' < T256) (h0 : -131072 ≤ x) (h1 : x ≤ 131072) (h2 : -140000 ≤ x') (h3 : x' ≤ 140000)
    (HE : Hd (∀ w, Calls Try.prog 75 #[.agg #[.bool mi, .int .i64 x, .int .u64 (l0 s), .int .u64 (l1 s), .int .u64 (l2 s), .int .u64 (l3 s), .bool mo]] w fun e w' => e = .returned (.agg #[.bool mi, .int .i64 x', .int .u64 (l0 s'), .int .u64 (l1 s'), .int .u64 (l2 s'), .int .u64 (l3 s'), .bool false]) ∧ Below w.heap.size w w')) (hz : s' ≠ 0) (hm : -1074 ≤ x' + (blen s' : Int) - 53) (w : World) : Calls Try.prog 46 #[.agg #[.bool mi, .int .i64 x, .int .u64 (l0 s), .int .u64 (l1 s), .int .u64 (l2 s), .int .u64 (l3 s), .bool mo], .int .i64 m] w fun e w' =>
    e = .returned (.tuple #[.int .u64 (rRound mi x' s' m).1, .int .u8 (rRound mi x' s' m).2]) ∧ Below w.heap.size w w' := by
  have hE := fun w => eq_nil w s' hs
  have hd : decide (s' = 0) = false := decide_eq_false hz; have HS := Hd.mk hs
  have hbl : (blen s' : Int) ≤ 256 := by have := blen_le_iff.2 (show s' < 2 ^ 256 from hs); omega
  have EN : Hd (rN x' s' = (x' + (blen s' : Int) - 53)) := ⟨by unfold rN rTop; rw [if_neg (by omega)]⟩; have ER : Hd (rRound mi x' s' m = if 971 < rN2 mi x' s' m then (overP mi m, 20) else (pA (rP (rQ2 mi x' s' m) (rN2 mi x' s' m)) + sg mi, rFlag mi x' s' m)) := ⟨by unfold rRound; rw [if_neg hz]⟩; have US := Hd.mk (U_sg mi); clear hs hz
  go_enter Try.func46, Try.ntmps46
  go_wp2_with fail
  refine (r_near mi mo x s h0 h1 _).mono ?_; rintro e w1 ⟨rfl, hb⟩; have k0 : Blk w1 (w.heap.size) 64 #[.bool mi, .int .i64 x, .int .u64 (l0 s), .int .u64 (l1 s), .int .u64 (l2 s), .int .u64 (l3 s), .bool mo] := BLKq; have ltk0_w1 := k0.lt; have KB : Hd (Below w.heap.size w w1) := Hd.mk (bthen BELz hb); have hzw1 := hb.size
  (try simp at hzw1)
  clear hb
  go_wp2_with fail
  refine (HE.out _).mono ?_; rintro e w2 ⟨rfl, hb⟩; replace k0 : Blk w2 (w.heap.size) 64 #[.bool mi, .int .i64 x, .int .u64 (l0 s), .int .u64 (l1 s), .int .u64 (l2 s), .int .u64 (l3 s), .bool mo] := BLKq; have ltk0_w2 := k0.lt; replace KB : Hd (Below w.heap.size w w2) := Hd.mk (bthen (BELq KB) hb); have hzw2 := hb.size
  (try simp at hzw2)
  clear hb; have ck0_0 : w2.cell? ⟨w.heap.size, 0, none⟩ = some (.bool mi) := k0.cell 0; have fk0_0 := k0.free 0; have ck0_1 : w2.cell? ⟨w.heap.size, 1, none⟩ = some (.int .i64 x) := k0.cell 1; have fk0_1 := k0.free 1; have ck0_2 : w2.cell? ⟨w.heap.size, 2, none⟩ = some (.int .u64 (l0 s)) := k0.cell 2; have fk0_2 := k0.free 2; have ck0_3 : w2.cell? ⟨w.heap.size, 3, none⟩ = some (.int .u64 (l1 s)) := k0.cell 3; have fk0_3 := k0.free 3; have ck0_4 : w2.cell? ⟨w.heap.size, 4, none⟩ = some (.int .u64 (l2 s)) := k0.cell 4; have fk0_4 := k0.free 4; have ck0_5 : w2.cell? ⟨w.heap.size, 5, none⟩ = some (.int .u64 (l3 s)) := k0.cell 5; have fk0_5 := k0.free 5; have ck0_6 : w2.cell? ⟨w.heap.size, 6, none⟩ = some (.bool mo) := k0.cell 6; have fk0_6 := k0.free 6
  go_wp2_with fail
  refine wp_named ?_; intro W0 hW0
  replace k0 : Blk W0 (w.heap.size) 64 #[.bool mi, .int .i64 x', .int .u64 (l0 s'), .int .u64 (l1 s'), .int .u64 (l2 s'), .int .u64 (l3 s'), .bool false] := by
    rw [hW0]; apply Blk.same
    · exact BLKq
    · rfl
  have ltk0_W0 := k0.lt; replace KB : Hd (Below w.heap.size w W0) := Hd.mk (by rw [hW0]; have HB := KB; exact BELq HB); clear hW0; clear ck0_0 fk0_0 ck0_1 fk0_1 ck0_2 fk0_2 ck0_3 fk0_3 ck0_4 fk0_4 ck0_5 fk0_5 ck0_6 fk0_6; have ck0_0 : W0.cell? ⟨w.heap.size, 0, none⟩ = some (.bool mi) := k0.cell 0; have fk0_0 := k0.free 0; have ck0_1 : W0.cell? ⟨w.heap.size, 1, none⟩ = some (.int .i64 x') := k0.cell 1; have fk0_1 := k0.free 1; have ck0_2 : W0.cell? ⟨w.heap.size, 2, none⟩ = some (.int .u64 (l0 s')) := k0.cell 2; have fk0_2 := k0.free 2; have ck0_3 : W0.cell? ⟨w.heap.size, 3, none⟩ = some (.int .u64 (l1 s')) := k0.cell 3; have fk0_3 := k0.free 3; have ck0_4 : W0.cell? ⟨w.heap.size, 4, none⟩ = some (.int .u64 (l2 s')) := k0.cell 4; have fk0_4 := k0.free 4; have ck0_5 : W0.cell? ⟨w.heap.size, 5, none⟩ = some (.int .u64 (l3 s')) := k0.cell 5; have fk0_5 := k0.free 5; have ck0_6 : W0.cell? ⟨w.heap.size, 6, none⟩ = some (.bool false) := k0.cell 6; have fk0_6 := k0.free 6; have HB := Hd.mk (Below.refl W0.heap.size W0)
  go_region_held3 (fun w' => w'.cell? ⟨w.heap.size, 0, none⟩ = some (.bool mi) ∧ w'.cell? ⟨w.heap.size, 1, none⟩ = some (.int .i64 x') ∧ w'.cell? ⟨w.heap.size, 2, none⟩ = some (.int .u64 (l0 s')) ∧ w'.cell? ⟨w.heap.size, 3, none⟩ = some (.int .u64 (l1 s')) ∧ w'.cell? ⟨w.heap.size, 4, none⟩ = some (.int .u64 (l2 s')) ∧ w'.cell? ⟨w.heap.size, 5, none⟩ = some (.int .u64 (l3 s')) ∧ w'.cell? ⟨w.heap.size, 6, none⟩ = some (.bool false)) (first | (simp [go_sem, World.cell?_alloc_past, *]; done) | (simp (disch := first | omega | (simp; done) | (simp; omega)) [go_sem, World.cell?_alloc_past, *]; done)) (first | (go_at_call 78; refine (wlen s' HS.out _).mono ?_; rintro e w3 ⟨rfl, hb⟩; obtain ⟨hc, hf⟩ := bcell hb; have hz := hb.size; (try simp at hz); (try (have hz2 := Nat.lt_of_succ_le hz)); have n0 := Hd.mk (bthen (by repeat (first | (with_reducible exact HB.out) | (with_reducible apply bdrN) | (with_reducible apply bdr) | (with_reducible apply bal))) hb); clear HB; have HB := n0; clear n0))
  replace k0 : Blk w3 (w.heap.size) 64 #[.bool mi, .int .i64 x', .int .u64 (l0 s'), .int .u64 (l1 s'), .int .u64 (l2 s'), .int .u64 (l3 s'), .bool false] := k0.after HB.out; replace KB := Hd.mk (bthen KB.out HB.out); clear HB hb hc hf hz; clear ck0_0 fk0_0 ck0_1 fk0_1 ck0_2 fk0_2 ck0_3 fk0_3 ck0_4 fk0_4 ck0_5 fk0_5 ck0_6 fk0_6; have lk0_3 := k0.lt; have ck0_0 : w3.cell? ⟨w.heap.size, 0, none⟩ = some (.bool mi) := k0.cell 0; have fk0_0 := k0.free 0; have ck0_1 : w3.cell? ⟨w.heap.size, 1, none⟩ = some (.int .i64 x') := k0.cell 1; have fk0_1 := k0.free 1; have ck0_2 : w3.cell? ⟨w.heap.size, 2, none⟩ = some (.int .u64 (l0 s')) := k0.cell 2; have fk0_2 := k0.free 2; have ck0_3 : w3.cell? ⟨w.heap.size, 3, none⟩ = some (.int .u64 (l1 s')) := k0.cell 3; have fk0_3 := k0.free 3; have ck0_4 : w3.cell? ⟨w.heap.size, 4, none⟩ = some (.int .u64 (l2 s')) := k0.cell 4; have fk0_4 := k0.free 4; have ck0_5 : w3.cell? ⟨w.heap.size, 5, none⟩ = some (.int .u64 (l3 s')) := k0.cell 5; have fk0_5 := k0.free 5; have ck0_6 : w3.cell? ⟨w.heap.size, 6, none⟩ = some (.bool false) := k0.cell 6; have fk0_6 := k0.free 6
  go_wp2_with fail
  refine (r_to mi x' (x' + (blen s' : Int) - 53) m s' HS.out _ (by omega) (by omega) (by omega) (by omega)).mono ?_; rintro e w4 ⟨q, hq, rfl, hb⟩; replace k0 : Blk w4 (w.heap.size) 64 #[.bool mi, .int .i64 x', .int .u64 (l0 s'), .int .u64 (l1 s'), .int .u64 (l2 s'), .int .u64 (l3 s'), .bool false] := BLKq; have ltk0_w4 := k0.lt; replace KB : Hd (Below w.heap.size w w4) := Hd.mk (bthen (BELq KB) hb); have hzw4 := hb.size
  (try simp at hzw4)
  clear hb; clear ck0_0 fk0_0 ck0_1 fk0_1 ck0_2 fk0_2 ck0_3 fk0_3 ck0_4 fk0_4 ck0_5 fk0_5 ck0_6 fk0_6
  rw [← EN.out] at hq
  have HQ : Hd (q = rQ mi x' s' m) := ⟨hq.out.1⟩; have EO : Hd (rFlag mi x' s' m = if rOdd s' x' (rN x' s') then (if rTiny mi x' s' (rTop x' s') m then 24 else 16) else 0) := ⟨rfl⟩
  rw [EN.out] at EO
  generalize rOdd s' x' (x' + (blen s' : Int) - 53) = od at *
  go_upto_if 39 with (fail)
  refine wp_named ?_; intro W1 hW1
  replace k0 : Blk W1 (w.heap.size) 64 #[.bool mi, .int .i64 x', .int .u64 (l0 s'), .int .u64 (l1 s'), .int .u64 (l2 s'), .int .u64 (l3 s'), .bool false] := by rw [hW1]; exact BLKq
  have kq : Blk W1 (w4.heap.size) 62 #[.int .u64 (l0 q), .int .u64 (l1 q), .int .u64 (l2 q), .int .u64 (l3 q)] := by rw [hW1]; exact BLKq
  have ltk0_W1 := k0.lt; have ltkq_W1 := kq.lt; replace KB : Hd (Below w.heap.size w W1) := Hd.mk (by rw [hW1]; have HB := KB; exact BELq HB); clear hW1; have ck0_0 : W1.cell? ⟨w.heap.size, 0, none⟩ = some (.bool mi) := k0.cell 0; have fk0_0 := k0.free 0; have ck0_1 : W1.cell? ⟨w.heap.size, 1, none⟩ = some (.int .i64 x') := k0.cell 1; have fk0_1 := k0.free 1; have ck0_2 : W1.cell? ⟨w.heap.size, 2, none⟩ = some (.int .u64 (l0 s')) := k0.cell 2; have fk0_2 := k0.free 2; have ck0_3 : W1.cell? ⟨w.heap.size, 3, none⟩ = some (.int .u64 (l1 s')) := k0.cell 3; have fk0_3 := k0.free 3; have ck0_4 : W1.cell? ⟨w.heap.size, 4, none⟩ = some (.int .u64 (l2 s')) := k0.cell 4; have fk0_4 := k0.free 4; have ck0_5 : W1.cell? ⟨w.heap.size, 5, none⟩ = some (.int .u64 (l3 s')) := k0.cell 5; have fk0_5 := k0.free 5; have ck0_6 : W1.cell? ⟨w.heap.size, 6, none⟩ = some (.bool false) := k0.cell 6; have fk0_6 := k0.free 6
  go_cut [10] (fun v10 wc => ∃ f : Int, v10 = .int .u8 f ∧ Hd (f = rFlag mi x' s' m) ∧ Hd (Blk wc (w.heap.size) 64 #[.bool mi, .int .i64 x', .int .u64 (l0 s'), .int .u64 (l1 s'), .int .u64 (l2 s'), .int .u64 (l3 s'), .bool false] ∧ Blk wc w4.heap.size 62 #[.int .u64 (l0 q), .int .u64 (l1 q), .int .u64 (l2 q), .int .u64 (l3 q)]) ∧ Hd (Below w.heap.size w wc))
  case first =>
    cases od with
    | false =>
      go_wp2_with fail
      go_meet
      case rel => exact ⟨0, rfl, ⟨by rw [EO.out]; simp⟩, ⟨BLKq, BLKq⟩, ⟨BELq KB⟩⟩
    | true =>
      go_wp2_with fail
      refine (r_tiny mi x' (x' + (blen s' : Int)) m s' HS.out _ (by omega) (by omega) (by omega) (by omega)).mono ?_; rintro e w5 ⟨rfl, hb⟩; replace k0 : Blk w5 (w.heap.size) 64 #[.bool mi, .int .i64 x', .int .u64 (l0 s'), .int .u64 (l1 s'), .int .u64 (l2 s'), .int .u64 (l3 s'), .bool false] := BLKq; replace kq : Blk w5 (w4.heap.size) 62 #[.int .u64 (l0 q), .int .u64 (l1 q), .int .u64 (l2 q), .int .u64 (l3 q)] := BLKq; have ltk0_w5 := k0.lt; have ltkq_w5 := kq.lt; replace KB : Hd (Below w.heap.size w w5) := Hd.mk (bthen (BELq KB) hb); have hzw5 := hb.size
      (try simp at hzw5)
      clear hb; clear ck0_0 fk0_0 ck0_1 fk0_1 ck0_2 fk0_2 ck0_3 fk0_3 ck0_4 fk0_4 ck0_5 fk0_5 ck0_6 fk0_6; have EO2 : Hd (rFlag mi x' s' m = if rTiny mi x' s' (x' + (blen s' : Int)) m then 24 else 16) := ⟨by rw [EO.out]; first | exact (if_pos trivial).trans rfl | exact (if_pos rfl).trans rfl⟩; clear EO
      generalize rTiny mi x' s' (x' + (blen s' : Int)) m = ti at *
      cases ti
      · go_wp2_with fail
        go_meet
        case rel => exact ⟨16, rfl, ⟨by rw [EO2.out]; simp⟩, ⟨BLKq, BLKq⟩, ⟨BELq KB⟩⟩
      · have or8 := or_16_8
        go_wp2_with fail
        go_meet
        case rel => exact ⟨24, rfl, ⟨by rw [EO2.out]; simp⟩, ⟨BLKq, BLKq⟩, ⟨BELq KB⟩⟩
  case rest =>
    clear ck0_0 fk0_0 ck0_1 fk0_1 ck0_2 fk0_2 ck0_3 fk0_3 ck0_4 fk0_4 ck0_5 fk0_5 ck0_6 fk0_6; clear k0 kq KB; obtain ⟨f, rfl, hf0, hkk, KB⟩ := hcut; obtain ⟨k0, kq⟩ := hkk.out; have ltk0_c := k0.lt; have ltkq_c := kq.lt; clear hkk EO; have ck0_0 : wc.cell? ⟨w.heap.size, 0, none⟩ = some (.bool mi) := k0.cell 0; have fk0_0 := k0.free 0; have ck0_1 : wc.cell? ⟨w.heap.size, 1, none⟩ = some (.int .i64 x') := k0.cell 1; have fk0_1 := k0.free 1; have ck0_2 : wc.cell? ⟨w.heap.size, 2, none⟩ = some (.int .u64 (l0 s')) := k0.cell 2; have fk0_2 := k0.free 2; have ck0_3 : wc.cell? ⟨w.heap.size, 3, none⟩ = some (.int .u64 (l1 s')) := k0.cell 3; have fk0_3 := k0.free 3; have ck0_4 : wc.cell? ⟨w.heap.size, 4, none⟩ = some (.int .u64 (l2 s')) := k0.cell 4; have fk0_4 := k0.free 4; have ck0_5 : wc.cell? ⟨w.heap.size, 5, none⟩ = some (.int .u64 (l3 s')) := k0.cell 5; have fk0_5 := k0.free 5; have ck0_6 : wc.cell? ⟨w.heap.size, 6, none⟩ = some (.bool false) := k0.cell 6; have fk0_6 := k0.free 6; have ckq_0 : wc.cell? ⟨w4.heap.size, 0, none⟩ = some (.int .u64 (l0 q)) := kq.cell 0; have fkq_0 := kq.free 0; have ckq_1 : wc.cell? ⟨w4.heap.size, 1, none⟩ = some (.int .u64 (l1 q)) := kq.cell 1; have fkq_1 := kq.free 1; have ckq_2 : wc.cell? ⟨w4.heap.size, 2, none⟩ = some (.int .u64 (l2 q)) := kq.cell 2; have fkq_2 := kq.free 2; have ckq_3 : wc.cell? ⟨w4.heap.size, 3, none⟩ = some (.int .u64 (l3 q)) := kq.cell 3; have fkq_3 := kq.free 3
    go_wp2_with fail
    refine (wlen q hq.out.2 _).mono ?_; rintro e w6 ⟨rfl, hb⟩; replace k0 : Blk w6 (w.heap.size) 64 #[.bool mi, .int .i64 x', .int .u64 (l0 s'), .int .u64 (l1 s'), .int .u64 (l2 s'), .int .u64 (l3 s'), .bool false] := BLKq; replace kq : Blk w6 (w4.heap.size) 62 #[.int .u64 (l0 q), .int .u64 (l1 q), .int .u64 (l2 q), .int .u64 (l3 q)] := BLKq; have ltk0_w6 := k0.lt; have ltkq_w6 := kq.lt; replace KB : Hd (Below w.heap.size w w6) := Hd.mk (bthen (BELq KB) hb); have hzw6 := hb.size
    (try simp at hzw6)
    clear hb; clear ck0_0 fk0_0 ck0_1 fk0_1 ck0_2 fk0_2 ck0_3 fk0_3 ck0_4 fk0_4 ck0_5 fk0_5 ck0_6 fk0_6; clear ckq_0 fkq_0 ckq_1 fkq_1 ckq_2 fkq_2 ckq_3 fkq_3
    by_cases hbq : 53 < blen q
    · have EN2 : Hd (rN2 mi x' s' m = (x' + (blen s' : Int) - 53) + 1 ∧ rQ2 mi x' s' m = q / 2) := ⟨by unfold rN2 rQ2; rw [← HQ.out, if_pos hbq, if_pos hbq, EN.out]; exact ⟨rfl, rfl⟩⟩
      have hbq1 : (53 : Int) < (blen q : Int) := by omega
      have ck0_0 : w6.cell? ⟨w.heap.size, 0, none⟩ = some (.bool mi) := k0.cell 0; have fk0_0 := k0.free 0; have ck0_1 : w6.cell? ⟨w.heap.size, 1, none⟩ = some (.int .i64 x') := k0.cell 1; have fk0_1 := k0.free 1; have ck0_2 : w6.cell? ⟨w.heap.size, 2, none⟩ = some (.int .u64 (l0 s')) := k0.cell 2; have fk0_2 := k0.free 2; have ck0_3 : w6.cell? ⟨w.heap.size, 3, none⟩ = some (.int .u64 (l1 s')) := k0.cell 3; have fk0_3 := k0.free 3; have ck0_4 : w6.cell? ⟨w.heap.size, 4, none⟩ = some (.int .u64 (l2 s')) := k0.cell 4; have fk0_4 := k0.free 4; have ck0_5 : w6.cell? ⟨w.heap.size, 5, none⟩ = some (.int .u64 (l3 s')) := k0.cell 5; have fk0_5 := k0.free 5; have ck0_6 : w6.cell? ⟨w.heap.size, 6, none⟩ = some (.bool false) := k0.cell 6; have fk0_6 := k0.free 6; have ckq_0 : w6.cell? ⟨w4.heap.size, 0, none⟩ = some (.int .u64 (l0 q)) := kq.cell 0; have fkq_0 := kq.free 0; have ckq_1 : w6.cell? ⟨w4.heap.size, 1, none⟩ = some (.int .u64 (l1 q)) := kq.cell 1; have fkq_1 := kq.free 1; have ckq_2 : w6.cell? ⟨w4.heap.size, 2, none⟩ = some (.int .u64 (l2 q)) := kq.cell 2; have fkq_2 := kq.free 2; have ckq_3 : w6.cell? ⟨w4.heap.size, 3, none⟩ = some (.int .u64 (l3 q)) := kq.cell 3; have fkq_3 := kq.free 3
      go_wp2_with fail
      refine (wshr q hq.out.2 1 _).mono ?_; rintro e w7 ⟨p, op, hpp, rfl, hb⟩; replace k0 : Blk w7 (w.heap.size) 64 #[.bool mi, .int .i64 x', .int .u64 (l0 s'), .int .u64 (l1 s'), .int .u64 (l2 s'), .int .u64 (l3 s'), .bool false] := BLKq; replace kq : Blk w7 (w4.heap.size) 62 #[.int .u64 (l0 q), .int .u64 (l1 q), .int .u64 (l2 q), .int .u64 (l3 q)] := BLKq; have ltk0_w7 := k0.lt; have ltkq_w7 := kq.lt; replace KB : Hd (Below w.heap.size w w7) := Hd.mk (bthen (BELq KB) hb); have hzw7 := hb.size
      (try simp at hzw7)
      clear hb; clear ck0_0 fk0_0 ck0_1 fk0_1 ck0_2 fk0_2 ck0_3 fk0_3 ck0_4 fk0_4 ck0_5 fk0_5 ck0_6 fk0_6; clear ckq_0 fkq_0 ckq_1 fkq_1 ckq_2 fkq_2 ckq_3 fkq_3; have HP : Hd (p = q / 2) := ⟨by rw [hpp.out.1, show (1 : Int).toNat = 1 from rfl, Nat.pow_one]⟩; clear hpp
      by_cases hov : 971 < ((x' + (blen s' : Int) - 53) + 1)
      · have ck0_0 : w7.cell? ⟨w.heap.size, 0, none⟩ = some (.bool mi) := k0.cell 0
        have fk0_0 := k0.free 0; have ck0_1 : w7.cell? ⟨w.heap.size, 1, none⟩ = some (.int .i64 x') := k0.cell 1; have fk0_1 := k0.free 1; have ck0_2 : w7.cell? ⟨w.heap.size, 2, none⟩ = some (.int .u64 (l0 s')) := k0.cell 2; have fk0_2 := k0.free 2; have ck0_3 : w7.cell? ⟨w.heap.size, 3, none⟩ = some (.int .u64 (l1 s')) := k0.cell 3; have fk0_3 := k0.free 3; have ck0_4 : w7.cell? ⟨w.heap.size, 4, none⟩ = some (.int .u64 (l2 s')) := k0.cell 4; have fk0_4 := k0.free 4; have ck0_5 : w7.cell? ⟨w.heap.size, 5, none⟩ = some (.int .u64 (l3 s')) := k0.cell 5; have fk0_5 := k0.free 5; have ck0_6 : w7.cell? ⟨w.heap.size, 6, none⟩ = some (.bool false) := k0.cell 6; have fk0_6 := k0.free 6; have ckq_0 : w7.cell? ⟨w4.heap.size, 0, none⟩ = some (.int .u64 (l0 q)) := kq.cell 0; have fkq_0 := kq.free 0; have ckq_1 : w7.cell? ⟨w4.heap.size, 1, none⟩ = some (.int .u64 (l1 q)) := kq.cell 1; have fkq_1 := kq.free 1; have ckq_2 : w7.cell? ⟨w4.heap.size, 2, none⟩ = some (.int .u64 (l2 q)) := kq.cell 2; have fkq_2 := kq.free 2; have ckq_3 : w7.cell? ⟨w4.heap.size, 3, none⟩ = some (.int .u64 (l3 q)) := kq.cell 3; have fkq_3 := kq.free 3
        go_wp2_with fail
        refine (r_over mi m _).mono ?_; rintro e w8 ⟨rfl, hb⟩; replace k0 : Blk w8 (w.heap.size) 64 #[.bool mi, .int .i64 x', .int .u64 (l0 s'), .int .u64 (l1 s'), .int .u64 (l2 s'), .int .u64 (l3 s'), .bool false] := BLKq
        replace kq : Blk w8 (w4.heap.size) 62 #[.int .u64 (l0 p), .int .u64 (l1 p), .int .u64 (l2 p), .int .u64 (l3 p)] := by
          apply Blk.same
          · exact BLKq
          · rfl
        have ltk0_w8 := k0.lt; have ltkq_w8 := kq.lt; replace KB : Hd (Below w.heap.size w w8) := Hd.mk (bthen (BELq KB) hb); have hzw8 := hb.size
        (try simp at hzw8)
        clear hb; clear ck0_0 fk0_0 ck0_1 fk0_1 ck0_2 fk0_2 ck0_3 fk0_3 ck0_4 fk0_4 ck0_5 fk0_5 ck0_6 fk0_6; clear ckq_0 fkq_0 ckq_1 fkq_1 ckq_2 fkq_2 ckq_3 fkq_3
        go_wp2_with fail
        go_ret2
        refine ⟨?_, BELq KB⟩; rw [ER.out, EN2.out.1, if_pos hov]
        first | done | rfl
      · have ck0_0 : w7.cell? ⟨w.heap.size, 0, none⟩ = some (.bool mi) := k0.cell 0
        have fk0_0 := k0.free 0; have ck0_1 : w7.cell? ⟨w.heap.size, 1, none⟩ = some (.int .i64 x') := k0.cell 1; have fk0_1 := k0.free 1; have ck0_2 : w7.cell? ⟨w.heap.size, 2, none⟩ = some (.int .u64 (l0 s')) := k0.cell 2; have fk0_2 := k0.free 2; have ck0_3 : w7.cell? ⟨w.heap.size, 3, none⟩ = some (.int .u64 (l1 s')) := k0.cell 3; have fk0_3 := k0.free 3; have ck0_4 : w7.cell? ⟨w.heap.size, 4, none⟩ = some (.int .u64 (l2 s')) := k0.cell 4; have fk0_4 := k0.free 4; have ck0_5 : w7.cell? ⟨w.heap.size, 5, none⟩ = some (.int .u64 (l3 s')) := k0.cell 5; have fk0_5 := k0.free 5; have ck0_6 : w7.cell? ⟨w.heap.size, 6, none⟩ = some (.bool false) := k0.cell 6; have fk0_6 := k0.free 6; have ckq_0 : w7.cell? ⟨w4.heap.size, 0, none⟩ = some (.int .u64 (l0 q)) := kq.cell 0; have fkq_0 := kq.free 0; have ckq_1 : w7.cell? ⟨w4.heap.size, 1, none⟩ = some (.int .u64 (l1 q)) := kq.cell 1; have fkq_1 := kq.free 1; have ckq_2 : w7.cell? ⟨w4.heap.size, 2, none⟩ = some (.int .u64 (l2 q)) := kq.cell 2; have fkq_2 := kq.free 2; have ckq_3 : w7.cell? ⟨w4.heap.size, 3, none⟩ = some (.int .u64 (l3 q)) := kq.cell 3; have fkq_3 := kq.free 3
        by_cases hp : 4503599627370496 ≤ l0 p
        · have HP0 := Hd.mk hp
          have hpd : decide (4503599627370496 ≤ l0 p) = true := decide_eq_true hp; clear hp
          go_wp2_with fail
          refine (r_sign mi _).mono ?_; rintro e w8 ⟨rfl, hb⟩; replace k0 : Blk w8 (w.heap.size) 64 #[.bool mi, .int .i64 x', .int .u64 (l0 s'), .int .u64 (l1 s'), .int .u64 (l2 s'), .int .u64 (l3 s'), .bool false] := BLKq
          replace kq : Blk w8 (w4.heap.size) 62 #[.int .u64 (l0 p), .int .u64 (l1 p), .int .u64 (l2 p), .int .u64 (l3 p)] := by
            apply Blk.same
            · exact BLKq
            · rfl
          have ltk0_w8 := k0.lt; have ltkq_w8 := kq.lt; replace KB : Hd (Below w.heap.size w w8) := Hd.mk (bthen (BELq KB) hb); have hzw8 := hb.size
          (try simp at hzw8)
          clear hb; clear ck0_0 fk0_0 ck0_1 fk0_1 ck0_2 fk0_2 ck0_3 fk0_3 ck0_4 fk0_4 ck0_5 fk0_5 ck0_6 fk0_6; clear ckq_0 fkq_0 ckq_1 fkq_1 ckq_2 fkq_2 ckq_3 fkq_3
          go_wp2_with fail
          refine (p_copy (IntKind.u64.wrap (l0 p + (x' + (blen s' : Int) - 53 + 1 + 1074) * 4503599627370496)) (sg mi) (by first | exact U0 _ | exact U_wrap _) US.out _).mono ?_; rintro e w9 ⟨rfl, hb⟩; replace k0 : Blk w9 (w.heap.size) 64 #[.bool mi, .int .i64 x', .int .u64 (l0 s'), .int .u64 (l1 s'), .int .u64 (l2 s'), .int .u64 (l3 s'), .bool false] := BLKq; replace kq : Blk w9 (w4.heap.size) 62 #[.int .u64 (l0 p), .int .u64 (l1 p), .int .u64 (l2 p), .int .u64 (l3 p)] := BLKq; have ltk0_w9 := k0.lt; have ltkq_w9 := kq.lt; replace KB : Hd (Below w.heap.size w w9) := Hd.mk (bthen (BELq KB) hb); have hzw9 := hb.size
          (try simp at hzw9)
          clear hb; rw [pM_sg]; have EP : Hd (rP p ((x' + (blen s' : Int) - 53) + 1) = (IntKind.u64.wrap (l0 p + (x' + (blen s' : Int) - 53 + 1 + 1074) * 4503599627370496))) := ⟨by unfold rP; rw [if_pos HP0.out]⟩; have RR : Hd (rRound mi x' s' m = (pA (IntKind.u64.wrap (l0 p + (x' + (blen s' : Int) - 53 + 1 + 1074) * 4503599627370496)) + sg mi, f)) := ⟨by rw [ER.out, if_neg (by rw [EN2.out.1]; omega), EN2.out.1, EN2.out.2, ← HP.out, EP.out, hf0.out]⟩
          go_wp2_with fail
          go_ret2
          refine ⟨?_, BELq KB⟩; rw [RR.out]
          first | done | rfl
        · have HP0 := Hd.mk hp
          have hpd : decide (4503599627370496 ≤ l0 p) = false := decide_eq_false hp; clear hp
          go_wp2_with fail
          refine (r_sign mi _).mono ?_; rintro e w8 ⟨rfl, hb⟩; replace k0 : Blk w8 (w.heap.size) 64 #[.bool mi, .int .i64 x', .int .u64 (l0 s'), .int .u64 (l1 s'), .int .u64 (l2 s'), .int .u64 (l3 s'), .bool false] := BLKq
          replace kq : Blk w8 (w4.heap.size) 62 #[.int .u64 (l0 p), .int .u64 (l1 p), .int .u64 (l2 p), .int .u64 (l3 p)] := by
            apply Blk.same
            · exact BLKq
            · rfl
          have ltk0_w8 := k0.lt; have ltkq_w8 := kq.lt; replace KB : Hd (Below w.heap.size w w8) := Hd.mk (bthen (BELq KB) hb); have hzw8 := hb.size
          (try simp at hzw8)
          clear hb; clear ck0_0 fk0_0 ck0_1 fk0_1 ck0_2 fk0_2 ck0_3 fk0_3 ck0_4 fk0_4 ck0_5 fk0_5 ck0_6 fk0_6; clear ckq_0 fkq_0 ckq_1 fkq_1 ckq_2 fkq_2 ckq_3 fkq_3
          go_wp2_with fail
          refine (p_copy (l0 p) (sg mi) (by first | exact U0 _ | exact U_wrap _) US.out _).mono ?_; rintro e w9 ⟨rfl, hb⟩; replace k0 : Blk w9 (w.heap.size) 64 #[.bool mi, .int .i64 x', .int .u64 (l0 s'), .int .u64 (l1 s'), .int .u64 (l2 s'), .int .u64 (l3 s'), .bool false] := BLKq; replace kq : Blk w9 (w4.heap.size) 62 #[.int .u64 (l0 p), .int .u64 (l1 p), .int .u64 (l2 p), .int .u64 (l3 p)] := BLKq; have ltk0_w9 := k0.lt; have ltkq_w9 := kq.lt; replace KB : Hd (Below w.heap.size w w9) := Hd.mk (bthen (BELq KB) hb); have hzw9 := hb.size
          (try simp at hzw9)
          clear hb; rw [pM_sg]; have EP : Hd (rP p ((x' + (blen s' : Int) - 53) + 1) = (l0 p)) := ⟨by unfold rP; rw [if_neg (by have := HP0.out; omega)]⟩; have RR : Hd (rRound mi x' s' m = (pA (l0 p) + sg mi, f)) := ⟨by rw [ER.out, if_neg (by rw [EN2.out.1]; omega), EN2.out.1, EN2.out.2, ← HP.out, EP.out, hf0.out]⟩
          go_wp2_with fail
          go_ret2
          refine ⟨?_, BELq KB⟩; rw [RR.out]
          first | done | rfl
    · have EN2 : Hd (rN2 mi x' s' m = (x' + (blen s' : Int) - 53) ∧ rQ2 mi x' s' m = q) := ⟨by unfold rN2 rQ2; rw [← HQ.out, if_neg hbq, if_neg hbq, EN.out]; exact ⟨rfl, rfl⟩⟩
      have hbq1 : ¬ (53 : Int) < (blen q : Int) := by omega
      by_cases hov : 971 < (x' + (blen s' : Int) - 53)
      · have ck0_0 : w6.cell? ⟨w.heap.size, 0, none⟩ = some (.bool mi) := k0.cell 0
        have fk0_0 := k0.free 0; have ck0_1 : w6.cell? ⟨w.heap.size, 1, none⟩ = some (.int .i64 x') := k0.cell 1; have fk0_1 := k0.free 1; have ck0_2 : w6.cell? ⟨w.heap.size, 2, none⟩ = some (.int .u64 (l0 s')) := k0.cell 2; have fk0_2 := k0.free 2; have ck0_3 : w6.cell? ⟨w.heap.size, 3, none⟩ = some (.int .u64 (l1 s')) := k0.cell 3; have fk0_3 := k0.free 3; have ck0_4 : w6.cell? ⟨w.heap.size, 4, none⟩ = some (.int .u64 (l2 s')) := k0.cell 4; have fk0_4 := k0.free 4; have ck0_5 : w6.cell? ⟨w.heap.size, 5, none⟩ = some (.int .u64 (l3 s')) := k0.cell 5; have fk0_5 := k0.free 5; have ck0_6 : w6.cell? ⟨w.heap.size, 6, none⟩ = some (.bool false) := k0.cell 6; have fk0_6 := k0.free 6; have ckq_0 : w6.cell? ⟨w4.heap.size, 0, none⟩ = some (.int .u64 (l0 q)) := kq.cell 0; have fkq_0 := kq.free 0; have ckq_1 : w6.cell? ⟨w4.heap.size, 1, none⟩ = some (.int .u64 (l1 q)) := kq.cell 1; have fkq_1 := kq.free 1; have ckq_2 : w6.cell? ⟨w4.heap.size, 2, none⟩ = some (.int .u64 (l2 q)) := kq.cell 2; have fkq_2 := kq.free 2; have ckq_3 : w6.cell? ⟨w4.heap.size, 3, none⟩ = some (.int .u64 (l3 q)) := kq.cell 3; have fkq_3 := kq.free 3
        go_wp2_with fail
        refine (r_over mi m _).mono ?_; rintro e w8 ⟨rfl, hb⟩; replace k0 : Blk w8 (w.heap.size) 64 #[.bool mi, .int .i64 x', .int .u64 (l0 s'), .int .u64 (l1 s'), .int .u64 (l2 s'), .int .u64 (l3 s'), .bool false] := BLKq; replace kq : Blk w8 (w4.heap.size) 62 #[.int .u64 (l0 q), .int .u64 (l1 q), .int .u64 (l2 q), .int .u64 (l3 q)] := BLKq; have ltk0_w8 := k0.lt; have ltkq_w8 := kq.lt; replace KB : Hd (Below w.heap.size w w8) := Hd.mk (bthen (BELq KB) hb); have hzw8 := hb.size
        (try simp at hzw8)
        clear hb; clear ck0_0 fk0_0 ck0_1 fk0_1 ck0_2 fk0_2 ck0_3 fk0_3 ck0_4 fk0_4 ck0_5 fk0_5 ck0_6 fk0_6; clear ckq_0 fkq_0 ckq_1 fkq_1 ckq_2 fkq_2 ckq_3 fkq_3
        go_wp2_with fail
        go_ret2
        refine ⟨?_, BELq KB⟩; rw [ER.out, EN2.out.1, if_pos hov]
        first | done | rfl
      · have ck0_0 : w6.cell? ⟨w.heap.size, 0, none⟩ = some (.bool mi) := k0.cell 0
        have fk0_0 := k0.free 0; have ck0_1 : w6.cell? ⟨w.heap.size, 1, none⟩ = some (.int .i64 x') := k0.cell 1; have fk0_1 := k0.free 1; have ck0_2 : w6.cell? ⟨w.heap.size, 2, none⟩ = some (.int .u64 (l0 s')) := k0.cell 2; have fk0_2 := k0.free 2; have ck0_3 : w6.cell? ⟨w.heap.size, 3, none⟩ = some (.int .u64 (l1 s')) := k0.cell 3; have fk0_3 := k0.free 3; have ck0_4 : w6.cell? ⟨w.heap.size, 4, none⟩ = some (.int .u64 (l2 s')) := k0.cell 4; have fk0_4 := k0.free 4; have ck0_5 : w6.cell? ⟨w.heap.size, 5, none⟩ = some (.int .u64 (l3 s')) := k0.cell 5; have fk0_5 := k0.free 5; have ck0_6 : w6.cell? ⟨w.heap.size, 6, none⟩ = some (.bool false) := k0.cell 6; have fk0_6 := k0.free 6; have ckq_0 : w6.cell? ⟨w4.heap.size, 0, none⟩ = some (.int .u64 (l0 q)) := kq.cell 0; have fkq_0 := kq.free 0; have ckq_1 : w6.cell? ⟨w4.heap.size, 1, none⟩ = some (.int .u64 (l1 q)) := kq.cell 1; have fkq_1 := kq.free 1; have ckq_2 : w6.cell? ⟨w4.heap.size, 2, none⟩ = some (.int .u64 (l2 q)) := kq.cell 2; have fkq_2 := kq.free 2; have ckq_3 : w6.cell? ⟨w4.heap.size, 3, none⟩ = some (.int .u64 (l3 q)) := kq.cell 3; have fkq_3 := kq.free 3
        by_cases hp : 4503599627370496 ≤ l0 q
        · have HP0 := Hd.mk hp
          have hpd : decide (4503599627370496 ≤ l0 q) = true := decide_eq_true hp; clear hp
          go_wp2_with fail
          refine (r_sign mi _).mono ?_; rintro e w8 ⟨rfl, hb⟩; replace k0 : Blk w8 (w.heap.size) 64 #[.bool mi, .int .i64 x', .int .u64 (l0 s'), .int .u64 (l1 s'), .int .u64 (l2 s'), .int .u64 (l3 s'), .bool false] := BLKq; replace kq : Blk w8 (w4.heap.size) 62 #[.int .u64 (l0 q), .int .u64 (l1 q), .int .u64 (l2 q), .int .u64 (l3 q)] := BLKq; have ltk0_w8 := k0.lt; have ltkq_w8 := kq.lt; replace KB : Hd (Below w.heap.size w w8) := Hd.mk (bthen (BELq KB) hb); have hzw8 := hb.size
          (try simp at hzw8)
          clear hb; clear ck0_0 fk0_0 ck0_1 fk0_1 ck0_2 fk0_2 ck0_3 fk0_3 ck0_4 fk0_4 ck0_5 fk0_5 ck0_6 fk0_6; clear ckq_0 fkq_0 ckq_1 fkq_1 ckq_2 fkq_2 ckq_3 fkq_3
          go_wp2_with fail
          refine (p_copy (IntKind.u64.wrap (l0 q + (x' + (blen s' : Int) - 53 + 1074) * 4503599627370496)) (sg mi) (by first | exact U0 _ | exact U_wrap _) US.out _).mono ?_; rintro e w9 ⟨rfl, hb⟩; replace k0 : Blk w9 (w.heap.size) 64 #[.bool mi, .int .i64 x', .int .u64 (l0 s'), .int .u64 (l1 s'), .int .u64 (l2 s'), .int .u64 (l3 s'), .bool false] := BLKq; replace kq : Blk w9 (w4.heap.size) 62 #[.int .u64 (l0 q), .int .u64 (l1 q), .int .u64 (l2 q), .int .u64 (l3 q)] := BLKq; have ltk0_w9 := k0.lt; have ltkq_w9 := kq.lt; replace KB : Hd (Below w.heap.size w w9) := Hd.mk (bthen (BELq KB) hb); have hzw9 := hb.size
          (try simp at hzw9)
          clear hb; rw [pM_sg]; have EP : Hd (rP q (x' + (blen s' : Int) - 53) = (IntKind.u64.wrap (l0 q + (x' + (blen s' : Int) - 53 + 1074) * 4503599627370496))) := ⟨by unfold rP; rw [if_pos HP0.out]⟩; have RR : Hd (rRound mi x' s' m = (pA (IntKind.u64.wrap (l0 q + (x' + (blen s' : Int) - 53 + 1074) * 4503599627370496)) + sg mi, f)) := ⟨by rw [ER.out, if_neg (by rw [EN2.out.1]; omega), EN2.out.1, EN2.out.2, EP.out, hf0.out]⟩
          go_wp2_with fail
          go_ret2
          refine ⟨?_, BELq KB⟩; rw [RR.out]
          first | done | rfl
        · have HP0 := Hd.mk hp
          have hpd : decide (4503599627370496 ≤ l0 q) = false := decide_eq_false hp; clear hp
          go_wp2_with fail
          refine (r_sign mi _).mono ?_; rintro e w8 ⟨rfl, hb⟩; replace k0 : Blk w8 (w.heap.size) 64 #[.bool mi, .int .i64 x', .int .u64 (l0 s'), .int .u64 (l1 s'), .int .u64 (l2 s'), .int .u64 (l3 s'), .bool false] := BLKq; replace kq : Blk w8 (w4.heap.size) 62 #[.int .u64 (l0 q), .int .u64 (l1 q), .int .u64 (l2 q), .int .u64 (l3 q)] := BLKq; have ltk0_w8 := k0.lt; have ltkq_w8 := kq.lt; replace KB : Hd (Below w.heap.size w w8) := Hd.mk (bthen (BELq KB) hb); have hzw8 := hb.size
          (try simp at hzw8)
          clear hb; clear ck0_0 fk0_0 ck0_1 fk0_1 ck0_2 fk0_2 ck0_3 fk0_3 ck0_4 fk0_4 ck0_5 fk0_5 ck0_6 fk0_6; clear ckq_0 fkq_0 ckq_1 fkq_1 ckq_2 fkq_2 ckq_3 fkq_3
          go_wp2_with fail
          refine (p_copy (l0 q) (sg mi) (by first | exact U0 _ | exact U_wrap _) US.out _).mono ?_; rintro e w9 ⟨rfl, hb⟩; replace k0 : Blk w9 (w.heap.size) 64 #[.bool mi, .int .i64 x', .int .u64 (l0 s'), .int .u64 (l1 s'), .int .u64 (l2 s'), .int .u64 (l3 s'), .bool false] := BLKq; replace kq : Blk w9 (w4.heap.size) 62 #[.int .u64 (l0 q), .int .u64 (l1 q), .int .u64 (l2 q), .int .u64 (l3 q)] := BLKq; have ltk0_w9 := k0.lt; have ltkq_w9 := kq.lt; replace KB : Hd (Below w.heap.size w w9) := Hd.mk (bthen (BELq KB) hb); have hzw9 := hb.size
          (try simp at hzw9)
          clear hb; rw [pM_sg]; have EP : Hd (rP q (x' + (blen s' : Int) - 53) = (l0 q)) := ⟨by unfold rP; rw [if_neg (by have := HP0.out; omega)]⟩; have RR : Hd (rRound mi x' s' m = (pA (l0 q) + sg mi, f)) := ⟨by rw [ER.out, if_neg (by rw [EN2.out.1]; omega), EN2.out.1, EN2.out.2, EP.out, hf0.out]⟩
          go_wp2_with fail
          go_ret2
          refine ⟨?_, BELq KB⟩; rw [RR.out]
          first | done | rfl
def rX (mo : Bool) (x : Int) : Int := if mo then x - 1 else x
def rS (mo : Bool) (s : Nat) : Nat := if mo then 2 * s + 1 else s
theorem r_round_x (mi mo : Bool) (x x' m : Int) (s s' : Nat) (hs : s' < T256) (h0 : -131072 ≤ x) (h1 : x ≤ 131072) (h2 : -140000 ≤ x') (h3 : x' ≤ 140000)
    (HE : Hd (∀ w, Calls Try.prog 75 #[.agg #[.bool mi, .int .i64 x, .int .u64 (l0 s), .int .u64 (l1 s), .int .u64 (l2 s), .int .u64 (l3 s), .bool mo]] w fun e w' => e = .returned (.agg #[.bool mi, .int .i64 x', .int .u64 (l0 s'), .int .u64 (l1 s'), .int .u64 (l2 s'), .int .u64 (l3 s'), .bool false]) ∧ Below w.heap.size w w')) (w : World) : Calls Try.prog 46 #[.agg #[.bool mi, .int .i64 x, .int .u64 (l0 s), .int .u64 (l1 s), .int .u64 (l2 s), .int .u64 (l3 s), .bool mo], .int .i64 m] w fun e w' =>
    e = .returned (.tuple #[.int .u64 (rRound mi x' s' m).1, .int .u8 (rRound mi x' s' m).2]) ∧ Below w.heap.size w w' := by
  by_cases hz : s' = 0
  · have h := r_round_nil mi mo x x' m s s' hs h0 h1 h2 h3 HE hz w
    have e : rRound mi x' s' m = (sg mi, 0) := by unfold rRound; rw [if_pos hz]
    rw [e]; exact h
  · by_cases hm : x' + (blen s' : Int) - 53 < -1074
    · exact r_round_lo mi mo x x' m s s' hs h0 h1 h2 h3 HE hz hm w
    · exact r_round_hi mi mo x x' m s s' hs h0 h1 h2 h3 HE hz (by omega) w
theorem r_round (mi mo : Bool) (x m : Int) (s : Nat) (hs : s < 2 ^ 254) (h0 : -131072 ≤ x) (h1 : x ≤ 131072) (w : World) : Calls Try.prog 46 #[.agg #[.bool mi, .int .i64 x, .int .u64 (l0 s), .int .u64 (l1 s), .int .u64 (l2 s), .int .u64 (l3 s), .bool mo], .int .i64 m] w fun e w' =>
    e = .returned (.tuple #[.int .u64 (rRound mi (rX mo x) (rS mo s) m).1, .int .u8 (rRound mi (rX mo x) (rS mo s) m).2]) ∧ Below w.heap.size w w' := by
  have hT : s < T256 := by rw [T256_eq]; exact Nat.lt_trans hs (by decide)
  cases mo with
  | false => exact r_round_x mi false x x m s s hT h0 h1 (by omega) (by omega) ⟨fun w => r_exact_no mi x s w⟩ w
  | true => exact r_round_x mi true x (x - 1) m s (2 * s + 1) (by rw [T256_eq]; omega) h0 h1 (by omega) (by omega) ⟨fun w => r_exact_yes mi x s hs w (by omega) (by omega)⟩ w
end Go.Proofs.Ythcgeekibomhiaa
namespace Go.Proofs.Ythcgeekibomhiaa
set_option linter.unusedVariables false
set_option linter.unusedSimpArgs false
open Go.RowKit
def qNone (a b : Int) : Int × Int := (9221120237041090560, if pC a = 5 ∨ pC b = 5 then 1 else 0)
set_option maxRecDepth 100000 in
theorem q_none (a b : Int) (ha : U a) (hb : U b) (w : World) : Calls Try.prog 63 #[.int .u64 a, .int .u64 b] w fun e w' => e = .returned (.tuple #[.int .u64 (qNone a b).1, .int .u8 (qNone a b).2]) ∧ Below w.heap.size w w' := by
  have HA := Hd.mk ha; have HB0 := Hd.mk hb; have EQ : Hd (qNone a b = (9221120237041090560, if pC a = 5 ∨ pC b = 5 then 1 else 0)) := ⟨rfl⟩; rw [EQ.out]; clear ha hb
  by_cases c1 : pC a = 5
  · rw [if_pos (Or.inl c1)]
    go_enter Try.func63, Try.ntmps63
    go_wp2_with fail
    refine (p_class a HA.out _).mono ?_; rintro e w1 ⟨rfl, hb⟩; have KB : Hd (Below w.heap.size w w1) := Hd.mk (bthen BELz hb); rw [c1]
    go_wp2_with fail
    exact bodyPost_ret (v := .tuple #[.int .u64 9221120237041090560, .int .u8 1]) (by simp [results, Try.results63, go_sem]) rfl ⟨rfl, BELq KB⟩
  · by_cases c2 : pC b = 5
    · have d1 : (pC a == 5) = false := by simp [c1]
      rw [if_pos (Or.inr c2)]
      go_enter Try.func63, Try.ntmps63
      go_wp2_with fail
      refine (p_class a HA.out _).mono ?_; rintro e w1 ⟨rfl, hb⟩; have KB : Hd (Below w.heap.size w w1) := Hd.mk (bthen BELz hb)
      go_wp2_with fail
      refine (p_class b HB0.out _).mono ?_; rintro e w2 ⟨rfl, hb⟩; replace KB : Hd (Below w.heap.size w w2) := Hd.mk (bthen (BELq KB) hb); rw [c2]
      go_wp2_with fail
      exact bodyPost_ret (v := .tuple #[.int .u64 9221120237041090560, .int .u8 1]) (by simp [results, Try.results63, go_sem]) rfl ⟨rfl, BELq KB⟩
    · have d1 : (pC a == 5) = false := by simp [c1]
      have d2 : (pC b == 5) = false := by simp [c2]
      rw [if_neg (fun h => h.elim c1 c2)]
      go_enter Try.func63, Try.ntmps63
      go_wp2_with fail
      refine (p_class a HA.out _).mono ?_; rintro e w1 ⟨rfl, hb⟩; have KB : Hd (Below w.heap.size w w1) := Hd.mk (bthen BELz hb)
      go_wp2_with fail
      refine (p_class b HB0.out _).mono ?_; rintro e w2 ⟨rfl, hb⟩; replace KB : Hd (Below w.heap.size w w2) := Hd.mk (bthen (BELq KB) hb)
      go_wp2_with fail
      exact bodyPost_ret (v := .tuple #[.int .u64 9221120237041090560, .int .u8 0]) (by simp [results, Try.results63, go_sem]) rfl ⟨rfl, BELq KB⟩
def qN (a : Int) : Nat := (pS a).toNat * 2 ^ 128
def qS (a b : Int) : Nat := qN a / (pS b).toNat
def qT (a b : Int) : Nat := qN a % (pS b).toNat
def qR (a b : Int) : Bool := !decide (qT a b = 0)
def qMi (a b : Int) : Bool := pM a != pM b
def qMain (a b m : Int) : Int × Int := rRound (qMi a b) (rX (qR a b) (pX a - pX b - 128)) (rS (qR a b) (qS a b)) m
def qDiv (a b m : Int) : Int × Int :=
  if 3 < pC a ∨ 3 < pC b then qNone a b
  else if pC a = pC b ∧ (pC a = 0 ∨ pC a = 3) then (9221120237041090560, 1)
  else if pC a = 3 then (9218868437227405312 + sg (qMi a b), 0)
  else if pC b = 3 then (sg (qMi a b), 0)
  else if pC b = 0 then (9218868437227405312 + sg (qMi a b), 2)
  else qMain a b m
theorem bor_inf (b : Bool) : bits .or .u64 9218868437227405312 (sg b) = 9218868437227405312 + sg b := bor_sg _ (by decide) (by decide) b
theorem pS_bd (p : Int) : 0 ≤ pS p ∧ pS p < 9007199254740992 := by have := pF_bd p; unfold pS; split <;> (try split) <;> omega
theorem pX_bd (p : Int) : -1074 ≤ pX p ∧ pX p ≤ 971 := by have := pE_bd p; unfold pX; split <;> (try split) <;> omega
theorem pC_bd (p : Int) : 0 ≤ pC p ∧ pC p ≤ 5 := by unfold pC; split <;> (try split) <;> (try split) <;> omega
theorem pS_pos (p : Int) (h : pC p ≠ 0) (h3 : pC p ≠ 3) : 0 < pS p := by
  have := pF_bd p
  unfold pC at h h3
  unfold pS
  by_cases e : pE p = 2047
  · rw [if_pos e] at h3 ⊢
    by_cases f : pF p = 0
    · rw [if_pos f] at h3; exact absurd rfl h3
    · omega
  · rw [if_neg e] at h ⊢
    by_cases f : 0 < pE p
    · rw [if_pos f]; omega
    · rw [if_neg f] at h ⊢
      by_cases g : 0 < pF p
      · exact g
      · rw [if_neg g] at h; exact absurd rfl h
end Go.Proofs.Ythcgeekibomhiaa
namespace Go.Proofs.Ythcgeekibomhiaa
set_option linter.unusedVariables false
set_option linter.unusedSimpArgs false
open Go.RowKit
def inU (a : Int) : Bool := decide (0 ≤ a ∧ a ≤ 18446744073709551615)
theorem inU_U {a : Int} (h : inU a = true) : U a := by unfold inU at h; unfold U; exact of_decide_eq_true h
theorem inU_of {a : Int} (h : U a) : inU a = true := by unfold U at h; unfold inU; exact decide_eq_true h
def okW (a b c d : Int) : Bool := inU a && inU b && inU c && inU d
def nW (a b c d : Int) : Nat := (a + b * 18446744073709551616 + c * 340282366920938463463374607431768211456 + d * 6277101735386680763835789423207666416102355444464034512896).toNat
theorem nW_l {n : Nat} (h : n < T256) : nW (l0 n) (l1 n) (l2 n) (l3 n) = n := by unfold nW; rw [lsum h]; rfl
theorem okW_l {n : Nat} (h : n < T256) : okW (l0 n) (l1 n) (l2 n) (l3 n) = true := by
  unfold okW
  rw [inU_of (U0 n), inU_of (U1 n), inU_of (U2 n), inU_of (U3 n)]
  rfl
theorem okW_ex {a b c d : Int} (h : okW a b c d = true) : ∃ n : Nat, n < T256 ∧ a = l0 n ∧ b = l1 n ∧ c = l2 n ∧ d = l3 n := by
  unfold okW at h
  simp only [Bool.and_eq_true] at h
  obtain ⟨⟨⟨h0, h1⟩, h2⟩, h3⟩ := h; have u0 := inU_U h0; have u1 := inU_U h1; have u2 := inU_U h2; have u3 := inU_U h3
  have e : a + b * 18446744073709551616 + c * 340282366920938463463374607431768211456 + d * 6277101735386680763835789423207666416102355444464034512896 = ((nW a b c d : Nat) : Int) := by unfold nW; unfold U at u0 u1 u2 u3; omega
  refine ⟨nW a b c d, ?_, lof u0 u1 u2 u3 e⟩
  unfold T256
  unfold U at u0 u1 u2 u3
  omega
end Go.Proofs.Ythcgeekibomhiaa
