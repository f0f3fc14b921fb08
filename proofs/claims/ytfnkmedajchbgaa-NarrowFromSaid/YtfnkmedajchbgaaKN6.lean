import Derived.Test.YtfnkmedajchbgaaKN4
import Derived.Test.YtfnkmedajchbgaaKNXrndWhole
section
namespace Go.Proofs.Ytfnkmedajchbgaa.X
open Go.RowKit Go.Proofs.YtfnkmedajchbgaaW.PrintWords Go.Proofs.YtfnkmedajchbgaaW.PrintLast Go.Proofs.YtfnkmedajchbgaaW.PrintMore
attribute [local go_sem] max2_int min2_int max_two min_two max_three min_three max_four min_four   
set_option linter.unusedVariables false
set_option linter.unusedSimpArgs false
def narrow_to.f (k : Nat) (a0_0 : Bool) (a0_1 : Int) (a0_2 : Int) (a0_3 : Int) (a0_4 : Int) (a0_5 : Int) (a0_6 : Bool) (a1 : Int) (a2 : Int) : Option (Int × Bool) := (rnd_Whole.f k a0_0 (wrap64 (a0_1 - a1)) a0_2 a0_3 a0_4 a0_5 a0_6 a2).bind fun q3 => ((wide_Shl.f q3.2.2.1 q3.2.2.2.1 q3.2.2.2.2.1 q3.2.2.2.2.2.1 q3.2.1).bind fun qd => (some (qd.1, q3.2.2.2.2.2.2.2)))
theorem narrow_to.mono : ∀ a0 a1 a2 a3 a4 a5 a6 a7 a8 k, LeO (narrow_to.f k a0 a1 a2 a3 a4 a5 a6 a7 a8) (narrow_to.f (k + 1) a0 a1 a2 a3 a4 a5 a6 a7 a8) := by
 intro a0 a1 a2 a3 a4 a5 a6 a7 a8 k
 unfold narrow_to.f
 repeat' first
  | (with_reducible exact rnd_Whole.mono _ _ _ _ _ _ _ _ _)
  | (with_reducible exact LeO.refl _)
  | (with_reducible exact LeO.none _)
  | (with_reducible refine LeO.ite ?_ ?_)
  | (with_reducible refine LeO.bind ?_ (fun _ => ?_))
  | exact rnd_Whole.mono _ _ _ _ _ _ _ _ _
  | exact LeO.none _
  | refine LeO.ite ?_ ?_
  | refine LeO.bind ?_ (fun _ => ?_)
set_option maxHeartbeats 8000000 in
set_option maxRecDepth 100000 in
theorem narrow_to.calls (k : Nat) (a0_0 : Bool) (a0_1 : Int) (a0_2 : Int) (a0_3 : Int) (a0_4 : Int) (a0_5 : Int) (a0_6 : Bool) (a1 : Int) (a2 : Int) (r1 : Int) (r2 : Bool) (w : World) (h : narrow_to.f k a0_0 a0_1 a0_2 a0_3 a0_4 a0_5 a0_6 a1 a2 = some (r1, r2)) :
 Calls Try.prog 31 #[.agg #[.bool a0_0, .int .i64 a0_1, .int .u64 a0_2, .int .u64 a0_3, .int .u64 a0_4, .int .u64 a0_5, .bool a0_6], .int .i64 a1, .int .i64 a2] w fun e w' => e = .returned (.tuple #[.int .u64 r1, .bool r2]) ∧ Below w.heap.size w w' := by
 have hu51 := Try.underlying51; have hu49 := Try.underlying49; have hfdindex49_0 := indexA49_0; have HB := Aside0.mk (Below.refl w.heap.size w); have H : ((rnd_Whole.f k a0_0 (wrap64 (a0_1 - a1)) a0_2 a0_3 a0_4 a0_5 a0_6 a2).bind fun q3 => ((wide_Shl.f q3.2.2.1 q3.2.2.2.1 q3.2.2.2.2.1 q3.2.2.2.2.2.1 q3.2.1).bind fun qd => (some (qd.1, q3.2.2.2.2.2.2.2)))) = some (r1, r2) := h; clear h; replace H := Option.bind_eq_some_iff.mp H; obtain ⟨⟨q7, q5, q6, q8, qa, qb, qf, qe⟩, A40, H⟩ := H; replace H : ((wide_Shl.f q6 q8 qa qb q5).bind fun qd => (some (qd.1, qe))) = some (r1, r2) := H; have A4 := Aside0.mk A40; clear A40; replace H := Option.bind_eq_some_iff.mp H; obtain ⟨⟨qg, qi, qj, qk⟩, A50, H⟩ := H; replace H : (some (qg, qe)) = some (r1, r2) := H; have A5 := Aside0.mk A50; clear A50
 simp only [Option.some.injEq, Prod.mk.injEq] at H
 obtain ⟨rfl, rfl⟩ := H
 go_enter Try.func31, Try.ntmps31
 go_wp2_with (first | ((with_reducible refine gate_dst (N := 3) rfl ?_); refine box_event ?hg (N := 3) ?hd (cs := #[.bool a0_0, .int .i64 a0_1, .int .u64 a0_2, .int .u64 a0_3, .int .u64 a0_4, .int .u64 a0_5, .bool a0_6]) (t := 51) ?hr ?_; (case hd => rfl); (case hg => rfl); (case hr => first | (go_simp; done) | (go_simp; rfl)); intro q1 hg w6 hbox hb; have q0 := Aside0.mk (hbox); have GW145 := Aside0.mk ((by rw [hg]; exact (below_size (kH HB)) : w.heap.size ≤ q1)); have qc := Aside0.mk ((by rw [hg]; exact (below_size (kH HB)) : w.heap.size ≤ q1)); replace HB := Aside0.mk (below_step (kH HB) hb); clear hb hbox hg; have hcz7_0 : w6.cell? ⟨q1, 0, none⟩ = some (.bool a0_0) := bc q0 0; have hcz7_1 : w6.cell? ⟨q1, 1, none⟩ = some (.int .i64 a0_1) := bc q0 1; have hcz7_2 : w6.cell? ⟨q1, 2, none⟩ = some (.int .u64 a0_2) := bc q0 2; have hcz7_3 : w6.cell? ⟨q1, 3, none⟩ = some (.int .u64 a0_3) := bc q0 3; have hcz7_4 : w6.cell? ⟨q1, 4, none⟩ = some (.int .u64 a0_4) := bc q0 4; have hcz7_5 : w6.cell? ⟨q1, 5, none⟩ = some (.int .u64 a0_5) := bc q0 5; have hcz7_6 : w6.cell? ⟨q1, 6, none⟩ = some (.bool a0_6) := bc q0 6; have hfz7_0 := blk_frozen q0.out 0; have hfz7_1 := blk_frozen q0.out 1; have hfz7_2 := blk_frozen q0.out 2; have hfz7_3 := blk_frozen q0.out 3; have hfz7_4 := blk_frozen q0.out 4; have hfz7_5 := blk_frozen q0.out 5; have hfz7_6 := blk_frozen q0.out 6) | ((with_reducible refine gate_callee (f := 56) rfl ?_); refine goesL_ (some 18) rfl rfl Try.func56 (by kernel_rfl) rfl #[.agg #[.bool a0_0, .int .i64 (wrap64 (a0_1 - a1)), .int .u64 a0_2, .int .u64 a0_3, .int .u64 a0_4, .int .u64 a0_5, .bool a0_6], .int .i64 a2] rfl LMq ?_; (with_reducible refine (rnd_Whole.calls k a0_0 (wrap64 (a0_1 - a1)) a0_2 a0_3 a0_4 a0_5 a0_6 a2 q7 q5 q6 q8 qa qb qf qe _ A4.out).mono ?_); rintro e w8 ⟨rfl, hb⟩; refine ⟨_, rfl, ?_⟩; replace q0 := Aside0.mk (blk_below (g := q1) (o := .cells #[.bool a0_0, .int .i64 (wrap64 (a0_1 - a1)), .int .u64 a0_2, .int .u64 a0_3, .int .u64 a0_4, .int .u64 a0_5, .bool a0_6] 51 (0, 0)) (by (with_reducible repeat (first | refine blk_drewN ?_ _ | refine blk_drew ?_ | refine blk_alloc ?_ _)); refine blk_put (cs := #[.bool a0_0, .int .i64 a0_1, .int .u64 a0_2, .int .u64 a0_3, .int .u64 a0_4, .int .u64 a0_5, .bool a0_6]) ?_ 1 _ rfl; (with_reducible repeat (first | refine blk_drewN ?_ _ | refine blk_drew ?_ | refine blk_alloc ?_ _)); exact q0.out) hb); replace HB := Aside0.mk (below_step (kHs HB qc) hb); (try clear hb); (try clear hb2); (try clear hk); (try clear hi)) | ((with_reducible refine gate_dst (N := 8) rfl ?_); refine box_event ?hg (N := 8) ?hd (cs := #[.bool false, .int .i64 0, .int .u64 0, .int .u64 0, .int .u64 0, .int .u64 0, .bool false]) (t := 51) ?hr ?_; (case hd => rfl); (case hg => rfl); (case hr => first | (go_simp; done) | (go_simp; rfl)); intro q4 hg w9 hbox hb; have q2 := Aside0.mk (hbox); have GW154 := Aside0.mk ((by rw [hg]; exact (below_size (kHs HB qc)) : w.heap.size ≤ q4)); have qh := Aside0.mk ((by rw [hg]; exact (below_size (kHs HB qc)) : w.heap.size ≤ q4)); replace HB := Aside0.mk (below_step (kHs HB qc) hb); have q9 := Aside0.mk ((by rw [hg]; exact Nat.ne_of_lt (blk_lt (g := q1) (o := .cells #[.bool a0_0, .int .i64 (wrap64 (a0_1 - a1)), .int .u64 a0_2, .int .u64 a0_3, .int .u64 a0_4, .int .u64 a0_5, .bool a0_6] 51 (0, 0)) (kB q0)) : q1 ≠ q4)); have ql := Aside0.mk ((by rw [hg]; exact Nat.ne_of_gt (blk_lt (g := q1) (o := .cells #[.bool a0_0, .int .i64 (wrap64 (a0_1 - a1)), .int .u64 a0_2, .int .u64 a0_3, .int .u64 a0_4, .int .u64 a0_5, .bool a0_6] 51 (0, 0)) (kB q0)) : q4 ≠ q1)); replace q0 := Aside0.mk (blk_below (g := q1) (o := .cells #[.bool a0_0, .int .i64 (wrap64 (a0_1 - a1)), .int .u64 a0_2, .int .u64 a0_3, .int .u64 a0_4, .int .u64 a0_5, .bool a0_6] 51 (0, 0)) (kB q0) hb); clear hb hbox hg; have hnb10 := ql.out; have hnc10 := q9.out; have hcz11_0 : w9.cell? ⟨q4, 0, none⟩ = some (.bool false) := bc q2 0; have hcz11_1 : w9.cell? ⟨q4, 1, none⟩ = some (.int .i64 0) := bc q2 1; have hcz11_2 : w9.cell? ⟨q4, 2, none⟩ = some (.int .u64 0) := bc q2 2; have hcz11_3 : w9.cell? ⟨q4, 3, none⟩ = some (.int .u64 0) := bc q2 3; have hcz11_4 : w9.cell? ⟨q4, 4, none⟩ = some (.int .u64 0) := bc q2 4; have hcz11_5 : w9.cell? ⟨q4, 5, none⟩ = some (.int .u64 0) := bc q2 5; have hcz11_6 : w9.cell? ⟨q4, 6, none⟩ = some (.bool false) := bc q2 6; have hfz11_0 := blk_frozen q2.out 0; have hfz11_1 := blk_frozen q2.out 1; have hfz11_2 := blk_frozen q2.out 2; have hfz11_3 := blk_frozen q2.out 3; have hfz11_4 := blk_frozen q2.out 4; have hfz11_5 := blk_frozen q2.out 5; have hfz11_6 := blk_frozen q2.out 6) | ((with_reducible refine gate_callee (f := 47) rfl ?_); refine goesL_ (some 25) rfl rfl Try.func47 (by kernel_rfl) rfl #[.agg #[.int .u64 q6, .int .u64 q8, .int .u64 qa, .int .u64 qb], .int .i64 q5] rfl LMq ?_; (with_reducible refine (wide_Shl.calls q6 q8 qa qb q5 qg qi qj qk _ A5.out).mono ?_); rintro e w12 ⟨rfl, hb⟩; refine ⟨_, rfl, ?_⟩; replace q0 := Aside0.mk (blk_below (g := q1) (o := .cells #[.bool a0_0, .int .i64 (wrap64 (a0_1 - a1)), .int .u64 a0_2, .int .u64 a0_3, .int .u64 a0_4, .int .u64 a0_5, .bool a0_6] 51 (0, 0)) (by (with_reducible repeat (first | refine blk_drewN ?_ _ | refine blk_drew ?_ | refine blk_alloc ?_ _)); refine blk_far ?_ q9.out _; refine blk_far ?_ q9.out _; refine blk_far ?_ q9.out _; refine blk_far ?_ q9.out _; refine blk_far ?_ q9.out _; refine blk_far ?_ q9.out _; refine blk_far ?_ q9.out _; (with_reducible repeat (first | refine blk_drewN ?_ _ | refine blk_drew ?_ | refine blk_alloc ?_ _)); exact q0.out) hb); replace q2 := Aside0.mk (blk_below (g := q4) (o := .cells #[.bool q7, .int .i64 q5, .int .u64 q6, .int .u64 q8, .int .u64 qa, .int .u64 qb, .bool qf] 51 (0, 0)) (by (with_reducible repeat (first | refine blk_drewN ?_ _ | refine blk_drew ?_ | refine blk_alloc ?_ _)); refine blk_put (cs := #[.bool q7, .int .i64 q5, .int .u64 q6, .int .u64 q8, .int .u64 qa, .int .u64 qb, .bool false]) ?_ 6 _ rfl; refine blk_put (cs := #[.bool q7, .int .i64 q5, .int .u64 q6, .int .u64 q8, .int .u64 qa, .int .u64 0, .bool false]) ?_ 5 _ rfl; refine blk_put (cs := #[.bool q7, .int .i64 q5, .int .u64 q6, .int .u64 q8, .int .u64 0, .int .u64 0, .bool false]) ?_ 4 _ rfl; refine blk_put (cs := #[.bool q7, .int .i64 q5, .int .u64 q6, .int .u64 0, .int .u64 0, .int .u64 0, .bool false]) ?_ 3 _ rfl; refine blk_put (cs := #[.bool q7, .int .i64 q5, .int .u64 0, .int .u64 0, .int .u64 0, .int .u64 0, .bool false]) ?_ 2 _ rfl; refine blk_put (cs := #[.bool q7, .int .i64 0, .int .u64 0, .int .u64 0, .int .u64 0, .int .u64 0, .bool false]) ?_ 1 _ rfl; refine blk_put (cs := #[.bool false, .int .i64 0, .int .u64 0, .int .u64 0, .int .u64 0, .int .u64 0, .bool false]) ?_ 0 _ rfl; (with_reducible repeat (first | refine blk_drewN ?_ _ | refine blk_drew ?_ | refine blk_alloc ?_ _)); exact q2.out) hb); replace HB := Aside0.mk (below_step (kHt HB qc qh) hb); (try clear hb); (try clear hb2); (try clear hk); (try clear hi)))
 go_ret2
 exact ⟨by first | rfl | (simp [errW_none, errW_some] <;> rfl) | (simp [*, errW_none, errW_some] <;> rfl), kHt HB qc qh⟩
end Go.Proofs.Ytfnkmedajchbgaa.X
end
section
namespace Go.Proofs.Ytfnkmedajchbgaa
set_option linter.unusedVariables false
set_option linter.unusedSimpArgs false
open Go.RowKit X
theorem nil_all {r : Nat} (h : r < T256) : (l0 r == 0 && (l1 r == 0 && (l2 r == 0 && l3 r == 0))) = decide (r = 0) := by
  have := l_eq_zero h
  rw [Bool.eq_iff_iff]
  simp only [Bool.and_eq_true, beq_iff_eq, decide_eq_true_eq]
  rw [← this]
theorem tQ_zero (mi : Bool) (x n m : Int) : tQ mi x 0 n m = 0 := by
  unfold tQ tU cutH cutR
  split
  · rw [Nat.zero_mul]
  · next h =>
    simp [upB_no]
theorem odd_zero (x n : Int) : rOdd 0 x n = false := by
  unfold rOdd cutH cutR
  split
  · rfl
  · rw [Nat.zero_div, Nat.zero_mod]; rfl
theorem tQ_neg {mi : Bool} {x n m : Int} {s : Nat} (h : x < n) : tQ mi x s n m = cutQ s x n + if upB m mi (decide (cutQ s x n % 2 = 1)) (cutH s x n) (cutR s x n) = true then 1 else 0 := by
  have hn : ¬ n ≤ x := by omega
  unfold tQ tU cutQ
  rw [if_neg hn, if_neg hn]
theorem whole_pos (k : Nat) (mi : Bool) (x : Int) (a b c d m : Int) (h : 0 ≤ x) : rnd_Whole.f (k + 1) mi x a b c d false m = some (mi, x, a, b, c, d, false, false) := by
  unfold rnd_Whole.f
  by_cases g : x > 0
  · rw [if_pos g]
    simp only [rnd_Whole.j0]
    rw [if_pos trivial]
  · rw [if_neg g, if_pos (by omega)]
    simp only [rnd_Whole.j0]
    rw [if_pos (by rfl)]
theorem whole_j3 (k : Nat) (mi : Bool) {x : Int} {s : Nat} (m : Int) (hs : s < 2 ^ 254) (h0 : -131072 ≤ x) (h1 : x < 0) :
    rnd_Whole.j3 (k + 1) m false mi x (l0 s) (l1 s) (l2 s) (l3 s) false = some (mi, 0, l0 (tQ mi x s 0 m), l1 (tQ mi x s 0 m), l2 (tQ mi x s 0 m), l3 (tQ mi x s 0 m), false, rOdd s x 0) := by
  have hT : s < T256 := by rw [T256_eq]; exact Nat.lt_trans hs (by decide)
  have hq := cutQ_lt s x 0 hT
  have hq2 : cutQ s x 0 < 2 ^ 254 := by
    unfold cutQ
    rw [if_neg (by omega)]
    exact Nat.lt_of_le_of_lt (Nat.div_le_self _ _) hs
  have eC := rnd_Num_cut.eq hT mi x false 0 rfl (by omega) (by omega) (by omega) (by omega)
  have hsm : cutQ s x 0 + Int.toNat 1 < T256 := by
    rw [T256_eq, show Int.toNat 1 = 1 from rfl]
    have : (2 : Nat) ^ 254 < 2 ^ 256 := by decide
    omega
  have eA := wide_Add.eq hq (show Int.toNat 1 < T256 by decide)
  rw [Nat.mod_eq_of_lt hsm, decide_eq_false (by omega)] at eA
  have eO := wide_Of.eq 1 (by decide)
  rw [tQ_neg h1]
  have hodd : rOdd s x 0 = (cutH s x 0 || cutR s x 0) := rfl
  simp only [rnd_Whole.j3]
  rw [if_neg (by decide), eC]
  simp only [Option.bind_some]
  rw [low_bit]
  unfold rnd_up.f
  simp only [Option.bind_some]
  cases hu : upB m mi (decide (cutQ s x 0 % 2 = 1)) (cutH s x 0) (cutR s x 0)
  · simp only [Bool.false_eq_true, if_false, Nat.add_zero, hodd]
    cases cutH s x 0 <;> simp
  · simp only [if_true]
    rw [eO]
    simp only [Option.bind_some]
    rw [eA]
    simp only [Option.bind_some, Bool.false_eq_true, if_false, hodd]
    rw [show Int.toNat 1 = 1 from rfl]
    cases cutH s x 0 <;> simp
theorem whole_neg (k : Nat) (mi : Bool) {x : Int} {s : Nat} (m : Int) (hs : s < 2 ^ 254) (h0 : -131072 ≤ x) (h1 : x < 0) :
    rnd_Whole.f (k + 4) mi x (l0 s) (l1 s) (l2 s) (l3 s) false m = some (mi, 0, l0 (tQ mi x s 0 m), l1 (tQ mi x s 0 m), l2 (tQ mi x s 0 m), l3 (tQ mi x s 0 m), false, rOdd s x 0) := by
  have hT : s < T256 := by rw [T256_eq]; exact Nat.lt_trans hs (by decide)
  have eN := rnd_Num_near.eq hT mi x false h0 (by omega)
  have eE := rnd_Num_exact.eq hT mi x false hs h0 (by omega)
  unfold rnd_Whole.f
  rw [if_neg (by omega), if_neg (by omega)]
  simp only [rnd_Whole.j0]
  rw [if_neg (by decide), eN]
  simp only [Option.bind_some]
  rw [if_pos h1]
  simp only [rnd_Whole.j1]
  rw [if_pos trivial, eE, if_neg (by decide)]
  simp only [Option.bind_some]
  simp only [rnd_Whole.j2]
  rw [nil_all hT]
  by_cases z : s = 0
  · rw [decide_eq_true z, if_pos rfl]
    simp only [rnd_Whole.j3]
    rw [if_pos (by rfl)]
    subst z
    rw [tQ_zero, odd_zero]
    rfl
  · rw [decide_eq_false z, if_neg (by decide)]
    exact whole_j3 k mi m hs h0 h1
end Go.Proofs.Ytfnkmedajchbgaa
end
