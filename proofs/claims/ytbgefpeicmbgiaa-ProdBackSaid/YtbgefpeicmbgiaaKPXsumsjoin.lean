import Derived.Test.YtbgefpeicmbgiaaKP4
import Derived.Test.YtbgefpeicmbgiaaKPXsumsaligned
import Derived.Test.YtbgefpeicmbgiaaKPXsumsbeside
namespace Go.Proofs.Ytbgefpeicmbgiaa.X
open Go.RowKit Go.Proofs.YtbgefpeicmbgiaaW.PrintWords Go.Proofs.YtbgefpeicmbgiaaW.PrintLast Go.Proofs.YtbgefpeicmbgiaaW.PrintMore
attribute [local go_sem] max2_int min2_int max_two min_two max_three min_three max_four min_four   
set_option linter.unusedVariables false
set_option linter.unusedSimpArgs false
attribute [local go_sem high] eqA58
mutual
def sums_join.j0 : Nat → Int → Bool → Bool → Int → Int → Int → Int → Int → Bool → Bool → Int → Int → Int → Int → Int → Bool → Int → Int → Int → Int → Option (Bool × Int × Int × Int × Int × Int × Bool)
 | 0, _, _, _, _, _, _, _, _, _, _, _, _, _, _, _, _, _, _, _, _ => none
 | k + 1, x2, x8, q0c, q01, q02, q03, q04, q05, q0j, q0d, q06, q0e, q0f, q0g, q0h, q0k, q1b, q1c, q1d, q1e => if x8 = true then ((sums_nought.f q0c q0d x2).bind fun qf => (some (qf.1, qf.2.1, qf.2.2.1, qf.2.2.2.1, qf.2.2.2.2.1, qf.2.2.2.2.2.1, qf.2.2.2.2.2.2))) else (if (q02 == q1b && (q03 == q1c && (q04 == q1d && (q05 == q1e)))) = true then (some (q0d, q06, q0e, q0f, q0g, q0h, q0k)) else (if (q0e == q1b && (q0f == q1c && (q0g == q1d && (q0h == q1e)))) = true then (some (q0c, q01, q02, q03, q04, q05, q0j)) else (if q01 < q06 then (sums_join.j1 k x2 q0d q06 q0e q0f q0g q0h q0k q0c q01 q02 q03 q04 q05 q0j) else (sums_join.j1 k x2 q0c q01 q02 q03 q04 q05 q0j q0d q06 q0e q0f q0g q0h q0k))))
def sums_join.j1 : Nat → Int → Bool → Int → Int → Int → Int → Int → Bool → Bool → Int → Int → Int → Int → Int → Bool → Option (Bool × Int × Int × Int × Int × Int × Bool)
 | 0, _, _, _, _, _, _, _, _, _, _, _, _, _, _, _ => none
 | k + 1, x2, q0c, q01, q02, q03, q04, q05, q0j, q0d, q06, q0e, q0f, q0g, q0h, q0k => (wide_Len.f q02 q03 q04 q05).bind fun q07 => (if (wrap64 ((wrap64 (q07 + q01)) - q06)) < 250 then ((sums_aligned.f q0c q01 q02 q03 q04 q05 q0j q0d q06 q0e q0f q0g q0h q0k x2).bind fun qg => (some (qg.1, qg.2.1, qg.2.2.1, qg.2.2.2.1, qg.2.2.2.2.1, qg.2.2.2.2.2.1, qg.2.2.2.2.2.2))) else ((sums_beside.f q0c q01 q02 q03 q04 q05 q0j q0d q06 q0e q0f q0g q0h q0k).bind fun qh => (some (qh.1, qh.2.1, qh.2.2.1, qh.2.2.2.1, qh.2.2.2.2.1, qh.2.2.2.2.2.1, qh.2.2.2.2.2.2))))
end
def sums_join.f (k : Nat) (a0_0 : Bool) (a0_1 : Int) (a0_2 : Int) (a0_3 : Int) (a0_4 : Int) (a0_5 : Int) (a0_6 : Bool) (a1_0 : Bool) (a1_1 : Int) (a1_2 : Int) (a1_3 : Int) (a1_4 : Int) (a1_5 : Int) (a1_6 : Bool) (a2 : Int) : Option (Bool × Int × Int × Int × Int × Int × Bool) := if (a0_2 == 0 && (a0_3 == 0 && (a0_4 == 0 && (a0_5 == 0)))) = true then (sums_join.j0 k a2 (a1_2 == 0 && (a1_3 == 0 && (a1_4 == 0 && (a1_5 == 0)))) a0_0 a0_1 a0_2 a0_3 a0_4 a0_5 a0_6 a1_0 a1_1 a1_2 a1_3 a1_4 a1_5 a1_6 0 0 0 0) else (sums_join.j0 k a2 false a0_0 a0_1 a0_2 a0_3 a0_4 a0_5 a0_6 a1_0 a1_1 a1_2 a1_3 a1_4 a1_5 a1_6 0 0 0 0)
theorem sums_join.mono_l : ∀ k, (∀ y0 y1 y2 y3 y4 y5 y6 y7 y8 y9 y10 y11 y12 y13 y14 y15 y16 y17 y18 y19, LeO (sums_join.j0 k y0 y1 y2 y3 y4 y5 y6 y7 y8 y9 y10 y11 y12 y13 y14 y15 y16 y17 y18 y19) (sums_join.j0 (k + 1) y0 y1 y2 y3 y4 y5 y6 y7 y8 y9 y10 y11 y12 y13 y14 y15 y16 y17 y18 y19)) ∧ (∀ y0 y1 y2 y3 y4 y5 y6 y7 y8 y9 y10 y11 y12 y13 y14, LeO (sums_join.j1 k y0 y1 y2 y3 y4 y5 y6 y7 y8 y9 y10 y11 y12 y13 y14) (sums_join.j1 (k + 1) y0 y1 y2 y3 y4 y5 y6 y7 y8 y9 y10 y11 y12 y13 y14))
 | 0 => ⟨fun _ _ _ _ _ _ _ _ _ _ _ _ _ _ _ _ _ _ _ _ r h => by simp [sums_join.j0] at h, fun _ _ _ _ _ _ _ _ _ _ _ _ _ _ _ r h => by simp [sums_join.j1] at h⟩
 | k + 1 => by
  obtain ⟨ih0, ih1⟩ := sums_join.mono_l k; refine ⟨?_, ?_⟩
  · intro y0 y1 y2 y3 y4 y5 y6 y7 y8 y9 y10 y11 y12 y13 y14 y15 y16 y17 y18 y19
    unfold sums_join.j0
    repeat' first
    | (with_reducible exact ih0 _ _ _ _ _ _ _ _ _ _ _ _ _ _ _ _ _ _ _ _)
    | (with_reducible exact ih1 _ _ _ _ _ _ _ _ _ _ _ _ _ _ _)
    | (with_reducible exact LeO.refl _)
    | (with_reducible exact LeO.none _)
    | (with_reducible refine LeO.ite ?_ ?_)
    | (with_reducible refine LeO.bind ?_ (fun _ => ?_))
    | exact ih0 _ _ _ _ _ _ _ _ _ _ _ _ _ _ _ _ _ _ _ _
    | exact ih1 _ _ _ _ _ _ _ _ _ _ _ _ _ _ _
    | exact LeO.none _
    | refine LeO.ite ?_ ?_
    | refine LeO.bind ?_ (fun _ => ?_)
  intro y0 y1 y2 y3 y4 y5 y6 y7 y8 y9 y10 y11 y12 y13 y14
  unfold sums_join.j1
  repeat' first
  | (with_reducible exact ih0 _ _ _ _ _ _ _ _ _ _ _ _ _ _ _ _ _ _ _ _)
  | (with_reducible exact ih1 _ _ _ _ _ _ _ _ _ _ _ _ _ _ _)
  | (with_reducible exact LeO.refl _)
  | (with_reducible exact LeO.none _)
  | (with_reducible refine LeO.ite ?_ ?_)
  | (with_reducible refine LeO.bind ?_ (fun _ => ?_))
  | exact ih0 _ _ _ _ _ _ _ _ _ _ _ _ _ _ _ _ _ _ _ _
  | exact ih1 _ _ _ _ _ _ _ _ _ _ _ _ _ _ _
  | exact LeO.none _
  | refine LeO.ite ?_ ?_
  | refine LeO.bind ?_ (fun _ => ?_)
theorem sums_join.mono : ∀ a0 a1 a2 a3 a4 a5 a6 a7 a8 a9 a10 a11 a12 a13 a14 k, LeO (sums_join.f k a0 a1 a2 a3 a4 a5 a6 a7 a8 a9 a10 a11 a12 a13 a14) (sums_join.f (k + 1) a0 a1 a2 a3 a4 a5 a6 a7 a8 a9 a10 a11 a12 a13 a14) := by
 intro a0 a1 a2 a3 a4 a5 a6 a7 a8 a9 a10 a11 a12 a13 a14 k; obtain ⟨ih0, ih1⟩ := sums_join.mono_l k
 unfold sums_join.f
 repeat' first
  | (with_reducible exact ih0 _ _ _ _ _ _ _ _ _ _ _ _ _ _ _ _ _ _ _ _)
  | (with_reducible exact ih1 _ _ _ _ _ _ _ _ _ _ _ _ _ _ _)
  | (with_reducible exact LeO.refl _)
  | (with_reducible exact LeO.none _)
  | (with_reducible refine LeO.ite ?_ ?_)
  | (with_reducible refine LeO.bind ?_ (fun _ => ?_))
  | exact ih0 _ _ _ _ _ _ _ _ _ _ _ _ _ _ _ _ _ _ _ _
  | exact ih1 _ _ _ _ _ _ _ _ _ _ _ _ _ _ _
  | exact LeO.none _
  | refine LeO.ite ?_ ?_
  | refine LeO.bind ?_ (fun _ => ?_)
def sums_join.T10 : Bool × List (List Nat × List Nat) := (true, [([], []), ([0], [0]), ([1], [1]), ([], []), ([3], [3]), ([2, 4], [2, 4]), ([], []), ([6], [6]), ([5, 7], [5, 7]), ([8], [8])])
def sums_join.B10 : List Nat := [0, 1, 3, 0, 8, 31, 0, 64, 255, 511]
theorem sums_join.tab10 : rtab .any (opsOf Try.f82 10) = sums_join.T10 := by kernel_rfl
theorem sums_join.bits10 : waitsOk sums_join.T10.2 sums_join.B10 = true := by kernel_rfl
set_option maxHeartbeats 8000000 in
set_option maxRecDepth 100000 in
theorem sums_join.calls (k : Nat) (a0_0 : Bool) (a0_1 : Int) (a0_2 : Int) (a0_3 : Int) (a0_4 : Int) (a0_5 : Int) (a0_6 : Bool) (a1_0 : Bool) (a1_1 : Int) (a1_2 : Int) (a1_3 : Int) (a1_4 : Int) (a1_5 : Int) (a1_6 : Bool) (a2 : Int) (r1 : Bool) (r2 : Int) (r3 : Int) (r4 : Int) (r5 : Int) (r6 : Int) (r7 : Bool) (w : World) (h : sums_join.f k a0_0 a0_1 a0_2 a0_3 a0_4 a0_5 a0_6 a1_0 a1_1 a1_2 a1_3 a1_4 a1_5 a1_6 a2 = some (r1, r2, r3, r4, r5, r6, r7)) :
 Calls Try.prog 82 #[.agg #[.bool a0_0, .int .i64 a0_1, .int .u64 a0_2, .int .u64 a0_3, .int .u64 a0_4, .int .u64 a0_5, .bool a0_6], .agg #[.bool a1_0, .int .i64 a1_1, .int .u64 a1_2, .int .u64 a1_3, .int .u64 a1_4, .int .u64 a1_5, .bool a1_6], .int .i64 a2] w fun e w' => e = .returned (.agg #[.bool r1, .int .i64 r2, .int .u64 r3, .int .u64 r4, .int .u64 r5, .int .u64 r6, .bool r7]) ∧ Below w.heap.size w w' := by
 have hu61 := Try.underlying61; have hu58 := Try.underlying58; have HB := Aside0.mk (Below.refl w.heap.size w); have H : (if (a0_2 == 0 && (a0_3 == 0 && (a0_4 == 0 && (a0_5 == 0)))) = true then (sums_join.j0 k a2 (a1_2 == 0 && (a1_3 == 0 && (a1_4 == 0 && (a1_5 == 0)))) a0_0 a0_1 a0_2 a0_3 a0_4 a0_5 a0_6 a1_0 a1_1 a1_2 a1_3 a1_4 a1_5 a1_6 0 0 0 0) else (sums_join.j0 k a2 false a0_0 a0_1 a0_2 a0_3 a0_4 a0_5 a0_6 a1_0 a1_1 a1_2 a1_3 a1_4 a1_5 a1_6 0 0 0 0)) = some (r1, r2, r3, r4, r5, r6, r7) := h; clear h; have HC4 := Aside0.mk H; clear H
 go_enter Try.func82, Try.ntmps82
 go_upto_region 2 with (first | ((with_reducible refine gate_dst (N := 3) rfl ?_); refine box_event ?hg (N := 3) ?hd (cs := #[.bool a0_0, .int .i64 a0_1, .int .u64 a0_2, .int .u64 a0_3, .int .u64 a0_4, .int .u64 a0_5, .bool a0_6]) (t := 61) ?hr ?_; (case hd => rfl); (case hg => rfl); (case hr => first | (go_simp; done) | (go_simp; rfl)); intro q4 hg w5 hbox hb; have q1 := Aside0.mk (hbox); have GW512 := Aside0.mk ((by rw [hg]; exact (below_size (kH HB)) : w.heap.size ≤ q4)); have q7 := Aside0.mk ((by rw [hg]; exact (below_size (kH HB)) : w.heap.size ≤ q4)); replace HB := Aside0.mk (below_step (kH HB) hb); clear hb hbox hg) | ((with_reducible refine gate_dst (N := 4) rfl ?_); refine box_event ?hg (N := 4) ?hd (cs := #[.bool a1_0, .int .i64 a1_1, .int .u64 a1_2, .int .u64 a1_3, .int .u64 a1_4, .int .u64 a1_5, .bool a1_6]) (t := 61) ?hr ?_; (case hd => rfl); (case hg => rfl); (case hr => first | (go_simp; done) | (go_simp; rfl)); intro q5 hg w6 hbox hb; have q2 := Aside0.mk (hbox); have GW513 := Aside0.mk ((by rw [hg]; exact (below_size (kHs HB q7)) : w.heap.size ≤ q5)); have q8 := Aside0.mk ((by rw [hg]; exact (below_size (kHs HB q7)) : w.heap.size ≤ q5)); replace HB := Aside0.mk (below_step (kHs HB q7) hb); have qt := Aside0.mk ((by rw [hg]; exact Nat.ne_of_lt (blk_lt (g := q4) (o := .cells #[.bool a0_0, .int .i64 a0_1, .int .u64 a0_2, .int .u64 a0_3, .int .u64 a0_4, .int .u64 a0_5, .bool a0_6] 61 (0, 0)) (kB q1)) : q4 ≠ q5)); have qu := Aside0.mk ((by rw [hg]; exact Nat.ne_of_gt (blk_lt (g := q4) (o := .cells #[.bool a0_0, .int .i64 a0_1, .int .u64 a0_2, .int .u64 a0_3, .int .u64 a0_4, .int .u64 a0_5, .bool a0_6] 61 (0, 0)) (kB q1)) : q5 ≠ q4)); replace q1 := Aside0.mk (blk_below (g := q4) (o := .cells #[.bool a0_0, .int .i64 a0_1, .int .u64 a0_2, .int .u64 a0_3, .int .u64 a0_4, .int .u64 a0_5, .bool a0_6] 61 (0, 0)) (kB q1) hb); clear hb hbox hg) | ((with_reducible refine gate_dst (N := 6) rfl ?_); refine box_event ?hg (N := 6) ?hd (cs := #[.bool false, .int .i64 0, .int .u64 0, .int .u64 0, .int .u64 0, .int .u64 0, .bool false]) (t := 61) ?hr ?_; (case hd => rfl); (case hg => rfl); (case hr => first | (go_simp; done) | (go_simp; rfl)); intro q3 hg w7 hbox hb; have q0 := Aside0.mk (hbox); have GW514 := Aside0.mk ((by rw [hg]; exact (below_size (kHt HB q7 q8)) : w.heap.size ≤ q3)); have qi := Aside0.mk ((by rw [hg]; exact (below_size (kHt HB q7 q8)) : w.heap.size ≤ q3)); replace HB := Aside0.mk (below_step (kHt HB q7 q8) hb); have qv := Aside0.mk ((by rw [hg]; exact Nat.ne_of_lt (blk_lt (g := q4) (o := .cells #[.bool a0_0, .int .i64 a0_1, .int .u64 a0_2, .int .u64 a0_3, .int .u64 a0_4, .int .u64 a0_5, .bool a0_6] 61 (0, 0)) (kB q1)) : q4 ≠ q3)); have qw := Aside0.mk ((by rw [hg]; exact Nat.ne_of_gt (blk_lt (g := q4) (o := .cells #[.bool a0_0, .int .i64 a0_1, .int .u64 a0_2, .int .u64 a0_3, .int .u64 a0_4, .int .u64 a0_5, .bool a0_6] 61 (0, 0)) (kB q1)) : q3 ≠ q4)); replace q1 := Aside0.mk (blk_below (g := q4) (o := .cells #[.bool a0_0, .int .i64 a0_1, .int .u64 a0_2, .int .u64 a0_3, .int .u64 a0_4, .int .u64 a0_5, .bool a0_6] 61 (0, 0)) (kB q1) hb); have q08 := Aside0.mk ((by rw [hg]; exact Nat.ne_of_lt (blk_lt (g := q5) (o := .cells #[.bool a1_0, .int .i64 a1_1, .int .u64 a1_2, .int .u64 a1_3, .int .u64 a1_4, .int .u64 a1_5, .bool a1_6] 61 (0, 0)) (kB q2)) : q5 ≠ q3)); have q09 := Aside0.mk ((by rw [hg]; exact Nat.ne_of_gt (blk_lt (g := q5) (o := .cells #[.bool a1_0, .int .i64 a1_1, .int .u64 a1_2, .int .u64 a1_3, .int .u64 a1_4, .int .u64 a1_5, .bool a1_6] 61 (0, 0)) (kB q2)) : q3 ≠ q5)); replace q2 := Aside0.mk (blk_below (g := q5) (o := .cells #[.bool a1_0, .int .i64 a1_1, .int .u64 a1_2, .int .u64 a1_3, .int .u64 a1_4, .int .u64 a1_5, .bool a1_6] 61 (0, 0)) (kB q2) hb); clear hb hbox hg) | ((with_reducible refine gate_dst (N := 7) rfl ?_); refine box_event ?hg (N := 7) ?hd (cs := #[.int .u64 0, .int .u64 0, .int .u64 0, .int .u64 0]) (t := 58) ?hr ?_; (case hd => rfl); (case hg => rfl); (case hr => first | (go_simp; done) | (go_simp; rfl)); intro qj hg w8 hbox hb; have q6 := Aside0.mk (hbox); have GW515 := Aside0.mk ((by rw [hg]; exact (below_size (by repeat (first | (with_reducible first | exact HB.out | apply below_alloc | apply pw_below_drewN | apply below_drew1 | refine below_set ?_ q7.out | refine below_set ?_ q8.out | refine below_set ?_ qi.out) | exact HB.out))) : w.heap.size ≤ qj)); have qs := Aside0.mk ((by rw [hg]; exact (below_size (by repeat (first | (with_reducible first | exact HB.out | apply below_alloc | apply pw_below_drewN | apply below_drew1 | refine below_set ?_ q7.out | refine below_set ?_ q8.out | refine below_set ?_ qi.out) | exact HB.out))) : w.heap.size ≤ qj)); replace HB := Aside0.mk (below_step (by repeat (first | (with_reducible first | exact HB.out | apply below_alloc | apply pw_below_drewN | apply below_drew1 | refine below_set ?_ q7.out | refine below_set ?_ q8.out | refine below_set ?_ qi.out) | exact HB.out)) hb); have qx := Aside0.mk ((by rw [hg]; exact Nat.ne_of_lt (blk_lt (g := q4) (o := .cells #[.bool a0_0, .int .i64 a0_1, .int .u64 a0_2, .int .u64 a0_3, .int .u64 a0_4, .int .u64 a0_5, .bool a0_6] 61 (0, 0)) (kB q1)) : q4 ≠ qj)); have qy := Aside0.mk ((by rw [hg]; exact Nat.ne_of_gt (blk_lt (g := q4) (o := .cells #[.bool a0_0, .int .i64 a0_1, .int .u64 a0_2, .int .u64 a0_3, .int .u64 a0_4, .int .u64 a0_5, .bool a0_6] 61 (0, 0)) (kB q1)) : qj ≠ q4)); replace q1 := Aside0.mk (blk_below (g := q4) (o := .cells #[.bool a0_0, .int .i64 a0_1, .int .u64 a0_2, .int .u64 a0_3, .int .u64 a0_4, .int .u64 a0_5, .bool a0_6] 61 (0, 0)) (kB q1) hb); have qz := Aside0.mk ((by rw [hg]; exact Nat.ne_of_lt (blk_lt (g := q5) (o := .cells #[.bool a1_0, .int .i64 a1_1, .int .u64 a1_2, .int .u64 a1_3, .int .u64 a1_4, .int .u64 a1_5, .bool a1_6] 61 (0, 0)) (kB q2)) : q5 ≠ qj)); have q00 := Aside0.mk ((by rw [hg]; exact Nat.ne_of_gt (blk_lt (g := q5) (o := .cells #[.bool a1_0, .int .i64 a1_1, .int .u64 a1_2, .int .u64 a1_3, .int .u64 a1_4, .int .u64 a1_5, .bool a1_6] 61 (0, 0)) (kB q2)) : qj ≠ q5)); replace q2 := Aside0.mk (blk_below (g := q5) (o := .cells #[.bool a1_0, .int .i64 a1_1, .int .u64 a1_2, .int .u64 a1_3, .int .u64 a1_4, .int .u64 a1_5, .bool a1_6] 61 (0, 0)) (kB q2) hb); have q0a := Aside0.mk ((by rw [hg]; exact Nat.ne_of_lt (blk_lt (g := q3) (o := .cells #[.bool false, .int .i64 0, .int .u64 0, .int .u64 0, .int .u64 0, .int .u64 0, .bool false] 61 (0, 0)) (kB q0)) : q3 ≠ qj)); have q0b := Aside0.mk ((by rw [hg]; exact Nat.ne_of_gt (blk_lt (g := q3) (o := .cells #[.bool false, .int .i64 0, .int .u64 0, .int .u64 0, .int .u64 0, .int .u64 0, .bool false] 61 (0, 0)) (kB q0)) : qj ≠ q3)); replace q0 := Aside0.mk (blk_below (g := q3) (o := .cells #[.bool false, .int .i64 0, .int .u64 0, .int .u64 0, .int .u64 0, .int .u64 0, .bool false] 61 (0, 0)) (kB q0) hb); clear hb hbox hg))
 (try simp only [Act.put, List.setIfInBounds_toArray, List.set_cons_zero, List.set_cons_succ])
 go_cut [8] (fun v8 wc => ∃ (kq : Nat) (q0m : Bool), v8 = .bool q0m ∧ Aside0 (sums_join.j0 kq a2 q0m a0_0 a0_1 a0_2 a0_3 a0_4 a0_5 a0_6 a1_0 a1_1 a1_2 a1_3 a1_4 a1_5 a1_6 0 0 0 0 = some (r1, r2, r3, r4, r5, r6, r7)) ∧ Aside0 (kq ≤ k) ∧ Aside0 (wc.heap[q4]? = some (.cells #[.bool a0_0, .int .i64 a0_1, .int .u64 a0_2, .int .u64 a0_3, .int .u64 a0_4, .int .u64 a0_5, .bool a0_6] 61 (0, 0))) ∧ Aside0 (wc.heap[q5]? = some (.cells #[.bool a1_0, .int .i64 a1_1, .int .u64 a1_2, .int .u64 a1_3, .int .u64 a1_4, .int .u64 a1_5, .bool a1_6] 61 (0, 0))) ∧ Aside0 (wc.heap[q3]? = some (.cells #[.bool false, .int .i64 0, .int .u64 0, .int .u64 0, .int .u64 0, .int .u64 0, .bool false] 61 (0, 0))) ∧ Aside0 (wc.heap[qj]? = some (.cells #[.int .u64 0, .int .u64 0, .int .u64 0, .int .u64 0] 58 (0, 0))) ∧ Aside0 (Below w.heap.size w wc))
 case first =>
  have H := HC4.out; clear HC4
  by_cases c9 : (a0_2 == 0 && (a0_3 == 0 && (a0_4 == 0 && (a0_5 == 0)))) = true
  · rw [if_pos c9] at H
    have q0i : (a0_2 == 0 && (a0_3 == 0 && (a0_4 == 0 && (a0_5 == 0)))) = true := c9
    (try (have q0n : decide (a0_2 = 0 && (a0_3 == 0 && (a0_4 == 0 && (a0_5 == 0)))) = true := by simpa using c9))
    (try (have q0o : (a0_2 == 0 && (a0_3 == 0 && (a0_4 == 0 && (a0_5 == 0)))) = true := by simpa using c9))
    clear c9
    (first | rw [q0i] | (simp only [i64_w, i32_w]; rw [q0i]) | skip)
    have H' := Aside0.mk H; clear H; have hnb10 := qt.out; have hnc10 := qu.out; have hnb11 := qv.out; have hnc11 := qw.out; have hnb12 := qx.out; have hnc12 := qy.out; obtain ⟨q1f, q1g, q1h, q1i, q1j, q1k, q1l, q1m, q1n, q1o, q1p, q1q, q1r, q1s⟩ := W7q q1; have hnb14 := q00.out; have hnc14 := qz.out; have hnb15 := q0b.out; have hnc15 := q0a.out; obtain ⟨q1t, q1u, q1v, q1w, q1x, q1y, q1z, q20⟩ := W4q q6; have hnb17 := q08.out; have hnc17 := q09.out; obtain ⟨q21, q22, q23, q24, q25, q26, q27, q28, q29, q2a, q2b, q2c, q2d, q2e⟩ := W7q q2
    go_wp2
    go_meet
    case rel => exact ⟨_, ((a1_2 == 0 && (a1_3 == 0 && (a1_4 == 0 && (a1_5 == 0))))), RSq, (by first | exact H' | (subst_vars; exact H')), ⟨by first | omega | exact Nat.le_refl _⟩, ⟨kB q1⟩, ⟨kB q2⟩, ⟨kB q0⟩, ⟨kB q6⟩, ⟨by repeat (first | (with_reducible first | exact HB.out | apply below_alloc | apply pw_below_drewN | apply below_drew1 | refine below_set ?_ q7.out | refine below_set ?_ q8.out | refine below_set ?_ qi.out | refine below_set ?_ qs.out) | exact HB.out)⟩⟩
  rw [if_neg c9] at H
  have q0i : (a0_2 == 0 && (a0_3 == 0 && (a0_4 == 0 && (a0_5 == 0)))) = false := by simpa using c9
  (try (have q0n : decide (a0_2 = 0 && (a0_3 == 0 && (a0_4 == 0 && (a0_5 == 0)))) = false := by simpa using c9))
  (try (have q0o : (a0_2 == 0 && (a0_3 == 0 && (a0_4 == 0 && (a0_5 == 0)))) = false := by simpa using c9))
  (try (have c9b3 : ¬ (a0_2 = 0 && (a0_3 == 0 && (a0_4 == 0 && (a0_5 == 0)))) := by simpa using c9))
  clear c9
  (first | rw [q0i] | (simp only [i64_w, i32_w]; rw [q0i]) | skip)
  have H' := Aside0.mk H; clear H; have hnb19 := qt.out; have hnc19 := qu.out; have hnb20 := qv.out; have hnc20 := qw.out; have hnb21 := qx.out; have hnc21 := qy.out; obtain ⟨q2f, q2g, q2h, q2i, q2j, q2k, q2l, q2m, q2n, q2o, q2p, q2q, q2r, q2s⟩ := W7q q1; have hnb23 := q00.out; have hnc23 := qz.out; have hnb24 := q0b.out; have hnc24 := q0a.out; obtain ⟨q2t, q2u, q2v, q2w, q2x, q2y, q2z, q30⟩ := W4q q6
  go_wp2
  go_meet
  case rel => exact ⟨_, (false), RSq, (by first | exact H' | (subst_vars; exact H')), ⟨by first | omega | exact Nat.le_refl _⟩, ⟨kB q1⟩, ⟨kB q2⟩, ⟨kB q0⟩, ⟨kB q6⟩, ⟨by repeat (first | (with_reducible first | exact HB.out | apply below_alloc | apply pw_below_drewN | apply below_drew1 | refine below_set ?_ q7.out | refine below_set ?_ q8.out | refine below_set ?_ qi.out | refine below_set ?_ qs.out) | exact HB.out)⟩⟩
 case rest =>
  clear HC4; (try clear c1); (try clear c2); (try clear p2); (try clear p6); (try clear c8); (try clear c9); (try clear q0i); (try clear q0n); (try clear q0o); (try clear c10); (try clear c11); (try clear c12); (try clear c14); (try clear c15); (try clear c17); (try clear c19); (try clear c20); (try clear c21); (try clear c23); (try clear c24); (try clear q1f q1g q1h q1i q1j q1k q1l); (try clear q1t q1u q1v q1w); (try clear q21 q22 q23 q24 q25 q26 q27); (try clear q2f q2g q2h q2i q2j q2k q2l); (try clear q2t q2u q2v q2w); (try clear q1m q1n q1o q1p q1q q1r q1s); (try clear q1x q1y q1z q20); (try clear q28 q29 q2a q2b q2c q2d q2e); (try clear q2m q2n q2o q2p q2q q2r q2s); (try clear q2x q2y q2z q30); obtain ⟨kq, q0m, rfl, HA, HJ3, q1, q2, q0, q6, HB⟩ := hcut
  cases kq with
  | zero => exact absurd HA.out (by simp [sums_join.j0])
  | succ kj3 =>
   have H := HA.out; clear HA
   simp only [sums_join.j0] at H
   by_cases c26 : q0m = true
   · subst c26
     have H1 : ((sums_nought.f a0_0 a1_0 a2).bind fun qf => (some (qf.1, qf.2.1, qf.2.2.1, qf.2.2.2.1, qf.2.2.2.2.1, qf.2.2.2.2.2.1, qf.2.2.2.2.2.2))) = some (r1, r2, r3, r4, r5, r6, r7) := by rw [if_pos rfl] at H; exact H
     clear H; have H := H1; clear H1; replace H := Option.bind_eq_some_iff.mp H; obtain ⟨⟨q0p, q0q, q0r, q0s, q0t, q0u, q0v⟩, q31, H⟩ := H; replace H : (some (q0p, q0q, q0r, q0s, q0t, q0u, q0v)) = some (r1, r2, r3, r4, r5, r6, r7) := H; have A27 := Aside0.mk q31; clear q31
     simp only [Option.some.injEq, Prod.mk.injEq] at H
     obtain ⟨rfl, rfl, rfl, rfl, rfl, rfl, rfl⟩ := H; have hnb28 := qt.out; have hnc28 := qu.out; have hnb29 := qv.out; have hnc29 := qw.out; have hnb30 := qx.out; have hnc30 := qy.out; obtain ⟨q3b, q3c, q3d, q3e, q3f, q3g, q3h, q3i, q3j, q3k, q3l, q3m, q3n, q3o⟩ := W7q q1; have hnb32 := q08.out; have hnc32 := q09.out; have hnb33 := qz.out; have hnc33 := q00.out; obtain ⟨q3p, q3q, q3r, q3s, q3t, q3u, q3v, q3w, q3x, q3y, q3z, q40, q41, q42⟩ := W7q q2
     go_wp2_with (first | ((with_reducible refine gate_callee (f := 94) rfl ?_); refine goesL_ (some 24) rfl rfl Try.func94 (by kernel_rfl) rfl #[.bool a0_0, .bool a1_0, .int .i64 a2] rfl LMq ?_; (with_reducible refine (sums_nought.calls a0_0 a1_0 a2 q0p q0q q0r q0s q0t q0u q0v _ A27.out).mono ?_); rintro e w35 ⟨rfl, hb⟩; refine ⟨_, rfl, ?_⟩; replace q1 := Aside0.mk (blk_below (g := q4) (o := .cells #[.bool a0_0, .int .i64 a0_1, .int .u64 a0_2, .int .u64 a0_3, .int .u64 a0_4, .int .u64 a0_5, .bool a0_6] 61 (0, 0)) (kB q1) hb); replace q2 := Aside0.mk (blk_below (g := q5) (o := .cells #[.bool a1_0, .int .i64 a1_1, .int .u64 a1_2, .int .u64 a1_3, .int .u64 a1_4, .int .u64 a1_5, .bool a1_6] 61 (0, 0)) (kB q2) hb); replace q0 := Aside0.mk (blk_below (g := q3) (o := .cells #[.bool false, .int .i64 0, .int .u64 0, .int .u64 0, .int .u64 0, .int .u64 0, .bool false] 61 (0, 0)) (kB q0) hb); replace q6 := Aside0.mk (blk_below (g := qj) (o := .cells #[.int .u64 0, .int .u64 0, .int .u64 0, .int .u64 0] 58 (0, 0)) (kB q6) hb); replace HB := Aside0.mk (below_step (by repeat (first | (with_reducible first | exact HB.out | apply below_alloc | apply pw_below_drewN | apply below_drew1 | refine below_set ?_ q7.out | refine below_set ?_ q8.out | refine below_set ?_ qi.out | refine below_set ?_ qs.out) | exact HB.out)) hb); (try clear hb); (try clear hb2); (try clear hk); (try clear hi); have hnb36 := q0a.out; have hnc36 := q0b.out; have q43 : w35.cell? ⟨q3, 0, none⟩ = some (.bool false) := bc q0 0; have q44 : w35.cell? ⟨q3, 1, none⟩ = some (.int .i64 0) := bc q0 1; have q45 : w35.cell? ⟨q3, 2, none⟩ = some (.int .u64 0) := bc q0 2; have q46 : w35.cell? ⟨q3, 3, none⟩ = some (.int .u64 0) := bc q0 3; have q47 : w35.cell? ⟨q3, 4, none⟩ = some (.int .u64 0) := bc q0 4; have q48 : w35.cell? ⟨q3, 5, none⟩ = some (.int .u64 0) := bc q0 5; have q49 : w35.cell? ⟨q3, 6, none⟩ = some (.bool false) := bc q0 6; have q4a := blk_frozen q0.out 0; have q4b := blk_frozen q0.out 1; have q4c := blk_frozen q0.out 2; have q4d := blk_frozen q0.out 3; have q4e := blk_frozen q0.out 4; have q4f := blk_frozen q0.out 5; have q4g := blk_frozen q0.out 6))
     refine bodyPost_ret (results_cell_row rfl _ _ q3 61 #[.bool q0p, .int .i64 q0q, .int .u64 q0r, .int .u64 q0s, .int .u64 q0t, .int .u64 q0u, .bool q0v] (0, 0) _ rfl (kF q0) Try.underlying61 rfl (by kernel_rfl)) rfl ?_; exact ⟨by first | rfl | (simp [errW_none, errW_some] <;> rfl) | (simp [*, errW_none, errW_some] <;> rfl), by repeat (first | (with_reducible first | exact HB.out | apply below_alloc | apply pw_below_drewN | apply below_drew1 | refine below_set ?_ q7.out | refine below_set ?_ q8.out | refine below_set ?_ qi.out | refine below_set ?_ qs.out) | exact HB.out)⟩
   replace c26 := Bool.eq_false_iff.mpr c26; subst c26
   have H1 : (if (a0_2 == 0 && (a0_3 == 0 && (a0_4 == 0 && (a0_5 == 0)))) = true then (some (a1_0, a1_1, a1_2, a1_3, a1_4, a1_5, a1_6)) else (if (a1_2 == 0 && (a1_3 == 0 && (a1_4 == 0 && (a1_5 == 0)))) = true then (some (a0_0, a0_1, a0_2, a0_3, a0_4, a0_5, a0_6)) else (if a0_1 < a1_1 then (sums_join.j1 kj3 a2 a1_0 a1_1 a1_2 a1_3 a1_4 a1_5 a1_6 a0_0 a0_1 a0_2 a0_3 a0_4 a0_5 a0_6) else (sums_join.j1 kj3 a2 a0_0 a0_1 a0_2 a0_3 a0_4 a0_5 a0_6 a1_0 a1_1 a1_2 a1_3 a1_4 a1_5 a1_6)))) = some (r1, r2, r3, r4, r5, r6, r7) := by rw [if_neg (show ¬ (false = true) by decide)] at H; exact H
   clear H; have H := H1; clear H1
   by_cases c38 : (a0_2 == 0 && (a0_3 == 0 && (a0_4 == 0 && (a0_5 == 0)))) = true
   · rw [if_pos c38] at H
     have q32 : (a0_2 == 0 && (a0_3 == 0 && (a0_4 == 0 && (a0_5 == 0)))) = true := c38
     (try (have q33 : decide (a0_2 = 0 && (a0_3 == 0 && (a0_4 == 0 && (a0_5 == 0)))) = true := by simpa using c38))
     (try (have q34 : (a0_2 == 0 && (a0_3 == 0 && (a0_4 == 0 && (a0_5 == 0)))) = true := by simpa using c38))
     clear c38
     simp only [Option.some.injEq, Prod.mk.injEq] at H
     obtain ⟨rfl, rfl, rfl, rfl, rfl, rfl, rfl⟩ := H; have hnb39 := qt.out; have hnc39 := qu.out; have hnb40 := qv.out; have hnc40 := qw.out; have hnb41 := qx.out; have hnc41 := qy.out; obtain ⟨q4h, q4i, q4j, q4k, q4l, q4m, q4n, q4o, q4p, q4q, q4r, q4s, q4t, q4u⟩ := W7q q1; have hnb43 := q00.out; have hnc43 := qz.out; have hnb44 := q0b.out; have hnc44 := q0a.out; obtain ⟨q4v, q4w, q4x, q4y, q4z, q50, q51, q52⟩ := W4q q6; have hnb46 := q08.out; have hnc46 := q09.out; obtain ⟨q53, q54, q55, q56, q57, q58, q59, q5a, q5b, q5c, q5d, q5e, q5f, q5g⟩ := W7q q2; obtain ⟨q5h, q5i, q5j, q5k, q5l, q5m, q5n, q5o, q5p, q5q, q5r, q5s, q5t, q5u⟩ := W7q q0
     go_wp2
     refine bodyPost_ret (results_cell_row rfl _ _ q3 61 #[.bool a1_0, .int .i64 a1_1, .int .u64 a1_2, .int .u64 a1_3, .int .u64 a1_4, .int .u64 a1_5, .bool a1_6] (0, 0) _ rfl (kF q0) Try.underlying61 rfl (by kernel_rfl)) rfl ?_; exact ⟨by first | rfl | (simp [errW_none, errW_some] <;> rfl) | (simp [*, errW_none, errW_some] <;> rfl), by repeat (first | (with_reducible first | exact HB.out | apply below_alloc | apply pw_below_drewN | apply below_drew1 | refine below_set ?_ q7.out | refine below_set ?_ q8.out | refine below_set ?_ qi.out | refine below_set ?_ qs.out) | exact HB.out)⟩
   rw [if_neg c38] at H
   have q32 : (a0_2 == 0 && (a0_3 == 0 && (a0_4 == 0 && (a0_5 == 0)))) = false := by simpa using c38
   (try (have q33 : decide (a0_2 = 0 && (a0_3 == 0 && (a0_4 == 0 && (a0_5 == 0)))) = false := by simpa using c38))
   (try (have q34 : (a0_2 == 0 && (a0_3 == 0 && (a0_4 == 0 && (a0_5 == 0)))) = false := by simpa using c38))
   (try (have c38b3 : ¬ (a0_2 = 0 && (a0_3 == 0 && (a0_4 == 0 && (a0_5 == 0)))) := by simpa using c38))
   clear c38
   by_cases c49 : (a1_2 == 0 && (a1_3 == 0 && (a1_4 == 0 && (a1_5 == 0)))) = true
   · rw [if_pos c49] at H
     have q35 : (a1_2 == 0 && (a1_3 == 0 && (a1_4 == 0 && (a1_5 == 0)))) = true := c49
     (try (have q36 : decide (a1_2 = 0 && (a1_3 == 0 && (a1_4 == 0 && (a1_5 == 0)))) = true := by simpa using c49))
     (try (have q37 : (a1_2 == 0 && (a1_3 == 0 && (a1_4 == 0 && (a1_5 == 0)))) = true := by simpa using c49))
     clear c49
     simp only [Option.some.injEq, Prod.mk.injEq] at H
     obtain ⟨rfl, rfl, rfl, rfl, rfl, rfl, rfl⟩ := H; have hnb50 := qt.out; have hnc50 := qu.out; have hnb51 := qv.out; have hnc51 := qw.out; have hnb52 := qx.out; have hnc52 := qy.out; obtain ⟨q5v, q5w, q5x, q5y, q5z, q60, q61, q62, q63, q64, q65, q66, q67, q68⟩ := W7q q1; have hnb54 := q00.out; have hnc54 := qz.out; have hnb55 := q0b.out; have hnc55 := q0a.out; obtain ⟨q69, q6a, q6b, q6c, q6d, q6e, q6f, q6g⟩ := W4q q6; have hnb57 := q08.out; have hnc57 := q09.out; obtain ⟨q6h, q6i, q6j, q6k, q6l, q6m, q6n, q6o, q6p, q6q, q6r, q6s, q6t, q6u⟩ := W7q q2; obtain ⟨q6v, q6w, q6x, q6y, q6z, q70, q71, q72, q73, q74, q75, q76, q77, q78⟩ := W7q q0
     go_wp2
     refine bodyPost_ret (results_cell_row rfl _ _ q3 61 #[.bool a0_0, .int .i64 a0_1, .int .u64 a0_2, .int .u64 a0_3, .int .u64 a0_4, .int .u64 a0_5, .bool a0_6] (0, 0) _ rfl (kF q0) Try.underlying61 rfl (by kernel_rfl)) rfl ?_; exact ⟨by first | rfl | (simp [errW_none, errW_some] <;> rfl) | (simp [*, errW_none, errW_some] <;> rfl), by repeat (first | (with_reducible first | exact HB.out | apply below_alloc | apply pw_below_drewN | apply below_drew1 | refine below_set ?_ q7.out | refine below_set ?_ q8.out | refine below_set ?_ qi.out | refine below_set ?_ qs.out) | exact HB.out)⟩
   rw [if_neg c49] at H
   have q35 : (a1_2 == 0 && (a1_3 == 0 && (a1_4 == 0 && (a1_5 == 0)))) = false := by simpa using c49
   (try (have q36 : decide (a1_2 = 0 && (a1_3 == 0 && (a1_4 == 0 && (a1_5 == 0)))) = false := by simpa using c49))
   (try (have q37 : (a1_2 == 0 && (a1_3 == 0 && (a1_4 == 0 && (a1_5 == 0)))) = false := by simpa using c49))
   (try (have c49b3 : ¬ (a1_2 = 0 && (a1_3 == 0 && (a1_4 == 0 && (a1_5 == 0)))) := by simpa using c49))
   clear c49; have q0w := Aside0.mk H; clear H; have hnb61 := qt.out; have hnc61 := qu.out; have hnb62 := qv.out; have hnc62 := qw.out; have hnb63 := qx.out; have hnc63 := qy.out; obtain ⟨q79, q7a, q7b, q7c, q7d, q7e, q7f, q7g, q7h, q7i, q7j, q7k, q7l, q7m⟩ := W7q q1; have hnb65 := q00.out; have hnc65 := qz.out; have hnb66 := q0b.out; have hnc66 := q0a.out; obtain ⟨q7n, q7o, q7p, q7q, q7r, q7s, q7t, q7u⟩ := W4q q6; have hnb68 := q08.out; have hnc68 := q09.out; obtain ⟨q7v, q7w, q7x, q7y, q7z, q80, q81, q82, q83, q84, q85, q86, q87, q88⟩ := W7q q2
   go_upto_if 41 with (fail)
   go_cut [] (fun wc => ∃ (kq : Nat) (qk : Bool) (q9 : Int) (qa : Int) (qb : Int) (qc : Int) (qd : Int) (ql : Bool) (qm : Bool) (qe : Int) (qn : Int) (qo : Int) (qp : Int) (qq : Int) (qr : Bool), Aside0 (sums_join.j1 kq a2 qk q9 qa qb qc qd ql qm qe qn qo qp qq qr = some (r1, r2, r3, r4, r5, r6, r7)) ∧ Aside0 (kq ≤ kj3) ∧ Aside0 (wc.heap[q4]? = some (.cells #[.bool qk, .int .i64 q9, .int .u64 qa, .int .u64 qb, .int .u64 qc, .int .u64 qd, .bool ql] 61 (0, 0))) ∧ Aside0 (wc.heap[q5]? = some (.cells #[.bool qm, .int .i64 qe, .int .u64 qn, .int .u64 qo, .int .u64 qp, .int .u64 qq, .bool qr] 61 (0, 0))) ∧ Aside0 (wc.heap[q3]? = some (.cells #[.bool false, .int .i64 0, .int .u64 0, .int .u64 0, .int .u64 0, .int .u64 0, .bool false] 61 (0, 0))) ∧ Aside0 (wc.heap[qj]? = some (.cells #[.int .u64 0, .int .u64 0, .int .u64 0, .int .u64 0] 58 (0, 0))) ∧ Aside0 (Below w.heap.size w wc))
   case first =>
    have H := q0w.out; clear q0w
    by_cases c70 : a0_1 < a1_1
    · rw [if_pos c70] at H
      have q0l : decide (a0_1 < a1_1) = true := decide_eq_true c70; clear c70
      (first | rw [q0l] | (simp only [i64_w, i32_w]; rw [q0l]) | skip)
      have H' := Aside0.mk H; clear H; have hnb71 := qu.out; have hnc71 := qt.out; have hnb72 := q08.out; have hnc72 := q09.out; have hnb73 := qz.out; have hnc73 := q00.out; obtain ⟨q89, q8a, q8b, q8c, q8d, q8e, q8f, q8g, q8h, q8i, q8j, q8k, q8l, q8m⟩ := W7q q2; have hnb75 := qv.out; have hnc75 := qw.out; have hnb76 := qx.out; have hnc76 := qy.out; obtain ⟨q8n, q8o, q8p, q8q, q8r, q8s, q8t, q8u, q8v, q8w, q8x, q8y, q8z, q90⟩ := W7q q1
      go_wp2
      go_meet
      case rel => exact ⟨_, (a1_0), (a1_1), (a1_2), (a1_3), (a1_4), (a1_5), (a1_6), (a0_0), (a0_1), (a0_2), (a0_3), (a0_4), (a0_5), (a0_6), (by first | exact H' | (subst_vars; exact H')), ⟨by have := HJ3.out; first | omega | exact Nat.le_refl _⟩, ⟨kF q1⟩, ⟨kF q2⟩, ⟨kF q0⟩, ⟨kF q6⟩, ⟨by repeat (first | (with_reducible first | exact HB.out | apply below_alloc | apply pw_below_drewN | apply below_drew1 | refine below_set ?_ q7.out | refine below_set ?_ q8.out | refine below_set ?_ qi.out | refine below_set ?_ qs.out) | exact HB.out)⟩⟩
    rw [if_neg c70] at H
    have q0l : decide (a0_1 < a1_1) = false := decide_eq_false c70; clear c70
    (first | rw [q0l] | (simp only [i64_w, i32_w]; rw [q0l]) | skip)
    have H' := Aside0.mk H; clear H
    go_wp2
    go_meet
    case rel => exact ⟨_, (a0_0), (a0_1), (a0_2), (a0_3), (a0_4), (a0_5), (a0_6), (a1_0), (a1_1), (a1_2), (a1_3), (a1_4), (a1_5), (a1_6), (by first | exact H' | (subst_vars; exact H')), ⟨by have := HJ3.out; first | omega | exact Nat.le_refl _⟩, ⟨kB q1⟩, ⟨kB q2⟩, ⟨kB q0⟩, ⟨kB q6⟩, ⟨by repeat (first | (with_reducible first | exact HB.out | apply below_alloc | apply pw_below_drewN | apply below_drew1 | refine below_set ?_ q7.out | refine below_set ?_ q8.out | refine below_set ?_ qi.out | refine below_set ?_ qs.out) | exact HB.out)⟩⟩
   case rest =>
    clear q0w; (try clear c1); (try clear c2); (try clear p2); (try clear c3); (try clear c4); (try clear c5); (try clear c6); (try clear p6); (try clear c7); (try clear c8); (try clear c9); (try clear q0i); (try clear q0n); (try clear q0o); (try clear c10); (try clear c11); (try clear c12); (try clear c14); (try clear c15); (try clear c17); (try clear c19); (try clear c20); (try clear c21); (try clear c23); (try clear c24); (try clear c26); (try clear c28); (try clear c29); (try clear c30); (try clear c32); (try clear c33); (try clear c36); (try clear c38); (try clear q32); (try clear q33); (try clear q34); (try clear c39); (try clear c40); (try clear c41); (try clear c43); (try clear c44); (try clear c46); (try clear c49); (try clear q35); (try clear q36); (try clear q37); (try clear c50); (try clear c51); (try clear c52); (try clear c54); (try clear c55); (try clear c57); (try clear c61); (try clear c62); (try clear c63); (try clear p64); (try clear c65); (try clear c66); (try clear c68); (try clear c70); (try clear q0l); (try clear c71); (try clear c72); (try clear c73); (try clear c75); (try clear c76); (try clear q1f q1g q1h q1i q1j q1k q1l); (try clear q1t q1u q1v q1w); (try clear q21 q22 q23 q24 q25 q26 q27); (try clear q2f q2g q2h q2i q2j q2k q2l); (try clear q2t q2u q2v q2w); (try clear q3b q3c q3d q3e q3f q3g q3h); (try clear q3p q3q q3r q3s q3t q3u q3v); (try clear q43 q44 q45 q46 q47 q48 q49); (try clear q4h q4i q4j q4k q4l q4m q4n); (try clear q4v q4w q4x q4y); (try clear q53 q54 q55 q56 q57 q58 q59); (try clear q5h q5i q5j q5k q5l q5m q5n); (try clear q5v q5w q5x q5y q5z q60 q61); (try clear q69 q6a q6b q6c); (try clear q6h q6i q6j q6k q6l q6m q6n); (try clear q6v q6w q6x q6y q6z q70 q71); (try clear q79 q7a q7b q7c q7d q7e q7f); (try clear q7n q7o q7p q7q); (try clear q7v q7w q7x q7y q7z q80 q81); (try clear q89 q8a q8b q8c q8d q8e q8f); (try clear q8n q8o q8p q8q q8r q8s q8t); (try clear q1m q1n q1o q1p q1q q1r q1s); (try clear q1x q1y q1z q20); (try clear q28 q29 q2a q2b q2c q2d q2e); (try clear q2m q2n q2o q2p q2q q2r q2s); (try clear q2x q2y q2z q30); (try clear q3i q3j q3k q3l q3m q3n q3o); (try clear q3w q3x q3y q3z q40 q41 q42); (try clear q4a q4b q4c q4d q4e q4f q4g); (try clear q4o q4p q4q q4r q4s q4t q4u); (try clear q4z q50 q51 q52); (try clear q5a q5b q5c q5d q5e q5f q5g); (try clear q5o q5p q5q q5r q5s q5t q5u); (try clear q62 q63 q64 q65 q66 q67 q68); (try clear q6d q6e q6f q6g); (try clear q6o q6p q6q q6r q6s q6t q6u); (try clear q72 q73 q74 q75 q76 q77 q78); (try clear q7g q7h q7i q7j q7k q7l q7m); (try clear q7r q7s q7t q7u); (try clear q82 q83 q84 q85 q86 q87 q88); (try clear q8g q8h q8i q8j q8k q8l q8m); (try clear q8u q8v q8w q8x q8y q8z q90); (try clear p2); (try clear p6); obtain ⟨kq, qk, q9, qa, qb, qc, qd, ql, qm, qe, qn, qo, qp, qq, qr, HA, HJ59, q1, q2, q0, q6, HB⟩ := hcut
    cases kq with
    | zero => exact absurd HA.out (by simp [sums_join.j1])
    | succ kj59 =>
     have H := HA.out; clear HA
     simp only [sums_join.j1] at H
     replace H := Option.bind_eq_some_iff.mp H; obtain ⟨q07, q38, H⟩ := H; replace H : (if (wrap64 ((wrap64 (q07 + q9)) - qe)) < 250 then ((sums_aligned.f qk q9 qa qb qc qd ql qm qe qn qo qp qq qr a2).bind fun qg => (some (qg.1, qg.2.1, qg.2.2.1, qg.2.2.2.1, qg.2.2.2.2.1, qg.2.2.2.2.2.1, qg.2.2.2.2.2.2))) else ((sums_beside.f qk q9 qa qb qc qd ql qm qe qn qo qp qq qr).bind fun qh => (some (qh.1, qh.2.1, qh.2.2.1, qh.2.2.2.1, qh.2.2.2.2.1, qh.2.2.2.2.2.1, qh.2.2.2.2.2.2)))) = some (r1, r2, r3, r4, r5, r6, r7) := H; have A78 := Aside0.mk q38; clear q38
     by_cases c79 : (wrap64 ((wrap64 (q07 + q9)) - qe)) < 250
     · rw [if_pos c79] at H
       have q91 : decide ((wrap64 ((wrap64 (q07 + q9)) - qe)) < 250) = true := decide_eq_true c79; clear c79; replace H := Option.bind_eq_some_iff.mp H; obtain ⟨⟨q0x, q0y, q0z, q10, q11, q12, q13⟩, q39, H⟩ := H; replace H : (some (q0x, q0y, q0z, q10, q11, q12, q13)) = some (r1, r2, r3, r4, r5, r6, r7) := H; have A80 := Aside0.mk q39; clear q39
       simp only [Option.some.injEq, Prod.mk.injEq] at H
       obtain ⟨rfl, rfl, rfl, rfl, rfl, rfl, rfl⟩ := H
       try go_wp2
       replace q1 := Aside0.mk (blk_drew q1.out); replace q2 := Aside0.mk (blk_drew q2.out); replace q0 := Aside0.mk (blk_drew q0.out); replace q6 := Aside0.mk (blk_drew q6.out); replace HB := Aside0.mk (below_drew1 HB.out); refine start_ (n := 10) (S := fun w' => w'.cell? ⟨q4, 0, none⟩ = some (.bool qk) ∧ w'.cell? ⟨q4, 1, none⟩ = some (.int .i64 q9) ∧ w'.cell? ⟨q4, 2, none⟩ = some (.int .u64 qa) ∧ w'.cell? ⟨q4, 3, none⟩ = some (.int .u64 qb) ∧ w'.cell? ⟨q4, 4, none⟩ = some (.int .u64 qc) ∧ w'.cell? ⟨q4, 5, none⟩ = some (.int .u64 qd) ∧ w'.cell? ⟨q4, 6, none⟩ = some (.bool ql) ∧ w'.cell? ⟨q5, 0, none⟩ = some (.bool qm) ∧ w'.cell? ⟨q5, 1, none⟩ = some (.int .i64 qe) ∧ w'.cell? ⟨q5, 2, none⟩ = some (.int .u64 qn) ∧ w'.cell? ⟨q5, 3, none⟩ = some (.int .u64 qo) ∧ w'.cell? ⟨q5, 4, none⟩ = some (.int .u64 qp) ∧ w'.cell? ⟨q5, 5, none⟩ = some (.int .u64 qq) ∧ w'.cell? ⟨q5, 6, none⟩ = some (.bool qr)) (ds := []) #[false, false, false, false, false, false, false, false, false, false] (by kernel_rfl) rfl rfl ⟨bc q1 0, bc q1 1, bc q1 2, bc q1 3, bc q1 4, bc q1 5, bc q1 6, bc q2 0, bc q2 1, bc q2 2, bc q2 3, bc q2 4, bc q2 5, bc q2 6⟩ (fun hHeld => ?_); refine with_tabW sums_join.tab10 sums_join.bits10 (fun HT_ HW_ => ?_)
       generalize wc.drew = w81 at q1 q2 q0 q6 HB hHeld ⊢
       refine pure_ (i := 0) (N := some 44) (v := ?_) (a' := ?_) #[true, false, false, false, false, false, false, false, false, false] rfl rfl (any_of HT_.out (by kernel_rfl)) (fun _ _ _ h => h) (Or.inl ⟨by rfl, ?_⟩) ?_ ?_; rotate_left
       · intro w'
         go_simp
         with_reducible rfl
       rotate_left
       · exact APq
       refine pure_ (i := 3) (N := some 47) (v := ?_) (a' := ?_) #[true, false, false, true, false, false, false, false, false, false] rfl rfl (any_of HT_.out (by kernel_rfl)) (fun _ _ _ h => h) (Or.inl ⟨by rfl, ?_⟩) ?_ ?_; rotate_left
       · intro w'
         go_simp
         with_reducible rfl
       rotate_left
       · exact APq
       refine pure_ (i := 6) (N := some 50) (v := ?_) (a' := ?_) #[true, false, false, true, false, false, true, false, false, false] rfl rfl (any_of HT_.out (by kernel_rfl)) (fun _ _ _ h => h) (Or.inl ⟨by rfl, ?_⟩) ?_ ?_; rotate_left
       · intro w'
         go_simp
         with_reducible rfl
       rotate_left
       · exact APq
       refine take_ (i := 1) (N := some 45) (v := ?_) (a' := ?_) #[true, true, false, true, false, false, true, false, false, false] rfl rfl (take_ofW HT_.out HW_.out (by kernel_rfl)) (fun _ _ _ h => h) (Or.inl ⟨by rfl, ?_⟩) hHeld ?_ ?_; rotate_left
       · rintro w' ⟨s0, s1, s2, s3, s4, s5, s6, s7, s8, s9, s10, s11, s12, s13⟩
         go_simp
         with_reducible rfl
       rotate_left
       · exact APq
       refine take_ (i := 4) (N := some 48) (v := ?_) (a' := ?_) #[true, true, false, true, true, false, true, false, false, false] rfl rfl (take_ofW HT_.out HW_.out (by kernel_rfl)) (fun _ _ _ h => h) (Or.inl ⟨by rfl, ?_⟩) hHeld ?_ ?_; rotate_left
       · rintro w' ⟨s0, s1, s2, s3, s4, s5, s6, s7, s8, s9, s10, s11, s12, s13⟩
         go_simp
         with_reducible rfl
       rotate_left
       · exact APq
       refine take_ (i := 7) (N := some 51) (v := ?_) (a' := ?_) #[true, true, false, true, true, false, true, true, false, false] rfl rfl (take_ofW HT_.out HW_.out (by kernel_rfl)) (fun _ _ _ h => h) (Or.inl ⟨by rfl, ?_⟩) hHeld ?_ ?_; rotate_left
       · rintro w' ⟨s0, s1, s2, s3, s4, s5, s6, s7, s8, s9, s10, s11, s12, s13⟩
         go_simp
         with_reducible rfl
       rotate_left
       · exact APq
       refine one_ (i := 2) (N := some 46) #[true, true, true, true, true, false, true, true, false, false] rfl rfl (one_of HT_.out (by kernel_rfl)) (by decide) (fun K hK => ?_); refine goes_ Try.func62 (by kernel_rfl) rfl #[.agg #[.int .u64 qa, .int .u64 qb, .int .u64 qc, .int .u64 qd]] (by rfl) rfl rfl LMq ?_
       with_reducible refine (wide_Len.calls qa qb qc qd q07 _ A78.out).mono ?_
       rintro e w82 ⟨rfl, hb⟩; refine ⟨_, rfl, ?_⟩; replace q1 := Aside0.mk (blk_below q1.out hb); replace q2 := Aside0.mk (blk_below q2.out hb); replace q0 := Aside0.mk (blk_below q0.out hb); replace q6 := Aside0.mk (blk_below q6.out hb); replace HB := Aside0.mk (below_step HB.out hb)
       (try clear hb)
       (try clear hb2)
       (try clear hk)
       (try clear hi)
       refine hK.out _ _ ⟨bc q1 0, bc q1 1, bc q1 2, bc q1 3, bc q1 4, bc q1 5, bc q1 6, bc q2 0, bc q2 1, bc q2 2, bc q2 3, bc q2 4, bc q2 5, bc q2 6⟩ (fun hHeld => ?_); clear hK K; refine norm_ (a' := ?_) ?_ ?_; rotate_left
       · show Act.put _ (some 46) _ = _
         exact APq
       refine pure_ (i := 5) (N := some 49) (v := ?_) (a' := ?_) #[true, true, true, true, true, true, true, true, false, false] rfl rfl (any_of HT_.out (by kernel_rfl)) (fun _ _ _ h => h) (Or.inl ⟨by rfl, ?_⟩) ?_ ?_; rotate_left
       · intro w'
         go_simp
         with_reducible rfl
       rotate_left
       · exact APq
       refine pure_ (i := 8) (N := some 52) (v := ?_) (a' := ?_) #[true, true, true, true, true, true, true, true, true, false] rfl rfl (any_of HT_.out (by kernel_rfl)) (fun _ _ _ h => h) (Or.inl ⟨by rfl, ?_⟩) ?_ ?_; rotate_left
       · intro w'
         go_simp
         with_reducible rfl
       rotate_left
       · exact APq
       refine pure_ (i := 9) (N := some 53) (v := ?_) (a' := ?_) #[true, true, true, true, true, true, true, true, true, true] rfl rfl (any_of HT_.out (by kernel_rfl)) (fun _ _ _ h => h) (Or.inl ⟨by rfl, ?_⟩) ?_ ?_; rotate_left
       · intro w'
         go_simp
         with_reducible rfl
       rotate_left
       · exact APq
       refine done_ (done_of HT_.out (by kernel_rfl)) ?_; have hnb83 := qt.out; have hnc83 := qu.out; have hnb84 := qv.out; have hnc84 := qw.out; have hnb85 := qx.out; have hnc85 := qy.out; obtain ⟨_, _, _, _, _, _, _, _, _, _, _, _, _, _⟩ := W7q q1; have hnb87 := q08.out; have hnc87 := q09.out; have hnb88 := qz.out; have hnc88 := q00.out; obtain ⟨_, _, _, _, _, _, _, _, _, _, _, _, _, _⟩ := W7q q2
       try go_wp2_with (first | ((with_reducible refine gate_callee (f := 95) rfl ?_); refine goesL_ (some 57) rfl rfl Try.func95 (by kernel_rfl) rfl #[.agg #[.bool qk, .int .i64 q9, .int .u64 qa, .int .u64 qb, .int .u64 qc, .int .u64 qd, .bool ql], .agg #[.bool qm, .int .i64 qe, .int .u64 qn, .int .u64 qo, .int .u64 qp, .int .u64 qq, .bool qr], .int .i64 a2] rfl LMq ?_; (with_reducible refine (sums_aligned.calls qk q9 qa qb qc qd ql qm qe qn qo qp qq qr a2 q0x q0y q0z q10 q11 q12 q13 _ A80.out).mono ?_); rintro e w90 ⟨rfl, hb⟩; refine ⟨_, rfl, ?_⟩; replace q1 := Aside0.mk (blk_below (g := q4) (o := .cells #[.bool qk, .int .i64 q9, .int .u64 qa, .int .u64 qb, .int .u64 qc, .int .u64 qd, .bool ql] 61 (0, 0)) (kB q1) hb); replace q2 := Aside0.mk (blk_below (g := q5) (o := .cells #[.bool qm, .int .i64 qe, .int .u64 qn, .int .u64 qo, .int .u64 qp, .int .u64 qq, .bool qr] 61 (0, 0)) (kB q2) hb); replace q0 := Aside0.mk (blk_below (g := q3) (o := .cells #[.bool false, .int .i64 0, .int .u64 0, .int .u64 0, .int .u64 0, .int .u64 0, .bool false] 61 (0, 0)) (kB q0) hb); replace q6 := Aside0.mk (blk_below (g := qj) (o := .cells #[.int .u64 0, .int .u64 0, .int .u64 0, .int .u64 0] 58 (0, 0)) (kB q6) hb); replace HB := Aside0.mk (below_step (by repeat (first | (with_reducible first | exact HB.out | apply below_alloc | apply pw_below_drewN | apply below_drew1 | refine below_set ?_ q7.out | refine below_set ?_ q8.out | refine below_set ?_ qi.out | refine below_set ?_ qs.out) | exact HB.out)) hb); (try clear hb); (try clear hb2); (try clear hk); (try clear hi); have hnb91 := q0a.out; have hnc91 := q0b.out; have hcz92_0 : w90.cell? ⟨q3, 0, none⟩ = some (.bool false) := bc q0 0; have hcz92_1 : w90.cell? ⟨q3, 1, none⟩ = some (.int .i64 0) := bc q0 1; have hcz92_2 : w90.cell? ⟨q3, 2, none⟩ = some (.int .u64 0) := bc q0 2; have hcz92_3 : w90.cell? ⟨q3, 3, none⟩ = some (.int .u64 0) := bc q0 3; have hcz92_4 : w90.cell? ⟨q3, 4, none⟩ = some (.int .u64 0) := bc q0 4; have hcz92_5 : w90.cell? ⟨q3, 5, none⟩ = some (.int .u64 0) := bc q0 5; have hcz92_6 : w90.cell? ⟨q3, 6, none⟩ = some (.bool false) := bc q0 6; have hfz92_0 := blk_frozen q0.out 0; have hfz92_1 := blk_frozen q0.out 1; have hfz92_2 := blk_frozen q0.out 2; have hfz92_3 := blk_frozen q0.out 3; have hfz92_4 := blk_frozen q0.out 4; have hfz92_5 := blk_frozen q0.out 5; have hfz92_6 := blk_frozen q0.out 6))
       refine bodyPost_ret (results_cell_row rfl _ _ q3 61 #[.bool q0x, .int .i64 q0y, .int .u64 q0z, .int .u64 q10, .int .u64 q11, .int .u64 q12, .bool q13] (0, 0) _ rfl (kF q0) Try.underlying61 rfl (by kernel_rfl)) rfl ?_; exact ⟨by first | rfl | (simp [errW_none, errW_some] <;> rfl) | (simp [*, errW_none, errW_some] <;> rfl), by repeat (first | (with_reducible first | exact HB.out | apply below_alloc | apply pw_below_drewN | apply below_drew1 | refine below_set ?_ q7.out | refine below_set ?_ q8.out | refine below_set ?_ qi.out | refine below_set ?_ qs.out) | exact HB.out)⟩
     rw [if_neg c79] at H
     have q91 : decide ((wrap64 ((wrap64 (q07 + q9)) - qe)) < 250) = false := decide_eq_false c79; clear c79; replace H := Option.bind_eq_some_iff.mp H; obtain ⟨⟨q14, q15, q16, q17, q18, q19, q1a⟩, q3a, H⟩ := H; replace H : (some (q14, q15, q16, q17, q18, q19, q1a)) = some (r1, r2, r3, r4, r5, r6, r7) := H; have A93 := Aside0.mk q3a; clear q3a
     simp only [Option.some.injEq, Prod.mk.injEq] at H
     obtain ⟨rfl, rfl, rfl, rfl, rfl, rfl, rfl⟩ := H
     try go_wp2
     replace q1 := Aside0.mk (blk_drew q1.out); replace q2 := Aside0.mk (blk_drew q2.out); replace q0 := Aside0.mk (blk_drew q0.out); replace q6 := Aside0.mk (blk_drew q6.out); replace HB := Aside0.mk (below_drew1 HB.out); refine start_ (n := 10) (S := fun w' => w'.cell? ⟨q4, 0, none⟩ = some (.bool qk) ∧ w'.cell? ⟨q4, 1, none⟩ = some (.int .i64 q9) ∧ w'.cell? ⟨q4, 2, none⟩ = some (.int .u64 qa) ∧ w'.cell? ⟨q4, 3, none⟩ = some (.int .u64 qb) ∧ w'.cell? ⟨q4, 4, none⟩ = some (.int .u64 qc) ∧ w'.cell? ⟨q4, 5, none⟩ = some (.int .u64 qd) ∧ w'.cell? ⟨q4, 6, none⟩ = some (.bool ql) ∧ w'.cell? ⟨q5, 0, none⟩ = some (.bool qm) ∧ w'.cell? ⟨q5, 1, none⟩ = some (.int .i64 qe) ∧ w'.cell? ⟨q5, 2, none⟩ = some (.int .u64 qn) ∧ w'.cell? ⟨q5, 3, none⟩ = some (.int .u64 qo) ∧ w'.cell? ⟨q5, 4, none⟩ = some (.int .u64 qp) ∧ w'.cell? ⟨q5, 5, none⟩ = some (.int .u64 qq) ∧ w'.cell? ⟨q5, 6, none⟩ = some (.bool qr)) (ds := []) #[false, false, false, false, false, false, false, false, false, false] (by kernel_rfl) rfl rfl ⟨bc q1 0, bc q1 1, bc q1 2, bc q1 3, bc q1 4, bc q1 5, bc q1 6, bc q2 0, bc q2 1, bc q2 2, bc q2 3, bc q2 4, bc q2 5, bc q2 6⟩ (fun hHeld => ?_); refine with_tabW sums_join.tab10 sums_join.bits10 (fun HT_ HW_ => ?_)
     generalize wc.drew = w94 at q1 q2 q0 q6 HB hHeld ⊢
     refine pure_ (i := 0) (N := some 44) (v := ?_) (a' := ?_) #[true, false, false, false, false, false, false, false, false, false] rfl rfl (any_of HT_.out (by kernel_rfl)) (fun _ _ _ h => h) (Or.inl ⟨by rfl, ?_⟩) ?_ ?_; rotate_left
     · intro w'
       go_simp
       with_reducible rfl
     rotate_left
     · exact APq
     refine pure_ (i := 3) (N := some 47) (v := ?_) (a' := ?_) #[true, false, false, true, false, false, false, false, false, false] rfl rfl (any_of HT_.out (by kernel_rfl)) (fun _ _ _ h => h) (Or.inl ⟨by rfl, ?_⟩) ?_ ?_; rotate_left
     · intro w'
       go_simp
       with_reducible rfl
     rotate_left
     · exact APq
     refine pure_ (i := 6) (N := some 50) (v := ?_) (a' := ?_) #[true, false, false, true, false, false, true, false, false, false] rfl rfl (any_of HT_.out (by kernel_rfl)) (fun _ _ _ h => h) (Or.inl ⟨by rfl, ?_⟩) ?_ ?_; rotate_left
     · intro w'
       go_simp
       with_reducible rfl
     rotate_left
     · exact APq
     refine take_ (i := 1) (N := some 45) (v := ?_) (a' := ?_) #[true, true, false, true, false, false, true, false, false, false] rfl rfl (take_ofW HT_.out HW_.out (by kernel_rfl)) (fun _ _ _ h => h) (Or.inl ⟨by rfl, ?_⟩) hHeld ?_ ?_; rotate_left
     · rintro w' ⟨s0, s1, s2, s3, s4, s5, s6, s7, s8, s9, s10, s11, s12, s13⟩
       go_simp
       with_reducible rfl
     rotate_left
     · exact APq
     refine take_ (i := 4) (N := some 48) (v := ?_) (a' := ?_) #[true, true, false, true, true, false, true, false, false, false] rfl rfl (take_ofW HT_.out HW_.out (by kernel_rfl)) (fun _ _ _ h => h) (Or.inl ⟨by rfl, ?_⟩) hHeld ?_ ?_; rotate_left
     · rintro w' ⟨s0, s1, s2, s3, s4, s5, s6, s7, s8, s9, s10, s11, s12, s13⟩
       go_simp
       with_reducible rfl
     rotate_left
     · exact APq
     refine take_ (i := 7) (N := some 51) (v := ?_) (a' := ?_) #[true, true, false, true, true, false, true, true, false, false] rfl rfl (take_ofW HT_.out HW_.out (by kernel_rfl)) (fun _ _ _ h => h) (Or.inl ⟨by rfl, ?_⟩) hHeld ?_ ?_; rotate_left
     · rintro w' ⟨s0, s1, s2, s3, s4, s5, s6, s7, s8, s9, s10, s11, s12, s13⟩
       go_simp
       with_reducible rfl
     rotate_left
     · exact APq
     refine one_ (i := 2) (N := some 46) #[true, true, true, true, true, false, true, true, false, false] rfl rfl (one_of HT_.out (by kernel_rfl)) (by decide) (fun K hK => ?_); refine goes_ Try.func62 (by kernel_rfl) rfl #[.agg #[.int .u64 qa, .int .u64 qb, .int .u64 qc, .int .u64 qd]] (by rfl) rfl rfl LMq ?_
     with_reducible refine (wide_Len.calls qa qb qc qd q07 _ A78.out).mono ?_
     rintro e w95 ⟨rfl, hb⟩; refine ⟨_, rfl, ?_⟩; replace q1 := Aside0.mk (blk_below q1.out hb); replace q2 := Aside0.mk (blk_below q2.out hb); replace q0 := Aside0.mk (blk_below q0.out hb); replace q6 := Aside0.mk (blk_below q6.out hb); replace HB := Aside0.mk (below_step HB.out hb)
     (try clear hb)
     (try clear hb2)
     (try clear hk)
     (try clear hi)
     refine hK.out _ _ ⟨bc q1 0, bc q1 1, bc q1 2, bc q1 3, bc q1 4, bc q1 5, bc q1 6, bc q2 0, bc q2 1, bc q2 2, bc q2 3, bc q2 4, bc q2 5, bc q2 6⟩ (fun hHeld => ?_); clear hK K; refine norm_ (a' := ?_) ?_ ?_; rotate_left
     · show Act.put _ (some 46) _ = _
       exact APq
     refine pure_ (i := 5) (N := some 49) (v := ?_) (a' := ?_) #[true, true, true, true, true, true, true, true, false, false] rfl rfl (any_of HT_.out (by kernel_rfl)) (fun _ _ _ h => h) (Or.inl ⟨by rfl, ?_⟩) ?_ ?_; rotate_left
     · intro w'
       go_simp
       with_reducible rfl
     rotate_left
     · exact APq
     refine pure_ (i := 8) (N := some 52) (v := ?_) (a' := ?_) #[true, true, true, true, true, true, true, true, true, false] rfl rfl (any_of HT_.out (by kernel_rfl)) (fun _ _ _ h => h) (Or.inl ⟨by rfl, ?_⟩) ?_ ?_; rotate_left
     · intro w'
       go_simp
       with_reducible rfl
     rotate_left
     · exact APq
     refine pure_ (i := 9) (N := some 53) (v := ?_) (a' := ?_) #[true, true, true, true, true, true, true, true, true, true] rfl rfl (any_of HT_.out (by kernel_rfl)) (fun _ _ _ h => h) (Or.inl ⟨by rfl, ?_⟩) ?_ ?_; rotate_left
     · intro w'
       go_simp
       with_reducible rfl
     rotate_left
     · exact APq
     refine done_ (done_of HT_.out (by kernel_rfl)) ?_; have hnb96 := qt.out; have hnc96 := qu.out; have hnb97 := qv.out; have hnc97 := qw.out; have hnb98 := qx.out; have hnc98 := qy.out; obtain ⟨_, _, _, _, _, _, _, _, _, _, _, _, _, _⟩ := W7q q1; have hnb100 := q08.out; have hnc100 := q09.out; have hnb101 := qz.out; have hnc101 := q00.out; obtain ⟨_, _, _, _, _, _, _, _, _, _, _, _, _, _⟩ := W7q q2
     try go_wp2_with (first | ((with_reducible refine gate_callee (f := 96) rfl ?_); refine goesL_ (some 60) rfl rfl Try.func96 (by kernel_rfl) rfl #[.agg #[.bool qk, .int .i64 q9, .int .u64 qa, .int .u64 qb, .int .u64 qc, .int .u64 qd, .bool ql], .agg #[.bool qm, .int .i64 qe, .int .u64 qn, .int .u64 qo, .int .u64 qp, .int .u64 qq, .bool qr]] rfl LMq ?_; (with_reducible refine (sums_beside.calls qk q9 qa qb qc qd ql qm qe qn qo qp qq qr q14 q15 q16 q17 q18 q19 q1a _ A93.out).mono ?_); rintro e w103 ⟨rfl, hb⟩; refine ⟨_, rfl, ?_⟩; replace q1 := Aside0.mk (blk_below (g := q4) (o := .cells #[.bool qk, .int .i64 q9, .int .u64 qa, .int .u64 qb, .int .u64 qc, .int .u64 qd, .bool ql] 61 (0, 0)) (kB q1) hb); replace q2 := Aside0.mk (blk_below (g := q5) (o := .cells #[.bool qm, .int .i64 qe, .int .u64 qn, .int .u64 qo, .int .u64 qp, .int .u64 qq, .bool qr] 61 (0, 0)) (kB q2) hb); replace q0 := Aside0.mk (blk_below (g := q3) (o := .cells #[.bool false, .int .i64 0, .int .u64 0, .int .u64 0, .int .u64 0, .int .u64 0, .bool false] 61 (0, 0)) (kB q0) hb); replace q6 := Aside0.mk (blk_below (g := qj) (o := .cells #[.int .u64 0, .int .u64 0, .int .u64 0, .int .u64 0] 58 (0, 0)) (kB q6) hb); replace HB := Aside0.mk (below_step (by repeat (first | (with_reducible first | exact HB.out | apply below_alloc | apply pw_below_drewN | apply below_drew1 | refine below_set ?_ q7.out | refine below_set ?_ q8.out | refine below_set ?_ qi.out | refine below_set ?_ qs.out) | exact HB.out)) hb); (try clear hb); (try clear hb2); (try clear hk); (try clear hi); have hnb104 := q0a.out; have hnc104 := q0b.out; have hcz105_0 : w103.cell? ⟨q3, 0, none⟩ = some (.bool false) := bc q0 0; have hcz105_1 : w103.cell? ⟨q3, 1, none⟩ = some (.int .i64 0) := bc q0 1; have hcz105_2 : w103.cell? ⟨q3, 2, none⟩ = some (.int .u64 0) := bc q0 2; have hcz105_3 : w103.cell? ⟨q3, 3, none⟩ = some (.int .u64 0) := bc q0 3; have hcz105_4 : w103.cell? ⟨q3, 4, none⟩ = some (.int .u64 0) := bc q0 4; have hcz105_5 : w103.cell? ⟨q3, 5, none⟩ = some (.int .u64 0) := bc q0 5; have hcz105_6 : w103.cell? ⟨q3, 6, none⟩ = some (.bool false) := bc q0 6; have hfz105_0 := blk_frozen q0.out 0; have hfz105_1 := blk_frozen q0.out 1; have hfz105_2 := blk_frozen q0.out 2; have hfz105_3 := blk_frozen q0.out 3; have hfz105_4 := blk_frozen q0.out 4; have hfz105_5 := blk_frozen q0.out 5; have hfz105_6 := blk_frozen q0.out 6))
     refine bodyPost_ret (results_cell_row rfl _ _ q3 61 #[.bool q14, .int .i64 q15, .int .u64 q16, .int .u64 q17, .int .u64 q18, .int .u64 q19, .bool q1a] (0, 0) _ rfl (kF q0) Try.underlying61 rfl (by kernel_rfl)) rfl ?_; exact ⟨by first | rfl | (simp [errW_none, errW_some] <;> rfl) | (simp [*, errW_none, errW_some] <;> rfl), by repeat (first | (with_reducible first | exact HB.out | apply below_alloc | apply pw_below_drewN | apply below_drew1 | refine below_set ?_ q7.out | refine below_set ?_ q8.out | refine below_set ?_ qi.out | refine below_set ?_ qs.out) | exact HB.out)⟩
end Go.Proofs.Ytbgefpeicmbgiaa.X
