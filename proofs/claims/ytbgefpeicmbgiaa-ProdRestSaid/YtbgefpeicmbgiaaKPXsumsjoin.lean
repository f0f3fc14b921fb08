import Derived.Test.YtbgefpeicmbgiaaKP4
import Derived.Test.YtbgefpeicmbgiaaKPXsumsaligned
import Derived.Test.YtbgefpeicmbgiaaKPXsumsbeside
namespace Go.Proofs.Ytbgefpeicmbgiaa.X
open Go.RowKit Go.Proofs.YtbgefpeicmbgiaaW.PrintWords Go.Proofs.YtbgefpeicmbgiaaW.PrintLast Go.Proofs.YtbgefpeicmbgiaaW.PrintMore
attribute [local go_sem] max2_int min2_int max_two min_two max_three min_three max_four min_four   
set_option linter.unusedVariables false
set_option linter.unusedSimpArgs false
attribute [local go_sem high] eqA58
mutual
def sums_join.j0 : Nat → Int → Bool → Bool → Int → Int → Int → Int → Int → Bool → Bool → Int → Int → Int → Int → Int → Bool → Int → Int → Int → Int → Option (Bool × Int × Int × Int × Int × Int × Bool)
 | 0, _, _, _, _, _, _, _, _, _, _, _, _, _, _, _, _, _, _, _, _ => none
 | k + 1, x2, x8, q0q, q0f, q0g, q0h, q0i, q0j, q0x, q0r, q0k, q0s, q0t, q0u, q0v, q0y, q1p, q1q, q1r, q1s => if x8 = true then ((sums_nought.f q0q q0r x2).bind fun qt => (some (qt.1, qt.2.1, qt.2.2.1, qt.2.2.2.1, qt.2.2.2.2.1, qt.2.2.2.2.2.1, qt.2.2.2.2.2.2))) else (if (q0g == q1p && (q0h == q1q && (q0i == q1r && (q0j == q1s)))) = true then (some (q0r, q0k, q0s, q0t, q0u, q0v, q0y)) else (if (q0s == q1p && (q0t == q1q && (q0u == q1r && (q0v == q1s)))) = true then (some (q0q, q0f, q0g, q0h, q0i, q0j, q0x)) else (if q0f < q0k then (sums_join.j1 k x2 q0r q0k q0s q0t q0u q0v q0y q0q q0f q0g q0h q0i q0j q0x) else (sums_join.j1 k x2 q0q q0f q0g q0h q0i q0j q0x q0r q0k q0s q0t q0u q0v q0y))))
def sums_join.j1 : Nat → Int → Bool → Int → Int → Int → Int → Int → Bool → Bool → Int → Int → Int → Int → Int → Bool → Option (Bool × Int × Int × Int × Int × Int × Bool)
 | 0, _, _, _, _, _, _, _, _, _, _, _, _, _, _, _ => none
 | k + 1, x2, q0q, q0f, q0g, q0h, q0i, q0j, q0x, q0r, q0k, q0s, q0t, q0u, q0v, q0y => (wide_Len.f q0g q0h q0i q0j).bind fun q0l => (if (wrap64 ((wrap64 (q0l + q0f)) - q0k)) < 250 then ((sums_aligned.f q0q q0f q0g q0h q0i q0j q0x q0r q0k q0s q0t q0u q0v q0y x2).bind fun qu => (some (qu.1, qu.2.1, qu.2.2.1, qu.2.2.2.1, qu.2.2.2.2.1, qu.2.2.2.2.2.1, qu.2.2.2.2.2.2))) else ((sums_beside.f q0q q0f q0g q0h q0i q0j q0x q0r q0k q0s q0t q0u q0v q0y).bind fun qv => (some (qv.1, qv.2.1, qv.2.2.1, qv.2.2.2.1, qv.2.2.2.2.1, qv.2.2.2.2.2.1, qv.2.2.2.2.2.2))))
end
def sums_join.f (k : Nat) (qe : Bool) (qd : Int) (q2 : Int) (q3 : Int) (q4 : Int) (q5 : Int) (qh : Bool) (qi : Bool) (qf : Int) (q8 : Int) (q9 : Int) (qa : Int) (qb : Int) (qj : Bool) (a2 : Int) : Option (Bool × Int × Int × Int × Int × Int × Bool) := if (q2 == 0 && (q3 == 0 && (q4 == 0 && (q5 == 0)))) = true then (sums_join.j0 k a2 (q8 == 0 && (q9 == 0 && (qa == 0 && (qb == 0)))) qe qd q2 q3 q4 q5 qh qi qf q8 q9 qa qb qj 0 0 0 0) else (sums_join.j0 k a2 false qe qd q2 q3 q4 q5 qh qi qf q8 q9 qa qb qj 0 0 0 0)
theorem sums_join.mono_l : ∀ k, (∀ y0 y1 y2 y3 y4 y5 y6 y7 y8 y9 y10 y11 y12 y13 y14 y15 y16 y17 y18 y19, LeO (sums_join.j0 k y0 y1 y2 y3 y4 y5 y6 y7 y8 y9 y10 y11 y12 y13 y14 y15 y16 y17 y18 y19) (sums_join.j0 (k + 1) y0 y1 y2 y3 y4 y5 y6 y7 y8 y9 y10 y11 y12 y13 y14 y15 y16 y17 y18 y19)) ∧ (∀ y0 y1 y2 y3 y4 y5 y6 y7 y8 y9 y10 y11 y12 y13 y14, LeO (sums_join.j1 k y0 y1 y2 y3 y4 y5 y6 y7 y8 y9 y10 y11 y12 y13 y14) (sums_join.j1 (k + 1) y0 y1 y2 y3 y4 y5 y6 y7 y8 y9 y10 y11 y12 y13 y14))
 | 0 => ⟨fun _ _ _ _ _ _ _ _ _ _ _ _ _ _ _ _ _ _ _ _ r h => by simp [sums_join.j0] at h, fun _ _ _ _ _ _ _ _ _ _ _ _ _ _ _ r h => by simp [sums_join.j1] at h⟩
 | k + 1 => by
  obtain ⟨ih0, ih1⟩ := sums_join.mono_l k; refine ⟨?_, ?_⟩
  · intro y0 y1 y2 y3 y4 y5 y6 y7 y8 y9 y10 y11 y12 y13 y14 y15 y16 y17 y18 y19
    unfold sums_join.j0
    repeat' first
    | (with_reducible exact ih0 _ _ _ _ _ _ _ _ _ _ _ _ _ _ _ _ _ _ _ _)
    | (with_reducible exact ih1 _ _ _ _ _ _ _ _ _ _ _ _ _ _ _)
    | (with_reducible exact LeO.refl _)
    | (with_reducible exact LeO.none _)
    | (with_reducible refine LeO.ite ?_ ?_)
    | (with_reducible refine LeO.bind ?_ (fun _ => ?_))
    | exact ih0 _ _ _ _ _ _ _ _ _ _ _ _ _ _ _ _ _ _ _ _
    | exact ih1 _ _ _ _ _ _ _ _ _ _ _ _ _ _ _
    | exact LeO.none _
    | refine LeO.ite ?_ ?_
    | refine LeO.bind ?_ (fun _ => ?_)
  intro y0 y1 y2 y3 y4 y5 y6 y7 y8 y9 y10 y11 y12 y13 y14
  unfold sums_join.j1
  repeat' first
  | (with_reducible exact ih0 _ _ _ _ _ _ _ _ _ _ _ _ _ _ _ _ _ _ _ _)
  | (with_reducible exact ih1 _ _ _ _ _ _ _ _ _ _ _ _ _ _ _)
  | (with_reducible exact LeO.refl _)
  | (with_reducible exact LeO.none _)
  | (with_reducible refine LeO.ite ?_ ?_)
  | (with_reducible refine LeO.bind ?_ (fun _ => ?_))
  | exact ih0 _ _ _ _ _ _ _ _ _ _ _ _ _ _ _ _ _ _ _ _
  | exact ih1 _ _ _ _ _ _ _ _ _ _ _ _ _ _ _
  | exact LeO.none _
  | refine LeO.ite ?_ ?_
  | refine LeO.bind ?_ (fun _ => ?_)
theorem sums_join.mono : ∀ a0 a1 a2 a3 a4 a5 a6 a7 a8 a9 a10 a11 a12 a13 a14 k, LeO (sums_join.f k a0 a1 a2 a3 a4 a5 a6 a7 a8 a9 a10 a11 a12 a13 a14) (sums_join.f (k + 1) a0 a1 a2 a3 a4 a5 a6 a7 a8 a9 a10 a11 a12 a13 a14) := by
 intro a0 a1 a2 a3 a4 a5 a6 a7 a8 a9 a10 a11 a12 a13 a14 k; obtain ⟨ih0, ih1⟩ := sums_join.mono_l k
 unfold sums_join.f
 repeat' first
  | (with_reducible exact ih0 _ _ _ _ _ _ _ _ _ _ _ _ _ _ _ _ _ _ _ _)
  | (with_reducible exact ih1 _ _ _ _ _ _ _ _ _ _ _ _ _ _ _)
  | (with_reducible exact LeO.refl _)
  | (with_reducible exact LeO.none _)
  | (with_reducible refine LeO.ite ?_ ?_)
  | (with_reducible refine LeO.bind ?_ (fun _ => ?_))
  | exact ih0 _ _ _ _ _ _ _ _ _ _ _ _ _ _ _ _ _ _ _ _
  | exact ih1 _ _ _ _ _ _ _ _ _ _ _ _ _ _ _
  | exact LeO.none _
  | refine LeO.ite ?_ ?_
  | refine LeO.bind ?_ (fun _ => ?_)
def sums_join.T10 : Bool × List (List Nat × List Nat) := (true, [([], []), ([0], [0]), ([1], [1]), ([], []), ([3], [3]), ([2, 4], [2, 4]), ([], []), ([6], [6]), ([5, 7], [5, 7]), ([8], [8])])
def sums_join.B10 : List Nat := [0, 1, 3, 0, 8, 31, 0, 64, 255, 511]
theorem sums_join.tab10 : rtab .any (opsOf Try.f82 10) = sums_join.T10 := by kernel_rfl
theorem sums_join.bits10 : waitsOk sums_join.T10.2 sums_join.B10 = true := by kernel_rfl
set_option maxHeartbeats 8000000 in
set_option maxRecDepth 100000 in
theorem sums_join.calls (k : Nat) (qe : Bool) (qd : Int) (q2 : Int) (q3 : Int) (q4 : Int) (q5 : Int) (qh : Bool) (qi : Bool) (qf : Int) (q8 : Int) (q9 : Int) (qa : Int) (qb : Int) (qj : Bool) (a2 : Int) (r1 : Bool) (r2 : Int) (r3 : Int) (r4 : Int) (r5 : Int) (r6 : Int) (r7 : Bool) (w : World) (h : sums_join.f k qe qd q2 q3 q4 q5 qh qi qf q8 q9 qa qb qj a2 = some (r1, r2, r3, r4, r5, r6, r7)) :
 Calls Try.prog 82 #[.agg #[.bool qe, .int .i64 qd, .int .u64 q2, .int .u64 q3, .int .u64 q4, .int .u64 q5, .bool qh], .agg #[.bool qi, .int .i64 qf, .int .u64 q8, .int .u64 q9, .int .u64 qa, .int .u64 qb, .bool qj], .int .i64 a2] w fun e w' => e = .returned (.agg #[.bool r1, .int .i64 r2, .int .u64 r3, .int .u64 r4, .int .u64 r5, .int .u64 r6, .bool r7]) ∧ Below w.heap.size w w' := by
 have hu61 := Try.underlying61; have hu58 := Try.underlying58; have HB := Aside0.mk (Below.refl w.heap.size w); have H : (if (q2 == 0 && (q3 == 0 && (q4 == 0 && (q5 == 0)))) = true then (sums_join.j0 k a2 (q8 == 0 && (q9 == 0 && (qa == 0 && (qb == 0)))) qe qd q2 q3 q4 q5 qh qi qf q8 q9 qa qb qj 0 0 0 0) else (sums_join.j0 k a2 false qe qd q2 q3 q4 q5 qh qi qf q8 q9 qa qb qj 0 0 0 0)) = some (r1, r2, r3, r4, r5, r6, r7) := h; clear h; have HC4 := Aside0.mk H; clear H
 go_enter Try.func82, Try.ntmps82
 go_upto_region 2 with (first | ((with_reducible refine gate_dst (N := 3) rfl ?_); refine box_event ?hg (N := 3) ?hd (cs := #[.bool qe, .int .i64 qd, .int .u64 q2, .int .u64 q3, .int .u64 q4, .int .u64 q5, .bool qh]) (t := 61) ?hr ?_; (case hd => rfl); (case hg => rfl); (case hr => first | (go_simp; done) | (go_simp; rfl)); intro q6 hg w5 hbox hb; have q0 := Aside0.mk (hbox); have GW512 := Aside0.mk ((by rw [hg]; exact (below_size (kH HB)) : w.heap.size ≤ q6)); have qk := Aside0.mk ((by rw [hg]; exact (below_size (kH HB)) : w.heap.size ≤ q6)); replace HB := Aside0.mk (below_step (kH HB) hb); clear hb hbox hg) | ((with_reducible refine gate_dst (N := 4) rfl ?_); refine box_event ?hg (N := 4) ?hd (cs := #[.bool qi, .int .i64 qf, .int .u64 q8, .int .u64 q9, .int .u64 qa, .int .u64 qb, .bool qj]) (t := 61) ?hr ?_; (case hd => rfl); (case hg => rfl); (case hr => first | (go_simp; done) | (go_simp; rfl)); intro qc hg w6 hbox hb; have q1 := Aside0.mk (hbox); have GW513 := Aside0.mk ((by rw [hg]; exact (below_size (kHs HB qk)) : w.heap.size ≤ qc)); have qm := Aside0.mk ((by rw [hg]; exact (below_size (kHs HB qk)) : w.heap.size ≤ qc)); replace HB := Aside0.mk (below_step (kHs HB qk) hb); have q07 := Aside0.mk ((by rw [hg]; exact Nat.ne_of_lt (blk_lt (g := q6) (o := .cells #[.bool qe, .int .i64 qd, .int .u64 q2, .int .u64 q3, .int .u64 q4, .int .u64 q5, .bool qh] 61 (0, 0)) (kB q0)) : q6 ≠ qc)); have q08 := Aside0.mk ((by rw [hg]; exact Nat.ne_of_gt (blk_lt (g := q6) (o := .cells #[.bool qe, .int .i64 qd, .int .u64 q2, .int .u64 q3, .int .u64 q4, .int .u64 q5, .bool qh] 61 (0, 0)) (kB q0)) : qc ≠ q6)); replace q0 := Aside0.mk (blk_below (g := q6) (o := .cells #[.bool qe, .int .i64 qd, .int .u64 q2, .int .u64 q3, .int .u64 q4, .int .u64 q5, .bool qh] 61 (0, 0)) (kB q0) hb); clear hb hbox hg) | ((with_reducible refine gate_dst (N := 6) rfl ?_); refine box_event ?hg (N := 6) ?hd (cs := #[.bool false, .int .i64 0, .int .u64 0, .int .u64 0, .int .u64 0, .int .u64 0, .bool false]) (t := 61) ?hr ?_; (case hd => rfl); (case hg => rfl); (case hr => first | (go_simp; done) | (go_simp; rfl)); intro ql hg w7 hbox hb; have q7 := Aside0.mk (hbox); have GW514 := Aside0.mk ((by rw [hg]; exact (below_size (kHt HB qk qm)) : w.heap.size ≤ ql)); have qw := Aside0.mk ((by rw [hg]; exact (below_size (kHt HB qk qm)) : w.heap.size ≤ ql)); replace HB := Aside0.mk (below_step (kHt HB qk qm) hb); have q09 := Aside0.mk ((by rw [hg]; exact Nat.ne_of_lt (blk_lt (g := q6) (o := .cells #[.bool qe, .int .i64 qd, .int .u64 q2, .int .u64 q3, .int .u64 q4, .int .u64 q5, .bool qh] 61 (0, 0)) (kB q0)) : q6 ≠ ql)); have q0a := Aside0.mk ((by rw [hg]; exact Nat.ne_of_gt (blk_lt (g := q6) (o := .cells #[.bool qe, .int .i64 qd, .int .u64 q2, .int .u64 q3, .int .u64 q4, .int .u64 q5, .bool qh] 61 (0, 0)) (kB q0)) : ql ≠ q6)); replace q0 := Aside0.mk (blk_below (g := q6) (o := .cells #[.bool qe, .int .i64 qd, .int .u64 q2, .int .u64 q3, .int .u64 q4, .int .u64 q5, .bool qh] 61 (0, 0)) (kB q0) hb); have q0m := Aside0.mk ((by rw [hg]; exact Nat.ne_of_lt (blk_lt (g := qc) (o := .cells #[.bool qi, .int .i64 qf, .int .u64 q8, .int .u64 q9, .int .u64 qa, .int .u64 qb, .bool qj] 61 (0, 0)) (kB q1)) : qc ≠ ql)); have q0n := Aside0.mk ((by rw [hg]; exact Nat.ne_of_gt (blk_lt (g := qc) (o := .cells #[.bool qi, .int .i64 qf, .int .u64 q8, .int .u64 q9, .int .u64 qa, .int .u64 qb, .bool qj] 61 (0, 0)) (kB q1)) : ql ≠ qc)); replace q1 := Aside0.mk (blk_below (g := qc) (o := .cells #[.bool qi, .int .i64 qf, .int .u64 q8, .int .u64 q9, .int .u64 qa, .int .u64 qb, .bool qj] 61 (0, 0)) (kB q1) hb); clear hb hbox hg) | ((with_reducible refine gate_dst (N := 7) rfl ?_); refine box_event ?hg (N := 7) ?hd (cs := #[.int .u64 0, .int .u64 0, .int .u64 0, .int .u64 0]) (t := 58) ?hr ?_; (case hd => rfl); (case hg => rfl); (case hr => first | (go_simp; done) | (go_simp; rfl)); intro qx hg w8 hbox hb; have qg := Aside0.mk (hbox); have GW515 := Aside0.mk ((by rw [hg]; exact (below_size (by repeat (first | (with_reducible first | exact HB.out | apply below_alloc | apply pw_below_drewN | apply below_drew1 | refine below_set ?_ qk.out | refine below_set ?_ qm.out | refine below_set ?_ qw.out) | exact HB.out))) : w.heap.size ≤ qx)); have q06 := Aside0.mk ((by rw [hg]; exact (below_size (by repeat (first | (with_reducible first | exact HB.out | apply below_alloc | apply pw_below_drewN | apply below_drew1 | refine below_set ?_ qk.out | refine below_set ?_ qm.out | refine below_set ?_ qw.out) | exact HB.out))) : w.heap.size ≤ qx)); replace HB := Aside0.mk (below_step (by repeat (first | (with_reducible first | exact HB.out | apply below_alloc | apply pw_below_drewN | apply below_drew1 | refine below_set ?_ qk.out | refine below_set ?_ qm.out | refine below_set ?_ qw.out) | exact HB.out)) hb); have q0b := Aside0.mk ((by rw [hg]; exact Nat.ne_of_lt (blk_lt (g := q6) (o := .cells #[.bool qe, .int .i64 qd, .int .u64 q2, .int .u64 q3, .int .u64 q4, .int .u64 q5, .bool qh] 61 (0, 0)) (kB q0)) : q6 ≠ qx)); have q0c := Aside0.mk ((by rw [hg]; exact Nat.ne_of_gt (blk_lt (g := q6) (o := .cells #[.bool qe, .int .i64 qd, .int .u64 q2, .int .u64 q3, .int .u64 q4, .int .u64 q5, .bool qh] 61 (0, 0)) (kB q0)) : qx ≠ q6)); replace q0 := Aside0.mk (blk_below (g := q6) (o := .cells #[.bool qe, .int .i64 qd, .int .u64 q2, .int .u64 q3, .int .u64 q4, .int .u64 q5, .bool qh] 61 (0, 0)) (kB q0) hb); have q0d := Aside0.mk ((by rw [hg]; exact Nat.ne_of_lt (blk_lt (g := qc) (o := .cells #[.bool qi, .int .i64 qf, .int .u64 q8, .int .u64 q9, .int .u64 qa, .int .u64 qb, .bool qj] 61 (0, 0)) (kB q1)) : qc ≠ qx)); have q0e := Aside0.mk ((by rw [hg]; exact Nat.ne_of_gt (blk_lt (g := qc) (o := .cells #[.bool qi, .int .i64 qf, .int .u64 q8, .int .u64 q9, .int .u64 qa, .int .u64 qb, .bool qj] 61 (0, 0)) (kB q1)) : qx ≠ qc)); replace q1 := Aside0.mk (blk_below (g := qc) (o := .cells #[.bool qi, .int .i64 qf, .int .u64 q8, .int .u64 q9, .int .u64 qa, .int .u64 qb, .bool qj] 61 (0, 0)) (kB q1) hb); have q0o := Aside0.mk ((by rw [hg]; exact Nat.ne_of_lt (blk_lt (g := ql) (o := .cells #[.bool false, .int .i64 0, .int .u64 0, .int .u64 0, .int .u64 0, .int .u64 0, .bool false] 61 (0, 0)) (kB q7)) : ql ≠ qx)); have q0p := Aside0.mk ((by rw [hg]; exact Nat.ne_of_gt (blk_lt (g := ql) (o := .cells #[.bool false, .int .i64 0, .int .u64 0, .int .u64 0, .int .u64 0, .int .u64 0, .bool false] 61 (0, 0)) (kB q7)) : qx ≠ ql)); replace q7 := Aside0.mk (blk_below (g := ql) (o := .cells #[.bool false, .int .i64 0, .int .u64 0, .int .u64 0, .int .u64 0, .int .u64 0, .bool false] 61 (0, 0)) (kB q7) hb); clear hb hbox hg))
 (try simp only [Act.put, List.setIfInBounds_toArray, List.set_cons_zero, List.set_cons_succ])
 go_cut [8] (fun v8 wc => ∃ (kq : Nat) (q10 : Bool), v8 = .bool q10 ∧ Aside0 (sums_join.j0 kq a2 q10 qe qd q2 q3 q4 q5 qh qi qf q8 q9 qa qb qj 0 0 0 0 = some (r1, r2, r3, r4, r5, r6, r7)) ∧ Aside0 (kq ≤ k) ∧ Aside0 (wc.heap[q6]? = some (.cells #[.bool qe, .int .i64 qd, .int .u64 q2, .int .u64 q3, .int .u64 q4, .int .u64 q5, .bool qh] 61 (0, 0))) ∧ Aside0 (wc.heap[qc]? = some (.cells #[.bool qi, .int .i64 qf, .int .u64 q8, .int .u64 q9, .int .u64 qa, .int .u64 qb, .bool qj] 61 (0, 0))) ∧ Aside0 (wc.heap[ql]? = some (.cells #[.bool false, .int .i64 0, .int .u64 0, .int .u64 0, .int .u64 0, .int .u64 0, .bool false] 61 (0, 0))) ∧ Aside0 (wc.heap[qx]? = some (.cells #[.int .u64 0, .int .u64 0, .int .u64 0, .int .u64 0] 58 (0, 0))) ∧ Aside0 (Below w.heap.size w wc))
 case first =>
  have H := HC4.out; clear HC4
  by_cases c9 : (q2 == 0 && (q3 == 0 && (q4 == 0 && (q5 == 0)))) = true
  · rw [if_pos c9] at H
    have q0w : (q2 == 0 && (q3 == 0 && (q4 == 0 && (q5 == 0)))) = true := c9
    (try (have q11 : decide (q2 = 0 && (q3 == 0 && (q4 == 0 && (q5 == 0)))) = true := by simpa using c9))
    (try (have q12 : (q2 == 0 && (q3 == 0 && (q4 == 0 && (q5 == 0)))) = true := by simpa using c9))
    clear c9
    (first | rw [q0w] | (simp only [i64_w, i32_w]; rw [q0w]) | skip)
    have H' := Aside0.mk H; clear H; have hnb10 := q07.out; have hnc10 := q08.out; have hnb11 := q09.out; have hnc11 := q0a.out; have hnb12 := q0b.out; have hnc12 := q0c.out; obtain ⟨q1t, q1u, q1v, q1w, q1x, q1y, q1z, q20, q21, q22, q23, q24, q25, q26⟩ := W7q q0; have hnb14 := q0e.out; have hnc14 := q0d.out; have hnb15 := q0p.out; have hnc15 := q0o.out; obtain ⟨q27, q28, q29, q2a, q2b, q2c, q2d, q2e⟩ := W4q qg; have hnb17 := q0m.out; have hnc17 := q0n.out; obtain ⟨q2f, q2g, q2h, q2i, q2j, q2k, q2l, q2m, q2n, q2o, q2p, q2q, q2r, q2s⟩ := W7q q1
    go_wp2
    go_meet
    case rel => exact ⟨_, ((q8 == 0 && (q9 == 0 && (qa == 0 && (qb == 0))))), RSq, (by first | exact H' | (subst_vars; exact H')), ⟨by first | omega | exact Nat.le_refl _⟩, ⟨kB q0⟩, ⟨kB q1⟩, ⟨kB q7⟩, ⟨kB qg⟩, ⟨by repeat (first | (with_reducible first | exact HB.out | apply below_alloc | apply pw_below_drewN | apply below_drew1 | refine below_set ?_ qk.out | refine below_set ?_ qm.out | refine below_set ?_ qw.out | refine below_set ?_ q06.out) | exact HB.out)⟩⟩
  rw [if_neg c9] at H
  have q0w : (q2 == 0 && (q3 == 0 && (q4 == 0 && (q5 == 0)))) = false := by simpa using c9
  (try (have q11 : decide (q2 = 0 && (q3 == 0 && (q4 == 0 && (q5 == 0)))) = false := by simpa using c9))
  (try (have q12 : (q2 == 0 && (q3 == 0 && (q4 == 0 && (q5 == 0)))) = false := by simpa using c9))
  (try (have c9b3 : ¬ (q2 = 0 && (q3 == 0 && (q4 == 0 && (q5 == 0)))) := by simpa using c9))
  clear c9
  (first | rw [q0w] | (simp only [i64_w, i32_w]; rw [q0w]) | skip)
  have H' := Aside0.mk H; clear H; have hnb19 := q07.out; have hnc19 := q08.out; have hnb20 := q09.out; have hnc20 := q0a.out; have hnb21 := q0b.out; have hnc21 := q0c.out; obtain ⟨q2t, q2u, q2v, q2w, q2x, q2y, q2z, q30, q31, q32, q33, q34, q35, q36⟩ := W7q q0; have hnb23 := q0e.out; have hnc23 := q0d.out; have hnb24 := q0p.out; have hnc24 := q0o.out; obtain ⟨q37, q38, q39, q3a, q3b, q3c, q3d, q3e⟩ := W4q qg
  go_wp2
  go_meet
  case rel => exact ⟨_, (false), RSq, (by first | exact H' | (subst_vars; exact H')), ⟨by first | omega | exact Nat.le_refl _⟩, ⟨kB q0⟩, ⟨kB q1⟩, ⟨kB q7⟩, ⟨kB qg⟩, ⟨by repeat (first | (with_reducible first | exact HB.out | apply below_alloc | apply pw_below_drewN | apply below_drew1 | refine below_set ?_ qk.out | refine below_set ?_ qm.out | refine below_set ?_ qw.out | refine below_set ?_ q06.out) | exact HB.out)⟩⟩
 case rest =>
  clear HC4; (try clear c1); (try clear c2); (try clear p2); (try clear p6); (try clear c8); (try clear c9); (try clear q0w); (try clear q11); (try clear q12); (try clear c10); (try clear c11); (try clear c12); (try clear c14); (try clear c15); (try clear c17); (try clear c19); (try clear c20); (try clear c21); (try clear c23); (try clear c24); (try clear q1t q1u q1v q1w q1x q1y q1z); (try clear q27 q28 q29 q2a); (try clear q2f q2g q2h q2i q2j q2k q2l); (try clear q2t q2u q2v q2w q2x q2y q2z); (try clear q37 q38 q39 q3a); (try clear q20 q21 q22 q23 q24 q25 q26); (try clear q2b q2c q2d q2e); (try clear q2m q2n q2o q2p q2q q2r q2s); (try clear q30 q31 q32 q33 q34 q35 q36); (try clear q3b q3c q3d q3e); obtain ⟨kq, q10, rfl, HA, HJ3, q0, q1, q7, qg, HB⟩ := hcut
  cases kq with
  | zero => exact absurd HA.out (by simp [sums_join.j0])
  | succ kj3 =>
   have H := HA.out; clear HA
   simp only [sums_join.j0] at H
   by_cases c26 : q10 = true
   · subst c26
     have H1 : ((sums_nought.f qe qi a2).bind fun qt => (some (qt.1, qt.2.1, qt.2.2.1, qt.2.2.2.1, qt.2.2.2.2.1, qt.2.2.2.2.2.1, qt.2.2.2.2.2.2))) = some (r1, r2, r3, r4, r5, r6, r7) := by rw [if_pos rfl] at H; exact H
     clear H; have H := H1; clear H1; replace H := Option.bind_eq_some_iff.mp H; obtain ⟨⟨q13, q14, q15, q16, q17, q18, q19⟩, q3f, H⟩ := H; replace H : (some (q13, q14, q15, q16, q17, q18, q19)) = some (r1, r2, r3, r4, r5, r6, r7) := H; have A27 := Aside0.mk q3f; clear q3f
     simp only [Option.some.injEq, Prod.mk.injEq] at H
     obtain ⟨rfl, rfl, rfl, rfl, rfl, rfl, rfl⟩ := H; have hnb28 := q07.out; have hnc28 := q08.out; have hnb29 := q09.out; have hnc29 := q0a.out; have hnb30 := q0b.out; have hnc30 := q0c.out; obtain ⟨q3p, q3q, q3r, q3s, q3t, q3u, q3v, q3w, q3x, q3y, q3z, q40, q41, q42⟩ := W7q q0; have hnb32 := q0m.out; have hnc32 := q0n.out; have hnb33 := q0d.out; have hnc33 := q0e.out; obtain ⟨q43, q44, q45, q46, q47, q48, q49, q4a, q4b, q4c, q4d, q4e, q4f, q4g⟩ := W7q q1
     go_wp2_with (first | ((with_reducible refine gate_callee (f := 94) rfl ?_); refine goesL_ (some 24) rfl rfl Try.func94 (by kernel_rfl) rfl #[.bool qe, .bool qi, .int .i64 a2] rfl LMq ?_; (with_reducible refine (sums_nought.calls qe qi a2 q13 q14 q15 q16 q17 q18 q19 _ A27.out).mono ?_); rintro e w35 ⟨rfl, hb⟩; refine ⟨_, rfl, ?_⟩; replace q0 := Aside0.mk (blk_below (g := q6) (o := .cells #[.bool qe, .int .i64 qd, .int .u64 q2, .int .u64 q3, .int .u64 q4, .int .u64 q5, .bool qh] 61 (0, 0)) (kB q0) hb); replace q1 := Aside0.mk (blk_below (g := qc) (o := .cells #[.bool qi, .int .i64 qf, .int .u64 q8, .int .u64 q9, .int .u64 qa, .int .u64 qb, .bool qj] 61 (0, 0)) (kB q1) hb); replace q7 := Aside0.mk (blk_below (g := ql) (o := .cells #[.bool false, .int .i64 0, .int .u64 0, .int .u64 0, .int .u64 0, .int .u64 0, .bool false] 61 (0, 0)) (kB q7) hb); replace qg := Aside0.mk (blk_below (g := qx) (o := .cells #[.int .u64 0, .int .u64 0, .int .u64 0, .int .u64 0] 58 (0, 0)) (kB qg) hb); replace HB := Aside0.mk (below_step (by repeat (first | (with_reducible first | exact HB.out | apply below_alloc | apply pw_below_drewN | apply below_drew1 | refine below_set ?_ qk.out | refine below_set ?_ qm.out | refine below_set ?_ qw.out | refine below_set ?_ q06.out) | exact HB.out)) hb); (try clear hb); (try clear hb2); (try clear hk); (try clear hi); have hnb36 := q0o.out; have hnc36 := q0p.out; obtain ⟨q4h, q4i, q4j, q4k, q4l, q4m, q4n, q4o, q4p, q4q, q4r, q4s, q4t, q4u⟩ := W7q q7))
     refine bodyPost_ret (results_cell_row rfl _ _ ql 61 #[.bool q13, .int .i64 q14, .int .u64 q15, .int .u64 q16, .int .u64 q17, .int .u64 q18, .bool q19] (0, 0) _ rfl (kF q7) Try.underlying61 rfl (by kernel_rfl)) rfl ?_; exact ⟨by first | rfl | (simp [errW_none, errW_some] <;> rfl) | (simp [*, errW_none, errW_some] <;> rfl), by repeat (first | (with_reducible first | exact HB.out | apply below_alloc | apply pw_below_drewN | apply below_drew1 | refine below_set ?_ qk.out | refine below_set ?_ qm.out | refine below_set ?_ qw.out | refine below_set ?_ q06.out) | exact HB.out)⟩
   replace c26 := Bool.eq_false_iff.mpr c26; subst c26
   have H1 : (if (q2 == 0 && (q3 == 0 && (q4 == 0 && (q5 == 0)))) = true then (some (qi, qf, q8, q9, qa, qb, qj)) else (if (q8 == 0 && (q9 == 0 && (qa == 0 && (qb == 0)))) = true then (some (qe, qd, q2, q3, q4, q5, qh)) else (if qd < qf then (sums_join.j1 kj3 a2 qi qf q8 q9 qa qb qj qe qd q2 q3 q4 q5 qh) else (sums_join.j1 kj3 a2 qe qd q2 q3 q4 q5 qh qi qf q8 q9 qa qb qj)))) = some (r1, r2, r3, r4, r5, r6, r7) := by rw [if_neg (show ¬ (false = true) by decide)] at H; exact H
   clear H; have H := H1; clear H1
   by_cases c38 : (q2 == 0 && (q3 == 0 && (q4 == 0 && (q5 == 0)))) = true
   · rw [if_pos c38] at H
     have q3g : (q2 == 0 && (q3 == 0 && (q4 == 0 && (q5 == 0)))) = true := c38
     (try (have q3h : decide (q2 = 0 && (q3 == 0 && (q4 == 0 && (q5 == 0)))) = true := by simpa using c38))
     (try (have q3i : (q2 == 0 && (q3 == 0 && (q4 == 0 && (q5 == 0)))) = true := by simpa using c38))
     clear c38
     simp only [Option.some.injEq, Prod.mk.injEq] at H
     obtain ⟨rfl, rfl, rfl, rfl, rfl, rfl, rfl⟩ := H; have hnb39 := q07.out; have hnc39 := q08.out; have hnb40 := q09.out; have hnc40 := q0a.out; have hnb41 := q0b.out; have hnc41 := q0c.out; obtain ⟨q4v, q4w, q4x, q4y, q4z, q50, q51, q52, q53, q54, q55, q56, q57, q58⟩ := W7q q0; have hnb43 := q0e.out; have hnc43 := q0d.out; have hnb44 := q0p.out; have hnc44 := q0o.out; obtain ⟨q59, q5a, q5b, q5c, q5d, q5e, q5f, q5g⟩ := W4q qg; have hnb46 := q0m.out; have hnc46 := q0n.out; obtain ⟨q5h, q5i, q5j, q5k, q5l, q5m, q5n, q5o, q5p, q5q, q5r, q5s, q5t, q5u⟩ := W7q q1; obtain ⟨q5v, q5w, q5x, q5y, q5z, q60, q61, q62, q63, q64, q65, q66, q67, q68⟩ := W7q q7
     go_wp2
     refine bodyPost_ret (results_cell_row rfl _ _ ql 61 #[.bool qi, .int .i64 qf, .int .u64 q8, .int .u64 q9, .int .u64 qa, .int .u64 qb, .bool qj] (0, 0) _ rfl (kF q7) Try.underlying61 rfl (by kernel_rfl)) rfl ?_; exact ⟨by first | rfl | (simp [errW_none, errW_some] <;> rfl) | (simp [*, errW_none, errW_some] <;> rfl), by repeat (first | (with_reducible first | exact HB.out | apply below_alloc | apply pw_below_drewN | apply below_drew1 | refine below_set ?_ qk.out | refine below_set ?_ qm.out | refine below_set ?_ qw.out | refine below_set ?_ q06.out) | exact HB.out)⟩
   rw [if_neg c38] at H
   have q3g : (q2 == 0 && (q3 == 0 && (q4 == 0 && (q5 == 0)))) = false := by simpa using c38
   (try (have q3h : decide (q2 = 0 && (q3 == 0 && (q4 == 0 && (q5 == 0)))) = false := by simpa using c38))
   (try (have q3i : (q2 == 0 && (q3 == 0 && (q4 == 0 && (q5 == 0)))) = false := by simpa using c38))
   (try (have c38b3 : ¬ (q2 = 0 && (q3 == 0 && (q4 == 0 && (q5 == 0)))) := by simpa using c38))
   clear c38
   by_cases c49 : (q8 == 0 && (q9 == 0 && (qa == 0 && (qb == 0)))) = true
   · rw [if_pos c49] at H
     have q3j : (q8 == 0 && (q9 == 0 && (qa == 0 && (qb == 0)))) = true := c49
     (try (have q3k : decide (q8 = 0 && (q9 == 0 && (qa == 0 && (qb == 0)))) = true := by simpa using c49))
     (try (have q3l : (q8 == 0 && (q9 == 0 && (qa == 0 && (qb == 0)))) = true := by simpa using c49))
     clear c49
     simp only [Option.some.injEq, Prod.mk.injEq] at H
     obtain ⟨rfl, rfl, rfl, rfl, rfl, rfl, rfl⟩ := H; have hnb50 := q07.out; have hnc50 := q08.out; have hnb51 := q09.out; have hnc51 := q0a.out; have hnb52 := q0b.out; have hnc52 := q0c.out; obtain ⟨q69, q6a, q6b, q6c, q6d, q6e, q6f, q6g, q6h, q6i, q6j, q6k, q6l, q6m⟩ := W7q q0; have hnb54 := q0e.out; have hnc54 := q0d.out; have hnb55 := q0p.out; have hnc55 := q0o.out; obtain ⟨q6n, q6o, q6p, q6q, q6r, q6s, q6t, q6u⟩ := W4q qg; have hnb57 := q0m.out; have hnc57 := q0n.out; obtain ⟨q6v, q6w, q6x, q6y, q6z, q70, q71, q72, q73, q74, q75, q76, q77, q78⟩ := W7q q1; obtain ⟨q79, q7a, q7b, q7c, q7d, q7e, q7f, q7g, q7h, q7i, q7j, q7k, q7l, q7m⟩ := W7q q7
     go_wp2
     refine bodyPost_ret (results_cell_row rfl _ _ ql 61 #[.bool qe, .int .i64 qd, .int .u64 q2, .int .u64 q3, .int .u64 q4, .int .u64 q5, .bool qh] (0, 0) _ rfl (kF q7) Try.underlying61 rfl (by kernel_rfl)) rfl ?_; exact ⟨by first | rfl | (simp [errW_none, errW_some] <;> rfl) | (simp [*, errW_none, errW_some] <;> rfl), by repeat (first | (with_reducible first | exact HB.out | apply below_alloc | apply pw_below_drewN | apply below_drew1 | refine below_set ?_ qk.out | refine below_set ?_ qm.out | refine below_set ?_ qw.out | refine below_set ?_ q06.out) | exact HB.out)⟩
   rw [if_neg c49] at H
   have q3j : (q8 == 0 && (q9 == 0 && (qa == 0 && (qb == 0)))) = false := by simpa using c49
   (try (have q3k : decide (q8 = 0 && (q9 == 0 && (qa == 0 && (qb == 0)))) = false := by simpa using c49))
   (try (have q3l : (q8 == 0 && (q9 == 0 && (qa == 0 && (qb == 0)))) = false := by simpa using c49))
   (try (have c49b3 : ¬ (q8 = 0 && (q9 == 0 && (qa == 0 && (qb == 0)))) := by simpa using c49))
   clear c49; have q1a := Aside0.mk H; clear H; have hnb61 := q07.out; have hnc61 := q08.out; have hnb62 := q09.out; have hnc62 := q0a.out; have hnb63 := q0b.out; have hnc63 := q0c.out; obtain ⟨q7n, q7o, q7p, q7q, q7r, q7s, q7t, q7u, q7v, q7w, q7x, q7y, q7z, q80⟩ := W7q q0; have hnb65 := q0e.out; have hnc65 := q0d.out; have hnb66 := q0p.out; have hnc66 := q0o.out; obtain ⟨q81, q82, q83, q84, q85, q86, q87, q88⟩ := W4q qg; have hnb68 := q0m.out; have hnc68 := q0n.out; obtain ⟨q89, q8a, q8b, q8c, q8d, q8e, q8f, q8g, q8h, q8i, q8j, q8k, q8l, q8m⟩ := W7q q1
   go_upto_if 41 with (fail)
   go_cut [] (fun wc => ∃ (kq : Nat) (qy : Bool) (qn : Int) (qo : Int) (qp : Int) (qq : Int) (qr : Int) (qz : Bool) (q00 : Bool) (qs : Int) (q01 : Int) (q02 : Int) (q03 : Int) (q04 : Int) (q05 : Bool), Aside0 (sums_join.j1 kq a2 qy qn qo qp qq qr qz q00 qs q01 q02 q03 q04 q05 = some (r1, r2, r3, r4, r5, r6, r7)) ∧ Aside0 (kq ≤ kj3) ∧ Aside0 (wc.heap[q6]? = some (.cells #[.bool qy, .int .i64 qn, .int .u64 qo, .int .u64 qp, .int .u64 qq, .int .u64 qr, .bool qz] 61 (0, 0))) ∧ Aside0 (wc.heap[qc]? = some (.cells #[.bool q00, .int .i64 qs, .int .u64 q01, .int .u64 q02, .int .u64 q03, .int .u64 q04, .bool q05] 61 (0, 0))) ∧ Aside0 (wc.heap[ql]? = some (.cells #[.bool false, .int .i64 0, .int .u64 0, .int .u64 0, .int .u64 0, .int .u64 0, .bool false] 61 (0, 0))) ∧ Aside0 (wc.heap[qx]? = some (.cells #[.int .u64 0, .int .u64 0, .int .u64 0, .int .u64 0] 58 (0, 0))) ∧ Aside0 (Below w.heap.size w wc))
   case first =>
    have H := q1a.out; clear q1a
    by_cases c70 : qd < qf
    · rw [if_pos c70] at H
      have q0z : decide (qd < qf) = true := decide_eq_true c70; clear c70
      (first | rw [q0z] | (simp only [i64_w, i32_w]; rw [q0z]) | skip)
      have H' := Aside0.mk H; clear H; have hnb71 := q08.out; have hnc71 := q07.out; have hnb72 := q0m.out; have hnc72 := q0n.out; have hnb73 := q0d.out; have hnc73 := q0e.out; obtain ⟨q8n, q8o, q8p, q8q, q8r, q8s, q8t, q8u, q8v, q8w, q8x, q8y, q8z, q90⟩ := W7q q1; have hnb75 := q09.out; have hnc75 := q0a.out; have hnb76 := q0b.out; have hnc76 := q0c.out; obtain ⟨q91, q92, q93, q94, q95, q96, q97, q98, q99, q9a, q9b, q9c, q9d, q9e⟩ := W7q q0
      go_wp2
      go_meet
      case rel => exact ⟨_, (qi), (qf), (q8), (q9), (qa), (qb), (qj), (qe), (qd), (q2), (q3), (q4), (q5), (qh), (by first | exact H' | (subst_vars; exact H')), ⟨by have := HJ3.out; first | omega | exact Nat.le_refl _⟩, ⟨kF q0⟩, ⟨kF q1⟩, ⟨kF q7⟩, ⟨kF qg⟩, ⟨by repeat (first | (with_reducible first | exact HB.out | apply below_alloc | apply pw_below_drewN | apply below_drew1 | refine below_set ?_ qk.out | refine below_set ?_ qm.out | refine below_set ?_ qw.out | refine below_set ?_ q06.out) | exact HB.out)⟩⟩
    rw [if_neg c70] at H
    have q0z : decide (qd < qf) = false := decide_eq_false c70; clear c70
    (first | rw [q0z] | (simp only [i64_w, i32_w]; rw [q0z]) | skip)
    have H' := Aside0.mk H; clear H
    go_wp2
    go_meet
    case rel => exact ⟨_, (qe), (qd), (q2), (q3), (q4), (q5), (qh), (qi), (qf), (q8), (q9), (qa), (qb), (qj), (by first | exact H' | (subst_vars; exact H')), ⟨by have := HJ3.out; first | omega | exact Nat.le_refl _⟩, ⟨kB q0⟩, ⟨kB q1⟩, ⟨kB q7⟩, ⟨kB qg⟩, ⟨by repeat (first | (with_reducible first | exact HB.out | apply below_alloc | apply pw_below_drewN | apply below_drew1 | refine below_set ?_ qk.out | refine below_set ?_ qm.out | refine below_set ?_ qw.out | refine below_set ?_ q06.out) | exact HB.out)⟩⟩
   case rest =>
    clear q1a; (try clear c1); (try clear c2); (try clear p2); (try clear c3); (try clear c4); (try clear c5); (try clear c6); (try clear p6); (try clear c7); (try clear c8); (try clear c9); (try clear q0w); (try clear q11); (try clear q12); (try clear c10); (try clear c11); (try clear c12); (try clear c14); (try clear c15); (try clear c17); (try clear c19); (try clear c20); (try clear c21); (try clear c23); (try clear c24); (try clear c26); (try clear c28); (try clear c29); (try clear c30); (try clear c32); (try clear c33); (try clear c36); (try clear c38); (try clear q3g); (try clear q3h); (try clear q3i); (try clear c39); (try clear c40); (try clear c41); (try clear c43); (try clear c44); (try clear c46); (try clear c49); (try clear q3j); (try clear q3k); (try clear q3l); (try clear c50); (try clear c51); (try clear c52); (try clear c54); (try clear c55); (try clear c57); (try clear c61); (try clear c62); (try clear c63); (try clear p64); (try clear c65); (try clear c66); (try clear c68); (try clear c70); (try clear q0z); (try clear c71); (try clear c72); (try clear c73); (try clear c75); (try clear c76); (try clear q1t q1u q1v q1w q1x q1y q1z); (try clear q27 q28 q29 q2a); (try clear q2f q2g q2h q2i q2j q2k q2l); (try clear q2t q2u q2v q2w q2x q2y q2z); (try clear q37 q38 q39 q3a); (try clear q3p q3q q3r q3s q3t q3u q3v); (try clear q43 q44 q45 q46 q47 q48 q49); (try clear q4h q4i q4j q4k q4l q4m q4n); (try clear q4v q4w q4x q4y q4z q50 q51); (try clear q59 q5a q5b q5c); (try clear q5h q5i q5j q5k q5l q5m q5n); (try clear q5v q5w q5x q5y q5z q60 q61); (try clear q69 q6a q6b q6c q6d q6e q6f); (try clear q6n q6o q6p q6q); (try clear q6v q6w q6x q6y q6z q70 q71); (try clear q79 q7a q7b q7c q7d q7e q7f); (try clear q7n q7o q7p q7q q7r q7s q7t); (try clear q81 q82 q83 q84); (try clear q89 q8a q8b q8c q8d q8e q8f); (try clear q8n q8o q8p q8q q8r q8s q8t); (try clear q91 q92 q93 q94 q95 q96 q97); (try clear q20 q21 q22 q23 q24 q25 q26); (try clear q2b q2c q2d q2e); (try clear q2m q2n q2o q2p q2q q2r q2s); (try clear q30 q31 q32 q33 q34 q35 q36); (try clear q3b q3c q3d q3e); (try clear q3w q3x q3y q3z q40 q41 q42); (try clear q4a q4b q4c q4d q4e q4f q4g); (try clear q4o q4p q4q q4r q4s q4t q4u); (try clear q52 q53 q54 q55 q56 q57 q58); (try clear q5d q5e q5f q5g); (try clear q5o q5p q5q q5r q5s q5t q5u); (try clear q62 q63 q64 q65 q66 q67 q68); (try clear q6g q6h q6i q6j q6k q6l q6m); (try clear q6r q6s q6t q6u); (try clear q72 q73 q74 q75 q76 q77 q78); (try clear q7g q7h q7i q7j q7k q7l q7m); (try clear q7u q7v q7w q7x q7y q7z q80); (try clear q85 q86 q87 q88); (try clear q8g q8h q8i q8j q8k q8l q8m); (try clear q8u q8v q8w q8x q8y q8z q90); (try clear q98 q99 q9a q9b q9c q9d q9e); (try clear p2); (try clear p6); obtain ⟨kq, qy, qn, qo, qp, qq, qr, qz, q00, qs, q01, q02, q03, q04, q05, HA, HJ59, q0, q1, q7, qg, HB⟩ := hcut
    cases kq with
    | zero => exact absurd HA.out (by simp [sums_join.j1])
    | succ kj59 =>
     have H := HA.out; clear HA
     simp only [sums_join.j1] at H
     replace H := Option.bind_eq_some_iff.mp H; obtain ⟨q0l, q3m, H⟩ := H; replace H : (if (wrap64 ((wrap64 (q0l + qn)) - qs)) < 250 then ((sums_aligned.f qy qn qo qp qq qr qz q00 qs q01 q02 q03 q04 q05 a2).bind fun qu => (some (qu.1, qu.2.1, qu.2.2.1, qu.2.2.2.1, qu.2.2.2.2.1, qu.2.2.2.2.2.1, qu.2.2.2.2.2.2))) else ((sums_beside.f qy qn qo qp qq qr qz q00 qs q01 q02 q03 q04 q05).bind fun qv => (some (qv.1, qv.2.1, qv.2.2.1, qv.2.2.2.1, qv.2.2.2.2.1, qv.2.2.2.2.2.1, qv.2.2.2.2.2.2)))) = some (r1, r2, r3, r4, r5, r6, r7) := H; have A78 := Aside0.mk q3m; clear q3m
     by_cases c79 : (wrap64 ((wrap64 (q0l + qn)) - qs)) < 250
     · rw [if_pos c79] at H
       have q9f : decide ((wrap64 ((wrap64 (q0l + qn)) - qs)) < 250) = true := decide_eq_true c79; clear c79; replace H := Option.bind_eq_some_iff.mp H; obtain ⟨⟨q1b, q1c, q1d, q1e, q1f, q1g, q1h⟩, q3n, H⟩ := H; replace H : (some (q1b, q1c, q1d, q1e, q1f, q1g, q1h)) = some (r1, r2, r3, r4, r5, r6, r7) := H; have A80 := Aside0.mk q3n; clear q3n
       simp only [Option.some.injEq, Prod.mk.injEq] at H
       obtain ⟨rfl, rfl, rfl, rfl, rfl, rfl, rfl⟩ := H
       try go_wp2
       replace q0 := Aside0.mk (blk_drew q0.out); replace q1 := Aside0.mk (blk_drew q1.out); replace q7 := Aside0.mk (blk_drew q7.out); replace qg := Aside0.mk (blk_drew qg.out); replace HB := Aside0.mk (below_drew1 HB.out); refine start_ (n := 10) (S := fun w' => w'.cell? ⟨q6, 0, none⟩ = some (.bool qy) ∧ w'.cell? ⟨q6, 1, none⟩ = some (.int .i64 qn) ∧ w'.cell? ⟨q6, 2, none⟩ = some (.int .u64 qo) ∧ w'.cell? ⟨q6, 3, none⟩ = some (.int .u64 qp) ∧ w'.cell? ⟨q6, 4, none⟩ = some (.int .u64 qq) ∧ w'.cell? ⟨q6, 5, none⟩ = some (.int .u64 qr) ∧ w'.cell? ⟨q6, 6, none⟩ = some (.bool qz) ∧ w'.cell? ⟨qc, 0, none⟩ = some (.bool q00) ∧ w'.cell? ⟨qc, 1, none⟩ = some (.int .i64 qs) ∧ w'.cell? ⟨qc, 2, none⟩ = some (.int .u64 q01) ∧ w'.cell? ⟨qc, 3, none⟩ = some (.int .u64 q02) ∧ w'.cell? ⟨qc, 4, none⟩ = some (.int .u64 q03) ∧ w'.cell? ⟨qc, 5, none⟩ = some (.int .u64 q04) ∧ w'.cell? ⟨qc, 6, none⟩ = some (.bool q05)) (ds := []) #[false, false, false, false, false, false, false, false, false, false] (by kernel_rfl) rfl rfl ⟨bc q0 0, bc q0 1, bc q0 2, bc q0 3, bc q0 4, bc q0 5, bc q0 6, bc q1 0, bc q1 1, bc q1 2, bc q1 3, bc q1 4, bc q1 5, bc q1 6⟩ (fun hHeld => ?_); refine with_tabW sums_join.tab10 sums_join.bits10 (fun HT_ HW_ => ?_)
       generalize wc.drew = w81 at q0 q1 q7 qg HB hHeld ⊢
       refine pure_ (i := 0) (N := some 44) (v := ?_) (a' := ?_) #[true, false, false, false, false, false, false, false, false, false] rfl rfl (any_of HT_.out (by kernel_rfl)) (fun _ _ _ h => h) (Or.inl ⟨by rfl, ?_⟩) ?_ ?_; rotate_left
       · intro w'
         go_simp
         with_reducible rfl
       rotate_left
       · exact APq
       refine pure_ (i := 3) (N := some 47) (v := ?_) (a' := ?_) #[true, false, false, true, false, false, false, false, false, false] rfl rfl (any_of HT_.out (by kernel_rfl)) (fun _ _ _ h => h) (Or.inl ⟨by rfl, ?_⟩) ?_ ?_; rotate_left
       · intro w'
         go_simp
         with_reducible rfl
       rotate_left
       · exact APq
       refine pure_ (i := 6) (N := some 50) (v := ?_) (a' := ?_) #[true, false, false, true, false, false, true, false, false, false] rfl rfl (any_of HT_.out (by kernel_rfl)) (fun _ _ _ h => h) (Or.inl ⟨by rfl, ?_⟩) ?_ ?_; rotate_left
       · intro w'
         go_simp
         with_reducible rfl
       rotate_left
       · exact APq
       refine take_ (i := 1) (N := some 45) (v := ?_) (a' := ?_) #[true, true, false, true, false, false, true, false, false, false] rfl rfl (take_ofW HT_.out HW_.out (by kernel_rfl)) (fun _ _ _ h => h) (Or.inl ⟨by rfl, ?_⟩) hHeld ?_ ?_; rotate_left
       · rintro w' ⟨s0, s1, s2, s3, s4, s5, s6, s7, s8, s9, s10, s11, s12, s13⟩
         go_simp
         with_reducible rfl
       rotate_left
       · exact APq
       refine take_ (i := 4) (N := some 48) (v := ?_) (a' := ?_) #[true, true, false, true, true, false, true, false, false, false] rfl rfl (take_ofW HT_.out HW_.out (by kernel_rfl)) (fun _ _ _ h => h) (Or.inl ⟨by rfl, ?_⟩) hHeld ?_ ?_; rotate_left
       · rintro w' ⟨s0, s1, s2, s3, s4, s5, s6, s7, s8, s9, s10, s11, s12, s13⟩
         go_simp
         with_reducible rfl
       rotate_left
       · exact APq
       refine take_ (i := 7) (N := some 51) (v := ?_) (a' := ?_) #[true, true, false, true, true, false, true, true, false, false] rfl rfl (take_ofW HT_.out HW_.out (by kernel_rfl)) (fun _ _ _ h => h) (Or.inl ⟨by rfl, ?_⟩) hHeld ?_ ?_; rotate_left
       · rintro w' ⟨s0, s1, s2, s3, s4, s5, s6, s7, s8, s9, s10, s11, s12, s13⟩
         go_simp
         with_reducible rfl
       rotate_left
       · exact APq
       refine one_ (i := 2) (N := some 46) #[true, true, true, true, true, false, true, true, false, false] rfl rfl (one_of HT_.out (by kernel_rfl)) (by decide) (fun K hK => ?_); refine goes_ Try.func62 (by kernel_rfl) rfl #[.agg #[.int .u64 qo, .int .u64 qp, .int .u64 qq, .int .u64 qr]] (by rfl) rfl rfl LMq ?_
       with_reducible refine (wide_Len.calls qo qp qq qr q0l _ A78.out).mono ?_
       rintro e w82 ⟨rfl, hb⟩; refine ⟨_, rfl, ?_⟩; replace q0 := Aside0.mk (blk_below q0.out hb); replace q1 := Aside0.mk (blk_below q1.out hb); replace q7 := Aside0.mk (blk_below q7.out hb); replace qg := Aside0.mk (blk_below qg.out hb); replace HB := Aside0.mk (below_step HB.out hb)
       (try clear hb)
       (try clear hb2)
       (try clear hk)
       (try clear hi)
       refine hK.out _ _ ⟨bc q0 0, bc q0 1, bc q0 2, bc q0 3, bc q0 4, bc q0 5, bc q0 6, bc q1 0, bc q1 1, bc q1 2, bc q1 3, bc q1 4, bc q1 5, bc q1 6⟩ (fun hHeld => ?_); clear hK K; refine norm_ (a' := ?_) ?_ ?_; rotate_left
       · show Act.put _ (some 46) _ = _
         exact APq
       refine pure_ (i := 5) (N := some 49) (v := ?_) (a' := ?_) #[true, true, true, true, true, true, true, true, false, false] rfl rfl (any_of HT_.out (by kernel_rfl)) (fun _ _ _ h => h) (Or.inl ⟨by rfl, ?_⟩) ?_ ?_; rotate_left
       · intro w'
         go_simp
         with_reducible rfl
       rotate_left
       · exact APq
       refine pure_ (i := 8) (N := some 52) (v := ?_) (a' := ?_) #[true, true, true, true, true, true, true, true, true, false] rfl rfl (any_of HT_.out (by kernel_rfl)) (fun _ _ _ h => h) (Or.inl ⟨by rfl, ?_⟩) ?_ ?_; rotate_left
       · intro w'
         go_simp
         with_reducible rfl
       rotate_left
       · exact APq
       refine pure_ (i := 9) (N := some 53) (v := ?_) (a' := ?_) #[true, true, true, true, true, true, true, true, true, true] rfl rfl (any_of HT_.out (by kernel_rfl)) (fun _ _ _ h => h) (Or.inl ⟨by rfl, ?_⟩) ?_ ?_; rotate_left
       · intro w'
         go_simp
         with_reducible rfl
       rotate_left
       · exact APq
       refine done_ (done_of HT_.out (by kernel_rfl)) ?_; have hnb83 := q07.out; have hnc83 := q08.out; have hnb84 := q09.out; have hnc84 := q0a.out; have hnb85 := q0b.out; have hnc85 := q0c.out; obtain ⟨_, _, _, _, _, _, _, _, _, _, _, _, _, _⟩ := W7q q0; have hnb87 := q0m.out; have hnc87 := q0n.out; have hnb88 := q0d.out; have hnc88 := q0e.out; obtain ⟨_, _, _, _, _, _, _, _, _, _, _, _, _, _⟩ := W7q q1
       try go_wp2_with (first | ((with_reducible refine gate_callee (f := 95) rfl ?_); refine goesL_ (some 57) rfl rfl Try.func95 (by kernel_rfl) rfl #[.agg #[.bool qy, .int .i64 qn, .int .u64 qo, .int .u64 qp, .int .u64 qq, .int .u64 qr, .bool qz], .agg #[.bool q00, .int .i64 qs, .int .u64 q01, .int .u64 q02, .int .u64 q03, .int .u64 q04, .bool q05], .int .i64 a2] rfl LMq ?_; (with_reducible refine (sums_aligned.calls qy qn qo qp qq qr qz q00 qs q01 q02 q03 q04 q05 a2 q1b q1c q1d q1e q1f q1g q1h _ A80.out).mono ?_); rintro e w90 ⟨rfl, hb⟩; refine ⟨_, rfl, ?_⟩; replace q0 := Aside0.mk (blk_below (g := q6) (o := .cells #[.bool qy, .int .i64 qn, .int .u64 qo, .int .u64 qp, .int .u64 qq, .int .u64 qr, .bool qz] 61 (0, 0)) (kB q0) hb); replace q1 := Aside0.mk (blk_below (g := qc) (o := .cells #[.bool q00, .int .i64 qs, .int .u64 q01, .int .u64 q02, .int .u64 q03, .int .u64 q04, .bool q05] 61 (0, 0)) (kB q1) hb); replace q7 := Aside0.mk (blk_below (g := ql) (o := .cells #[.bool false, .int .i64 0, .int .u64 0, .int .u64 0, .int .u64 0, .int .u64 0, .bool false] 61 (0, 0)) (kB q7) hb); replace qg := Aside0.mk (blk_below (g := qx) (o := .cells #[.int .u64 0, .int .u64 0, .int .u64 0, .int .u64 0] 58 (0, 0)) (kB qg) hb); replace HB := Aside0.mk (below_step (by repeat (first | (with_reducible first | exact HB.out | apply below_alloc | apply pw_below_drewN | apply below_drew1 | refine below_set ?_ qk.out | refine below_set ?_ qm.out | refine below_set ?_ qw.out | refine below_set ?_ q06.out) | exact HB.out)) hb); (try clear hb); (try clear hb2); (try clear hk); (try clear hi); have hnb91 := q0o.out; have hnc91 := q0p.out; obtain ⟨_, _, _, _, _, _, _, _, _, _, _, _, _, _⟩ := W7q q7))
       refine bodyPost_ret (results_cell_row rfl _ _ ql 61 #[.bool q1b, .int .i64 q1c, .int .u64 q1d, .int .u64 q1e, .int .u64 q1f, .int .u64 q1g, .bool q1h] (0, 0) _ rfl (kF q7) Try.underlying61 rfl (by kernel_rfl)) rfl ?_; exact ⟨by first | rfl | (simp [errW_none, errW_some] <;> rfl) | (simp [*, errW_none, errW_some] <;> rfl), by repeat (first | (with_reducible first | exact HB.out | apply below_alloc | apply pw_below_drewN | apply below_drew1 | refine below_set ?_ qk.out | refine below_set ?_ qm.out | refine below_set ?_ qw.out | refine below_set ?_ q06.out) | exact HB.out)⟩
     rw [if_neg c79] at H
     have q9f : decide ((wrap64 ((wrap64 (q0l + qn)) - qs)) < 250) = false := decide_eq_false c79; clear c79; replace H := Option.bind_eq_some_iff.mp H; obtain ⟨⟨q1i, q1j, q1k, q1l, q1m, q1n, q1o⟩, q3o, H⟩ := H; replace H : (some (q1i, q1j, q1k, q1l, q1m, q1n, q1o)) = some (r1, r2, r3, r4, r5, r6, r7) := H; have A93 := Aside0.mk q3o; clear q3o
     simp only [Option.some.injEq, Prod.mk.injEq] at H
     obtain ⟨rfl, rfl, rfl, rfl, rfl, rfl, rfl⟩ := H
     try go_wp2
     replace q0 := Aside0.mk (blk_drew q0.out); replace q1 := Aside0.mk (blk_drew q1.out); replace q7 := Aside0.mk (blk_drew q7.out); replace qg := Aside0.mk (blk_drew qg.out); replace HB := Aside0.mk (below_drew1 HB.out); refine start_ (n := 10) (S := fun w' => w'.cell? ⟨q6, 0, none⟩ = some (.bool qy) ∧ w'.cell? ⟨q6, 1, none⟩ = some (.int .i64 qn) ∧ w'.cell? ⟨q6, 2, none⟩ = some (.int .u64 qo) ∧ w'.cell? ⟨q6, 3, none⟩ = some (.int .u64 qp) ∧ w'.cell? ⟨q6, 4, none⟩ = some (.int .u64 qq) ∧ w'.cell? ⟨q6, 5, none⟩ = some (.int .u64 qr) ∧ w'.cell? ⟨q6, 6, none⟩ = some (.bool qz) ∧ w'.cell? ⟨qc, 0, none⟩ = some (.bool q00) ∧ w'.cell? ⟨qc, 1, none⟩ = some (.int .i64 qs) ∧ w'.cell? ⟨qc, 2, none⟩ = some (.int .u64 q01) ∧ w'.cell? ⟨qc, 3, none⟩ = some (.int .u64 q02) ∧ w'.cell? ⟨qc, 4, none⟩ = some (.int .u64 q03) ∧ w'.cell? ⟨qc, 5, none⟩ = some (.int .u64 q04) ∧ w'.cell? ⟨qc, 6, none⟩ = some (.bool q05)) (ds := []) #[false, false, false, false, false, false, false, false, false, false] (by kernel_rfl) rfl rfl ⟨bc q0 0, bc q0 1, bc q0 2, bc q0 3, bc q0 4, bc q0 5, bc q0 6, bc q1 0, bc q1 1, bc q1 2, bc q1 3, bc q1 4, bc q1 5, bc q1 6⟩ (fun hHeld => ?_); refine with_tabW sums_join.tab10 sums_join.bits10 (fun HT_ HW_ => ?_)
     generalize wc.drew = w94 at q0 q1 q7 qg HB hHeld ⊢
     refine pure_ (i := 0) (N := some 44) (v := ?_) (a' := ?_) #[true, false, false, false, false, false, false, false, false, false] rfl rfl (any_of HT_.out (by kernel_rfl)) (fun _ _ _ h => h) (Or.inl ⟨by rfl, ?_⟩) ?_ ?_; rotate_left
     · intro w'
       go_simp
       with_reducible rfl
     rotate_left
     · exact APq
     refine pure_ (i := 3) (N := some 47) (v := ?_) (a' := ?_) #[true, false, false, true, false, false, false, false, false, false] rfl rfl (any_of HT_.out (by kernel_rfl)) (fun _ _ _ h => h) (Or.inl ⟨by rfl, ?_⟩) ?_ ?_; rotate_left
     · intro w'
       go_simp
       with_reducible rfl
     rotate_left
     · exact APq
     refine pure_ (i := 6) (N := some 50) (v := ?_) (a' := ?_) #[true, false, false, true, false, false, true, false, false, false] rfl rfl (any_of HT_.out (by kernel_rfl)) (fun _ _ _ h => h) (Or.inl ⟨by rfl, ?_⟩) ?_ ?_; rotate_left
     · intro w'
       go_simp
       with_reducible rfl
     rotate_left
     · exact APq
     refine take_ (i := 1) (N := some 45) (v := ?_) (a' := ?_) #[true, true, false, true, false, false, true, false, false, false] rfl rfl (take_ofW HT_.out HW_.out (by kernel_rfl)) (fun _ _ _ h => h) (Or.inl ⟨by rfl, ?_⟩) hHeld ?_ ?_; rotate_left
     · rintro w' ⟨s0, s1, s2, s3, s4, s5, s6, s7, s8, s9, s10, s11, s12, s13⟩
       go_simp
       with_reducible rfl
     rotate_left
     · exact APq
     refine take_ (i := 4) (N := some 48) (v := ?_) (a' := ?_) #[true, true, false, true, true, false, true, false, false, false] rfl rfl (take_ofW HT_.out HW_.out (by kernel_rfl)) (fun _ _ _ h => h) (Or.inl ⟨by rfl, ?_⟩) hHeld ?_ ?_; rotate_left
     · rintro w' ⟨s0, s1, s2, s3, s4, s5, s6, s7, s8, s9, s10, s11, s12, s13⟩
       go_simp
       with_reducible rfl
     rotate_left
     · exact APq
     refine take_ (i := 7) (N := some 51) (v := ?_) (a' := ?_) #[true, true, false, true, true, false, true, true, false, false] rfl rfl (take_ofW HT_.out HW_.out (by kernel_rfl)) (fun _ _ _ h => h) (Or.inl ⟨by rfl, ?_⟩) hHeld ?_ ?_; rotate_left
     · rintro w' ⟨s0, s1, s2, s3, s4, s5, s6, s7, s8, s9, s10, s11, s12, s13⟩
       go_simp
       with_reducible rfl
     rotate_left
     · exact APq
     refine one_ (i := 2) (N := some 46) #[true, true, true, true, true, false, true, true, false, false] rfl rfl (one_of HT_.out (by kernel_rfl)) (by decide) (fun K hK => ?_); refine goes_ Try.func62 (by kernel_rfl) rfl #[.agg #[.int .u64 qo, .int .u64 qp, .int .u64 qq, .int .u64 qr]] (by rfl) rfl rfl LMq ?_
     with_reducible refine (wide_Len.calls qo qp qq qr q0l _ A78.out).mono ?_
     rintro e w95 ⟨rfl, hb⟩; refine ⟨_, rfl, ?_⟩; replace q0 := Aside0.mk (blk_below q0.out hb); replace q1 := Aside0.mk (blk_below q1.out hb); replace q7 := Aside0.mk (blk_below q7.out hb); replace qg := Aside0.mk (blk_below qg.out hb); replace HB := Aside0.mk (below_step HB.out hb)
     (try clear hb)
     (try clear hb2)
     (try clear hk)
     (try clear hi)
     refine hK.out _ _ ⟨bc q0 0, bc q0 1, bc q0 2, bc q0 3, bc q0 4, bc q0 5, bc q0 6, bc q1 0, bc q1 1, bc q1 2, bc q1 3, bc q1 4, bc q1 5, bc q1 6⟩ (fun hHeld => ?_); clear hK K; refine norm_ (a' := ?_) ?_ ?_; rotate_left
     · show Act.put _ (some 46) _ = _
       exact APq
     refine pure_ (i := 5) (N := some 49) (v := ?_) (a' := ?_) #[true, true, true, true, true, true, true, true, false, false] rfl rfl (any_of HT_.out (by kernel_rfl)) (fun _ _ _ h => h) (Or.inl ⟨by rfl, ?_⟩) ?_ ?_; rotate_left
     · intro w'
       go_simp
       with_reducible rfl
     rotate_left
     · exact APq
     refine pure_ (i := 8) (N := some 52) (v := ?_) (a' := ?_) #[true, true, true, true, true, true, true, true, true, false] rfl rfl (any_of HT_.out (by kernel_rfl)) (fun _ _ _ h => h) (Or.inl ⟨by rfl, ?_⟩) ?_ ?_; rotate_left
     · intro w'
       go_simp
       with_reducible rfl
     rotate_left
     · exact APq
     refine pure_ (i := 9) (N := some 53) (v := ?_) (a' := ?_) #[true, true, true, true, true, true, true, true, true, true] rfl rfl (any_of HT_.out (by kernel_rfl)) (fun _ _ _ h => h) (Or.inl ⟨by rfl, ?_⟩) ?_ ?_; rotate_left
     · intro w'
       go_simp
       with_reducible rfl
     rotate_left
     · exact APq
     refine done_ (done_of HT_.out (by kernel_rfl)) ?_; have hnb96 := q07.out; have hnc96 := q08.out; have hnb97 := q09.out; have hnc97 := q0a.out; have hnb98 := q0b.out; have hnc98 := q0c.out; obtain ⟨_, _, _, _, _, _, _, _, _, _, _, _, _, _⟩ := W7q q0; have hnb100 := q0m.out; have hnc100 := q0n.out; have hnb101 := q0d.out; have hnc101 := q0e.out; obtain ⟨_, _, _, _, _, _, _, _, _, _, _, _, _, _⟩ := W7q q1
     try go_wp2_with (first | ((with_reducible refine gate_callee (f := 96) rfl ?_); refine goesL_ (some 60) rfl rfl Try.func96 (by kernel_rfl) rfl #[.agg #[.bool qy, .int .i64 qn, .int .u64 qo, .int .u64 qp, .int .u64 qq, .int .u64 qr, .bool qz], .agg #[.bool q00, .int .i64 qs, .int .u64 q01, .int .u64 q02, .int .u64 q03, .int .u64 q04, .bool q05]] rfl LMq ?_; (with_reducible refine (sums_beside.calls qy qn qo qp qq qr qz q00 qs q01 q02 q03 q04 q05 q1i q1j q1k q1l q1m q1n q1o _ A93.out).mono ?_); rintro e w103 ⟨rfl, hb⟩; refine ⟨_, rfl, ?_⟩; replace q0 := Aside0.mk (blk_below (g := q6) (o := .cells #[.bool qy, .int .i64 qn, .int .u64 qo, .int .u64 qp, .int .u64 qq, .int .u64 qr, .bool qz] 61 (0, 0)) (kB q0) hb); replace q1 := Aside0.mk (blk_below (g := qc) (o := .cells #[.bool q00, .int .i64 qs, .int .u64 q01, .int .u64 q02, .int .u64 q03, .int .u64 q04, .bool q05] 61 (0, 0)) (kB q1) hb); replace q7 := Aside0.mk (blk_below (g := ql) (o := .cells #[.bool false, .int .i64 0, .int .u64 0, .int .u64 0, .int .u64 0, .int .u64 0, .bool false] 61 (0, 0)) (kB q7) hb); replace qg := Aside0.mk (blk_below (g := qx) (o := .cells #[.int .u64 0, .int .u64 0, .int .u64 0, .int .u64 0] 58 (0, 0)) (kB qg) hb); replace HB := Aside0.mk (below_step (by repeat (first | (with_reducible first | exact HB.out | apply below_alloc | apply pw_below_drewN | apply below_drew1 | refine below_set ?_ qk.out | refine below_set ?_ qm.out | refine below_set ?_ qw.out | refine below_set ?_ q06.out) | exact HB.out)) hb); (try clear hb); (try clear hb2); (try clear hk); (try clear hi); have hnb104 := q0o.out; have hnc104 := q0p.out; obtain ⟨_, _, _, _, _, _, _, _, _, _, _, _, _, _⟩ := W7q q7))
     refine bodyPost_ret (results_cell_row rfl _ _ ql 61 #[.bool q1i, .int .i64 q1j, .int .u64 q1k, .int .u64 q1l, .int .u64 q1m, .int .u64 q1n, .bool q1o] (0, 0) _ rfl (kF q7) Try.underlying61 rfl (by kernel_rfl)) rfl ?_; exact ⟨by first | rfl | (simp [errW_none, errW_some] <;> rfl) | (simp [*, errW_none, errW_some] <;> rfl), by repeat (first | (with_reducible first | exact HB.out | apply below_alloc | apply pw_below_drewN | apply below_drew1 | refine below_set ?_ qk.out | refine below_set ?_ qm.out | refine below_set ?_ qw.out | refine below_set ?_ q06.out) | exact HB.out)⟩
end Go.Proofs.Ytbgefpeicmbgiaa.X
