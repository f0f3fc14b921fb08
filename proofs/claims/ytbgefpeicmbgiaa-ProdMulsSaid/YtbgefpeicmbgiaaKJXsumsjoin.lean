import Derived.Test.YtbgefpeicmbgiaaKJ4
import Derived.Test.YtbgefpeicmbgiaaKJXsumsaligned
namespace Go.Proofs.Ytbgefpeicmbgiaa.X
open Go.RowKit Go.Proofs.YtbgefpeicmbgiaaW.PrintWords Go.Proofs.YtbgefpeicmbgiaaW.PrintLast Go.Proofs.YtbgefpeicmbgiaaW.PrintMore
attribute [local go_sem] max2_int min2_int max_two min_two max_three min_three max_four min_four   
set_option linter.unusedVariables false
set_option linter.unusedSimpArgs false
attribute [local go_sem high] eqA58
mutual
def sums_join.j0 : Nat → Int → Bool → Bool → Int → Int → Int → Int → Int → Bool → Bool → Int → Int → Int → Int → Int → Bool → Int → Int → Int → Int → Option (Bool × Int × Int × Int × Int × Int × Bool)
 | 0, _, _, _, _, _, _, _, _, _, _, _, _, _, _, _, _, _, _, _, _ => none
 | k + 1, x2, x8, q0w, q0j, q0k, q0l, q0m, q0n, q15, q0x, q0o, q0y, q0z, q10, q11, q16, q1h, q1i, q1j, q1k => if x8 = true then ((sums_nought.f q0w q0x x2).bind fun qn => (some (qn.1, qn.2.1, qn.2.2.1, qn.2.2.2.1, qn.2.2.2.2.1, qn.2.2.2.2.2.1, qn.2.2.2.2.2.2))) else (if (q0k == q1h && (q0l == q1i && (q0m == q1j && (q0n == q1k)))) = true then (some (q0x, q0o, q0y, q0z, q10, q11, q16)) else (if (q0y == q1h && (q0z == q1i && (q10 == q1j && (q11 == q1k)))) = true then (some (q0w, q0j, q0k, q0l, q0m, q0n, q15)) else (if q0j < q0o then (sums_join.j1 k x2 q0x q0o q0y q0z q10 q11 q16 q0w q0j q0k q0l q0m q0n q15) else (sums_join.j1 k x2 q0w q0j q0k q0l q0m q0n q15 q0x q0o q0y q0z q10 q11 q16))))
def sums_join.j1 : Nat → Int → Bool → Int → Int → Int → Int → Int → Bool → Bool → Int → Int → Int → Int → Int → Bool → Option (Bool × Int × Int × Int × Int × Int × Bool)
 | 0, _, _, _, _, _, _, _, _, _, _, _, _, _, _, _ => none
 | k + 1, x2, q0w, q0j, q0k, q0l, q0m, q0n, q15, q0x, q0o, q0y, q0z, q10, q11, q16 => (wide_Len.f q0k q0l q0m q0n).bind fun q0p => (if (wrap64 ((wrap64 (q0p + q0j)) - q0o)) < 250 then ((sums_aligned.f q0w q0j q0k q0l q0m q0n q15 q0x q0o q0y q0z q10 q11 q16 x2).bind fun qo => (some (qo.1, qo.2.1, qo.2.2.1, qo.2.2.2.1, qo.2.2.2.2.1, qo.2.2.2.2.2.1, qo.2.2.2.2.2.2))) else (none))
end
def sums_join.f (k : Nat) (qa : Bool) (qb : Int) (q0 : Int) (q1 : Int) (q2 : Int) (q3 : Int) (qe : Bool) (qc : Bool) (qd : Int) (q5 : Int) (q6 : Int) (q7 : Int) (q9 : Int) (qf : Bool) (a2 : Int) : Option (Bool × Int × Int × Int × Int × Int × Bool) := if (q0 == 0 && (q1 == 0 && (q2 == 0 && (q3 == 0)))) = true then (sums_join.j0 k a2 (q5 == 0 && (q6 == 0 && (q7 == 0 && (q9 == 0)))) qa qb q0 q1 q2 q3 qe qc qd q5 q6 q7 q9 qf 0 0 0 0) else (sums_join.j0 k a2 false qa qb q0 q1 q2 q3 qe qc qd q5 q6 q7 q9 qf 0 0 0 0)
theorem sums_join.mono_l : ∀ k, (∀ y0 y1 y2 y3 y4 y5 y6 y7 y8 y9 y10 y11 y12 y13 y14 y15 y16 y17 y18 y19, LeO (sums_join.j0 k y0 y1 y2 y3 y4 y5 y6 y7 y8 y9 y10 y11 y12 y13 y14 y15 y16 y17 y18 y19) (sums_join.j0 (k + 1) y0 y1 y2 y3 y4 y5 y6 y7 y8 y9 y10 y11 y12 y13 y14 y15 y16 y17 y18 y19)) ∧ (∀ y0 y1 y2 y3 y4 y5 y6 y7 y8 y9 y10 y11 y12 y13 y14, LeO (sums_join.j1 k y0 y1 y2 y3 y4 y5 y6 y7 y8 y9 y10 y11 y12 y13 y14) (sums_join.j1 (k + 1) y0 y1 y2 y3 y4 y5 y6 y7 y8 y9 y10 y11 y12 y13 y14))
 | 0 => ⟨fun _ _ _ _ _ _ _ _ _ _ _ _ _ _ _ _ _ _ _ _ r h => by simp [sums_join.j0] at h, fun _ _ _ _ _ _ _ _ _ _ _ _ _ _ _ r h => by simp [sums_join.j1] at h⟩
 | k + 1 => by
  obtain ⟨ih0, ih1⟩ := sums_join.mono_l k; refine ⟨?_, ?_⟩
  · intro y0 y1 y2 y3 y4 y5 y6 y7 y8 y9 y10 y11 y12 y13 y14 y15 y16 y17 y18 y19
    unfold sums_join.j0
    repeat' first
    | (with_reducible exact ih0 _ _ _ _ _ _ _ _ _ _ _ _ _ _ _ _ _ _ _ _)
    | (with_reducible exact ih1 _ _ _ _ _ _ _ _ _ _ _ _ _ _ _)
    | (with_reducible exact LeO.refl _)
    | (with_reducible exact LeO.none _)
    | (with_reducible refine LeO.ite ?_ ?_)
    | (with_reducible refine LeO.bind ?_ (fun _ => ?_))
    | exact ih0 _ _ _ _ _ _ _ _ _ _ _ _ _ _ _ _ _ _ _ _
    | exact ih1 _ _ _ _ _ _ _ _ _ _ _ _ _ _ _
    | exact LeO.none _
    | refine LeO.ite ?_ ?_
    | refine LeO.bind ?_ (fun _ => ?_)
  intro y0 y1 y2 y3 y4 y5 y6 y7 y8 y9 y10 y11 y12 y13 y14
  unfold sums_join.j1
  repeat' first
  | (with_reducible exact ih0 _ _ _ _ _ _ _ _ _ _ _ _ _ _ _ _ _ _ _ _)
  | (with_reducible exact ih1 _ _ _ _ _ _ _ _ _ _ _ _ _ _ _)
  | (with_reducible exact LeO.refl _)
  | (with_reducible exact LeO.none _)
  | (with_reducible refine LeO.ite ?_ ?_)
  | (with_reducible refine LeO.bind ?_ (fun _ => ?_))
  | exact ih0 _ _ _ _ _ _ _ _ _ _ _ _ _ _ _ _ _ _ _ _
  | exact ih1 _ _ _ _ _ _ _ _ _ _ _ _ _ _ _
  | exact LeO.none _
  | refine LeO.ite ?_ ?_
  | refine LeO.bind ?_ (fun _ => ?_)
theorem sums_join.mono : ∀ a0 a1 a2 a3 a4 a5 a6 a7 a8 a9 a10 a11 a12 a13 a14 k, LeO (sums_join.f k a0 a1 a2 a3 a4 a5 a6 a7 a8 a9 a10 a11 a12 a13 a14) (sums_join.f (k + 1) a0 a1 a2 a3 a4 a5 a6 a7 a8 a9 a10 a11 a12 a13 a14) := by
 intro a0 a1 a2 a3 a4 a5 a6 a7 a8 a9 a10 a11 a12 a13 a14 k; obtain ⟨ih0, ih1⟩ := sums_join.mono_l k
 unfold sums_join.f
 repeat' first
  | (with_reducible exact ih0 _ _ _ _ _ _ _ _ _ _ _ _ _ _ _ _ _ _ _ _)
  | (with_reducible exact ih1 _ _ _ _ _ _ _ _ _ _ _ _ _ _ _)
  | (with_reducible exact LeO.refl _)
  | (with_reducible exact LeO.none _)
  | (with_reducible refine LeO.ite ?_ ?_)
  | (with_reducible refine LeO.bind ?_ (fun _ => ?_))
  | exact ih0 _ _ _ _ _ _ _ _ _ _ _ _ _ _ _ _ _ _ _ _
  | exact ih1 _ _ _ _ _ _ _ _ _ _ _ _ _ _ _
  | exact LeO.none _
  | refine LeO.ite ?_ ?_
  | refine LeO.bind ?_ (fun _ => ?_)
def sums_join.T10 : Bool × List (List Nat × List Nat) := (true, [([], []), ([0], [0]), ([1], [1]), ([], []), ([3], [3]), ([2, 4], [2, 4]), ([], []), ([6], [6]), ([5, 7], [5, 7]), ([8], [8])])
def sums_join.B10 : List Nat := [0, 1, 3, 0, 8, 31, 0, 64, 255, 511]
theorem sums_join.tab10 : rtab .any (opsOf Try.f82 10) = sums_join.T10 := by kernel_rfl
theorem sums_join.bits10 : waitsOk sums_join.T10.2 sums_join.B10 = true := by kernel_rfl
set_option maxHeartbeats 8000000 in
set_option maxRecDepth 100000 in
theorem sums_join.calls (k : Nat) (qa : Bool) (qb : Int) (q0 : Int) (q1 : Int) (q2 : Int) (q3 : Int) (qe : Bool) (qc : Bool) (qd : Int) (q5 : Int) (q6 : Int) (q7 : Int) (q9 : Int) (qf : Bool) (a2 : Int) (r1 : Bool) (r2 : Int) (r3 : Int) (r4 : Int) (r5 : Int) (r6 : Int) (r7 : Bool) (w : World) (h : sums_join.f k qa qb q0 q1 q2 q3 qe qc qd q5 q6 q7 q9 qf a2 = some (r1, r2, r3, r4, r5, r6, r7)) :
 Calls Try.prog 82 #[.agg #[.bool qa, .int .i64 qb, .int .u64 q0, .int .u64 q1, .int .u64 q2, .int .u64 q3, .bool qe], .agg #[.bool qc, .int .i64 qd, .int .u64 q5, .int .u64 q6, .int .u64 q7, .int .u64 q9, .bool qf], .int .i64 a2] w fun e w' => e = .returned (.agg #[.bool r1, .int .i64 r2, .int .u64 r3, .int .u64 r4, .int .u64 r5, .int .u64 r6, .bool r7]) ∧ Below w.heap.size w w' := by
 have hu61 := Try.underlying61; have hu58 := Try.underlying58; have HB := Aside0.mk (Below.refl w.heap.size w); have H : (if (q0 == 0 && (q1 == 0 && (q2 == 0 && (q3 == 0)))) = true then (sums_join.j0 k a2 (q5 == 0 && (q6 == 0 && (q7 == 0 && (q9 == 0)))) qa qb q0 q1 q2 q3 qe qc qd q5 q6 q7 q9 qf 0 0 0 0) else (sums_join.j0 k a2 false qa qb q0 q1 q2 q3 qe qc qd q5 q6 q7 q9 qf 0 0 0 0)) = some (r1, r2, r3, r4, r5, r6, r7) := h; clear h; have HC4 := Aside0.mk H; clear H
 go_enter Try.func82, Try.ntmps82
 go_upto_region 2 with (first | ((with_reducible refine gate_dst (N := 3) rfl ?_); refine box_event ?hg (N := 3) ?hd (cs := #[.bool qa, .int .i64 qb, .int .u64 q0, .int .u64 q1, .int .u64 q2, .int .u64 q3, .bool qe]) (t := 61) ?hr ?_; (case hd => rfl); (case hg => rfl); (case hr => first | (go_simp; done) | (go_simp; rfl)); intro qg hg w5 hbox hb; have q4 := Aside0.mk (hbox); have GW171 := Aside0.mk ((by rw [hg]; exact (below_size (kH HB)) : w.heap.size ≤ qg)); have qk := Aside0.mk ((by rw [hg]; exact (below_size (kH HB)) : w.heap.size ≤ qg)); replace HB := Aside0.mk (below_step (kH HB) hb); clear hb hbox hg) | ((with_reducible refine gate_dst (N := 4) rfl ?_); refine box_event ?hg (N := 4) ?hd (cs := #[.bool qc, .int .i64 qd, .int .u64 q5, .int .u64 q6, .int .u64 q7, .int .u64 q9, .bool qf]) (t := 61) ?hr ?_; (case hd => rfl); (case hg => rfl); (case hr => first | (go_simp; done) | (go_simp; rfl)); intro qi hg w6 hbox hb; have q8 := Aside0.mk (hbox); have GW172 := Aside0.mk ((by rw [hg]; exact (below_size (kHs HB qk)) : w.heap.size ≤ qi)); have qm := Aside0.mk ((by rw [hg]; exact (below_size (kHs HB qk)) : w.heap.size ≤ qi)); replace HB := Aside0.mk (below_step (kHs HB qk) hb); have qp := Aside0.mk ((by rw [hg]; exact Nat.ne_of_lt (blk_lt (g := qg) (o := .cells #[.bool qa, .int .i64 qb, .int .u64 q0, .int .u64 q1, .int .u64 q2, .int .u64 q3, .bool qe] 61 (0, 0)) (kB q4)) : qg ≠ qi)); have qq := Aside0.mk ((by rw [hg]; exact Nat.ne_of_gt (blk_lt (g := qg) (o := .cells #[.bool qa, .int .i64 qb, .int .u64 q0, .int .u64 q1, .int .u64 q2, .int .u64 q3, .bool qe] 61 (0, 0)) (kB q4)) : qi ≠ qg)); replace q4 := Aside0.mk (blk_below (g := qg) (o := .cells #[.bool qa, .int .i64 qb, .int .u64 q0, .int .u64 q1, .int .u64 q2, .int .u64 q3, .bool qe] 61 (0, 0)) (kB q4) hb); clear hb hbox hg) | ((with_reducible refine gate_dst (N := 6) rfl ?_); refine box_event ?hg (N := 6) ?hd (cs := #[.bool false, .int .i64 0, .int .u64 0, .int .u64 0, .int .u64 0, .int .u64 0, .bool false]) (t := 61) ?hr ?_; (case hd => rfl); (case hg => rfl); (case hr => first | (go_simp; done) | (go_simp; rfl)); intro ql hg w7 hbox hb; have qh := Aside0.mk (hbox); have GW173 := Aside0.mk ((by rw [hg]; exact (below_size (kHt HB qk qm)) : w.heap.size ≤ ql)); have qv := Aside0.mk ((by rw [hg]; exact (below_size (kHt HB qk qm)) : w.heap.size ≤ ql)); replace HB := Aside0.mk (below_step (kHt HB qk qm) hb); have q06 := Aside0.mk ((by rw [hg]; exact Nat.ne_of_lt (blk_lt (g := qg) (o := .cells #[.bool qa, .int .i64 qb, .int .u64 q0, .int .u64 q1, .int .u64 q2, .int .u64 q3, .bool qe] 61 (0, 0)) (kB q4)) : qg ≠ ql)); have qr := Aside0.mk ((by rw [hg]; exact Nat.ne_of_gt (blk_lt (g := qg) (o := .cells #[.bool qa, .int .i64 qb, .int .u64 q0, .int .u64 q1, .int .u64 q2, .int .u64 q3, .bool qe] 61 (0, 0)) (kB q4)) : ql ≠ qg)); replace q4 := Aside0.mk (blk_below (g := qg) (o := .cells #[.bool qa, .int .i64 qb, .int .u64 q0, .int .u64 q1, .int .u64 q2, .int .u64 q3, .bool qe] 61 (0, 0)) (kB q4) hb); have q0q := Aside0.mk ((by rw [hg]; exact Nat.ne_of_lt (blk_lt (g := qi) (o := .cells #[.bool qc, .int .i64 qd, .int .u64 q5, .int .u64 q6, .int .u64 q7, .int .u64 q9, .bool qf] 61 (0, 0)) (kB q8)) : qi ≠ ql)); have qu := Aside0.mk ((by rw [hg]; exact Nat.ne_of_gt (blk_lt (g := qi) (o := .cells #[.bool qc, .int .i64 qd, .int .u64 q5, .int .u64 q6, .int .u64 q7, .int .u64 q9, .bool qf] 61 (0, 0)) (kB q8)) : ql ≠ qi)); replace q8 := Aside0.mk (blk_below (g := qi) (o := .cells #[.bool qc, .int .i64 qd, .int .u64 q5, .int .u64 q6, .int .u64 q7, .int .u64 q9, .bool qf] 61 (0, 0)) (kB q8) hb); clear hb hbox hg) | ((with_reducible refine gate_dst (N := 7) rfl ?_); refine box_event ?hg (N := 7) ?hd (cs := #[.int .u64 0, .int .u64 0, .int .u64 0, .int .u64 0]) (t := 58) ?hr ?_; (case hd => rfl); (case hg => rfl); (case hr => first | (go_simp; done) | (go_simp; rfl)); intro qw hg w8 hbox hb; have qj := Aside0.mk (hbox); have GW174 := Aside0.mk ((by rw [hg]; exact (below_size (by repeat (first | (with_reducible first | exact HB.out | apply below_alloc | apply pw_below_drewN | apply below_drew1 | refine below_set ?_ qk.out | refine below_set ?_ qm.out | refine below_set ?_ qv.out) | exact HB.out))) : w.heap.size ≤ qw)); have qz := Aside0.mk ((by rw [hg]; exact (below_size (by repeat (first | (with_reducible first | exact HB.out | apply below_alloc | apply pw_below_drewN | apply below_drew1 | refine below_set ?_ qk.out | refine below_set ?_ qm.out | refine below_set ?_ qv.out) | exact HB.out))) : w.heap.size ≤ qw)); replace HB := Aside0.mk (below_step (by repeat (first | (with_reducible first | exact HB.out | apply below_alloc | apply pw_below_drewN | apply below_drew1 | refine below_set ?_ qk.out | refine below_set ?_ qm.out | refine below_set ?_ qv.out) | exact HB.out)) hb); have q07 := Aside0.mk ((by rw [hg]; exact Nat.ne_of_lt (blk_lt (g := qg) (o := .cells #[.bool qa, .int .i64 qb, .int .u64 q0, .int .u64 q1, .int .u64 q2, .int .u64 q3, .bool qe] 61 (0, 0)) (kB q4)) : qg ≠ qw)); have qs := Aside0.mk ((by rw [hg]; exact Nat.ne_of_gt (blk_lt (g := qg) (o := .cells #[.bool qa, .int .i64 qb, .int .u64 q0, .int .u64 q1, .int .u64 q2, .int .u64 q3, .bool qe] 61 (0, 0)) (kB q4)) : qw ≠ qg)); replace q4 := Aside0.mk (blk_below (g := qg) (o := .cells #[.bool qa, .int .i64 qb, .int .u64 q0, .int .u64 q1, .int .u64 q2, .int .u64 q3, .bool qe] 61 (0, 0)) (kB q4) hb); have q08 := Aside0.mk ((by rw [hg]; exact Nat.ne_of_lt (blk_lt (g := qi) (o := .cells #[.bool qc, .int .i64 qd, .int .u64 q5, .int .u64 q6, .int .u64 q7, .int .u64 q9, .bool qf] 61 (0, 0)) (kB q8)) : qi ≠ qw)); have qt := Aside0.mk ((by rw [hg]; exact Nat.ne_of_gt (blk_lt (g := qi) (o := .cells #[.bool qc, .int .i64 qd, .int .u64 q5, .int .u64 q6, .int .u64 q7, .int .u64 q9, .bool qf] 61 (0, 0)) (kB q8)) : qw ≠ qi)); replace q8 := Aside0.mk (blk_below (g := qi) (o := .cells #[.bool qc, .int .i64 qd, .int .u64 q5, .int .u64 q6, .int .u64 q7, .int .u64 q9, .bool qf] 61 (0, 0)) (kB q8) hb); have q0r := Aside0.mk ((by rw [hg]; exact Nat.ne_of_lt (blk_lt (g := ql) (o := .cells #[.bool false, .int .i64 0, .int .u64 0, .int .u64 0, .int .u64 0, .int .u64 0, .bool false] 61 (0, 0)) (kB qh)) : ql ≠ qw)); have q0s := Aside0.mk ((by rw [hg]; exact Nat.ne_of_gt (blk_lt (g := ql) (o := .cells #[.bool false, .int .i64 0, .int .u64 0, .int .u64 0, .int .u64 0, .int .u64 0, .bool false] 61 (0, 0)) (kB qh)) : qw ≠ ql)); replace qh := Aside0.mk (blk_below (g := ql) (o := .cells #[.bool false, .int .i64 0, .int .u64 0, .int .u64 0, .int .u64 0, .int .u64 0, .bool false] 61 (0, 0)) (kB qh) hb); clear hb hbox hg))
 (try simp only [Act.put, List.setIfInBounds_toArray, List.set_cons_zero, List.set_cons_succ])
 go_cut [8] (fun v8 wc => ∃ (kq : Nat) (q19 : Bool), v8 = .bool q19 ∧ Aside0 (sums_join.j0 kq a2 q19 qa qb q0 q1 q2 q3 qe qc qd q5 q6 q7 q9 qf 0 0 0 0 = some (r1, r2, r3, r4, r5, r6, r7)) ∧ Aside0 (kq ≤ k) ∧ Aside0 (wc.heap[qg]? = some (.cells #[.bool qa, .int .i64 qb, .int .u64 q0, .int .u64 q1, .int .u64 q2, .int .u64 q3, .bool qe] 61 (0, 0))) ∧ Aside0 (wc.heap[qi]? = some (.cells #[.bool qc, .int .i64 qd, .int .u64 q5, .int .u64 q6, .int .u64 q7, .int .u64 q9, .bool qf] 61 (0, 0))) ∧ Aside0 (wc.heap[ql]? = some (.cells #[.bool false, .int .i64 0, .int .u64 0, .int .u64 0, .int .u64 0, .int .u64 0, .bool false] 61 (0, 0))) ∧ Aside0 (wc.heap[qw]? = some (.cells #[.int .u64 0, .int .u64 0, .int .u64 0, .int .u64 0] 58 (0, 0))) ∧ Aside0 (Below w.heap.size w wc))
 case first =>
  have H := HC4.out; clear HC4
  by_cases c9 : (q0 == 0 && (q1 == 0 && (q2 == 0 && (q3 == 0)))) = true
  · rw [if_pos c9] at H
    have q0t : (q0 == 0 && (q1 == 0 && (q2 == 0 && (q3 == 0)))) = true := c9
    (try (have q1c : decide (q0 = 0 && (q1 == 0 && (q2 == 0 && (q3 == 0)))) = true := by simpa using c9))
    (try (have q1d : (q0 == 0 && (q1 == 0 && (q2 == 0 && (q3 == 0)))) = true := by simpa using c9))
    clear c9
    (first | rw [q0t] | (simp only [i64_w, i32_w]; rw [q0t]) | skip)
    have H' := Aside0.mk H; clear H; have hnb10 := qp.out; have hnc10 := qq.out; have hnb11 := q06.out; have hnc11 := qr.out; have hnb12 := q07.out; have hnc12 := qs.out; obtain ⟨q1l, q1m, q1n, q1o, q1p, q1q, q1r, q1s, q1t, q1u, q1v, q1w, q1x, q1y⟩ := W7q q4; have hnb14 := qt.out; have hnc14 := q08.out; have hnb15 := q0s.out; have hnc15 := q0r.out; obtain ⟨q1z, q20, q21, q22, q23, q24, q25, q26⟩ := W4q qj; have hnb17 := q0q.out; have hnc17 := qu.out; obtain ⟨q27, q28, q29, q2a, q2b, q2c, q2d, q2e, q2f, q2g, q2h, q2i, q2j, q2k⟩ := W7q q8
    go_wp2
    go_meet
    case rel => exact ⟨_, ((q5 == 0 && (q6 == 0 && (q7 == 0 && (q9 == 0))))), RSq, (by first | exact H' | (subst_vars; exact H')), ⟨by first | omega | exact Nat.le_refl _⟩, ⟨kB q4⟩, ⟨kB q8⟩, ⟨kB qh⟩, ⟨kB qj⟩, ⟨by repeat (first | (with_reducible first | exact HB.out | apply below_alloc | apply pw_below_drewN | apply below_drew1 | refine below_set ?_ qk.out | refine below_set ?_ qm.out | refine below_set ?_ qv.out | refine below_set ?_ qz.out) | exact HB.out)⟩⟩
  rw [if_neg c9] at H
  have q0t : (q0 == 0 && (q1 == 0 && (q2 == 0 && (q3 == 0)))) = false := by simpa using c9
  (try (have q1c : decide (q0 = 0 && (q1 == 0 && (q2 == 0 && (q3 == 0)))) = false := by simpa using c9))
  (try (have q1d : (q0 == 0 && (q1 == 0 && (q2 == 0 && (q3 == 0)))) = false := by simpa using c9))
  (try (have c9b3 : ¬ (q0 = 0 && (q1 == 0 && (q2 == 0 && (q3 == 0)))) := by simpa using c9))
  clear c9
  (first | rw [q0t] | (simp only [i64_w, i32_w]; rw [q0t]) | skip)
  have H' := Aside0.mk H; clear H; have hnb19 := qp.out; have hnc19 := qq.out; have hnb20 := q06.out; have hnc20 := qr.out; have hnb21 := q07.out; have hnc21 := qs.out; obtain ⟨q2l, q2m, q2n, q2o, q2p, q2q, q2r, q2s, q2t, q2u, q2v, q2w, q2x, q2y⟩ := W7q q4; have hnb23 := qt.out; have hnc23 := q08.out; have hnb24 := q0s.out; have hnc24 := q0r.out; obtain ⟨q2z, q30, q31, q32, q33, q34, q35, q36⟩ := W4q qj
  go_wp2
  go_meet
  case rel => exact ⟨_, (false), RSq, (by first | exact H' | (subst_vars; exact H')), ⟨by first | omega | exact Nat.le_refl _⟩, ⟨kB q4⟩, ⟨kB q8⟩, ⟨kB qh⟩, ⟨kB qj⟩, ⟨by repeat (first | (with_reducible first | exact HB.out | apply below_alloc | apply pw_below_drewN | apply below_drew1 | refine below_set ?_ qk.out | refine below_set ?_ qm.out | refine below_set ?_ qv.out | refine below_set ?_ qz.out) | exact HB.out)⟩⟩
 case rest =>
  clear HC4; (try clear c1); (try clear c2); (try clear p2); (try clear p6); (try clear c8); (try clear c9); (try clear q0t); (try clear q1c); (try clear q1d); (try clear c10); (try clear c11); (try clear c12); (try clear c14); (try clear c15); (try clear c17); (try clear c19); (try clear c20); (try clear c21); (try clear c23); (try clear c24); (try clear q1l q1m q1n q1o q1p q1q q1r); (try clear q1z q20 q21 q22); (try clear q27 q28 q29 q2a q2b q2c q2d); (try clear q2l q2m q2n q2o q2p q2q q2r); (try clear q2z q30 q31 q32); (try clear q1s q1t q1u q1v q1w q1x q1y); (try clear q23 q24 q25 q26); (try clear q2e q2f q2g q2h q2i q2j q2k); (try clear q2s q2t q2u q2v q2w q2x q2y); (try clear q33 q34 q35 q36); obtain ⟨kq, q19, rfl, HA, HJ3, q4, q8, qh, qj, HB⟩ := hcut
  cases kq with
  | zero => exact absurd HA.out (by simp [sums_join.j0])
  | succ kj3 =>
   have H := HA.out; clear HA
   simp only [sums_join.j0] at H
   by_cases c26 : q19 = true
   · subst c26
     have H1 : ((sums_nought.f qa qc a2).bind fun qn => (some (qn.1, qn.2.1, qn.2.2.1, qn.2.2.2.1, qn.2.2.2.2.1, qn.2.2.2.2.2.1, qn.2.2.2.2.2.2))) = some (r1, r2, r3, r4, r5, r6, r7) := by rw [if_pos rfl] at H; exact H
     clear H; have H := H1; clear H1; replace H := Option.bind_eq_some_iff.mp H; obtain ⟨⟨q04, q09, q0u, q12, q17, q1a, q1e⟩, q37, H⟩ := H; replace H : (some (q04, q09, q0u, q12, q17, q1a, q1e)) = some (r1, r2, r3, r4, r5, r6, r7) := H; have A27 := Aside0.mk q37; clear q37
     simp only [Option.some.injEq, Prod.mk.injEq] at H
     obtain ⟨rfl, rfl, rfl, rfl, rfl, rfl, rfl⟩ := H; have hnb28 := qp.out; have hnc28 := qq.out; have hnb29 := q06.out; have hnc29 := qr.out; have hnb30 := q07.out; have hnc30 := qs.out; obtain ⟨q3g, q3h, q3i, q3j, q3k, q3l, q3m, q3n, q3o, q3p, q3q, q3r, q3s, q3t⟩ := W7q q4; have hnb32 := q0q.out; have hnc32 := qu.out; have hnb33 := q08.out; have hnc33 := qt.out; obtain ⟨q3u, q3v, q3w, q3x, q3y, q3z, q40, q41, q42, q43, q44, q45, q46, q47⟩ := W7q q8
     go_wp2_with (first | ((with_reducible refine gate_callee (f := 94) rfl ?_); refine goesL_ (some 24) rfl rfl Try.func94 (by kernel_rfl) rfl #[.bool qa, .bool qc, .int .i64 a2] rfl LMq ?_; (with_reducible refine (sums_nought.calls qa qc a2 q04 q09 q0u q12 q17 q1a q1e _ A27.out).mono ?_); rintro e w35 ⟨rfl, hb⟩; refine ⟨_, rfl, ?_⟩; replace q4 := Aside0.mk (blk_below (g := qg) (o := .cells #[.bool qa, .int .i64 qb, .int .u64 q0, .int .u64 q1, .int .u64 q2, .int .u64 q3, .bool qe] 61 (0, 0)) (kB q4) hb); replace q8 := Aside0.mk (blk_below (g := qi) (o := .cells #[.bool qc, .int .i64 qd, .int .u64 q5, .int .u64 q6, .int .u64 q7, .int .u64 q9, .bool qf] 61 (0, 0)) (kB q8) hb); replace qh := Aside0.mk (blk_below (g := ql) (o := .cells #[.bool false, .int .i64 0, .int .u64 0, .int .u64 0, .int .u64 0, .int .u64 0, .bool false] 61 (0, 0)) (kB qh) hb); replace qj := Aside0.mk (blk_below (g := qw) (o := .cells #[.int .u64 0, .int .u64 0, .int .u64 0, .int .u64 0] 58 (0, 0)) (kB qj) hb); replace HB := Aside0.mk (below_step (by repeat (first | (with_reducible first | exact HB.out | apply below_alloc | apply pw_below_drewN | apply below_drew1 | refine below_set ?_ qk.out | refine below_set ?_ qm.out | refine below_set ?_ qv.out | refine below_set ?_ qz.out) | exact HB.out)) hb); (try clear hb); (try clear hb2); (try clear hk); (try clear hi); have hnb36 := q0r.out; have hnc36 := q0s.out; obtain ⟨q48, q49, q4a, q4b, q4c, q4d, q4e, q4f, q4g, q4h, q4i, q4j, q4k, q4l⟩ := W7q qh))
     refine bodyPost_ret (results_cell_row rfl _ _ ql 61 #[.bool q04, .int .i64 q09, .int .u64 q0u, .int .u64 q12, .int .u64 q17, .int .u64 q1a, .bool q1e] (0, 0) _ rfl (by (with_reducible repeat (first | refine blk_drewN ?_ _ | refine blk_drew ?_ | refine blk_alloc ?_ _)); refine blk_put (cs := #[.bool q04, .int .i64 q09, .int .u64 q0u, .int .u64 q12, .int .u64 q17, .int .u64 q1a, .bool false]) ?_ 6 _ rfl; refine blk_put (cs := #[.bool q04, .int .i64 q09, .int .u64 q0u, .int .u64 q12, .int .u64 q17, .int .u64 0, .bool false]) ?_ 5 _ rfl; refine blk_put (cs := #[.bool q04, .int .i64 q09, .int .u64 q0u, .int .u64 q12, .int .u64 0, .int .u64 0, .bool false]) ?_ 4 _ rfl; refine blk_put (cs := #[.bool q04, .int .i64 q09, .int .u64 q0u, .int .u64 0, .int .u64 0, .int .u64 0, .bool false]) ?_ 3 _ rfl; refine blk_put (cs := #[.bool q04, .int .i64 q09, .int .u64 0, .int .u64 0, .int .u64 0, .int .u64 0, .bool false]) ?_ 2 _ rfl; refine blk_put (cs := #[.bool q04, .int .i64 0, .int .u64 0, .int .u64 0, .int .u64 0, .int .u64 0, .bool false]) ?_ 1 _ rfl; refine blk_put (cs := #[.bool false, .int .i64 0, .int .u64 0, .int .u64 0, .int .u64 0, .int .u64 0, .bool false]) ?_ 0 _ rfl; (with_reducible repeat (first | refine blk_drewN ?_ _ | refine blk_drew ?_ | refine blk_alloc ?_ _)); exact qh.out) Try.underlying61 rfl (by kernel_rfl)) rfl ?_; exact ⟨by first | rfl | (simp [errW_none, errW_some] <;> rfl) | (simp [*, errW_none, errW_some] <;> rfl), by repeat (first | (with_reducible first | exact HB.out | apply below_alloc | apply pw_below_drewN | apply below_drew1 | refine below_set ?_ qk.out | refine below_set ?_ qm.out | refine below_set ?_ qv.out | refine below_set ?_ qz.out) | exact HB.out)⟩
   replace c26 := Bool.eq_false_iff.mpr c26; subst c26
   have H1 : (if (q0 == 0 && (q1 == 0 && (q2 == 0 && (q3 == 0)))) = true then (some (qc, qd, q5, q6, q7, q9, qf)) else (if (q5 == 0 && (q6 == 0 && (q7 == 0 && (q9 == 0)))) = true then (some (qa, qb, q0, q1, q2, q3, qe)) else (if qb < qd then (sums_join.j1 kj3 a2 qc qd q5 q6 q7 q9 qf qa qb q0 q1 q2 q3 qe) else (sums_join.j1 kj3 a2 qa qb q0 q1 q2 q3 qe qc qd q5 q6 q7 q9 qf)))) = some (r1, r2, r3, r4, r5, r6, r7) := by rw [if_neg (show ¬ (false = true) by decide)] at H; exact H
   clear H; have H := H1; clear H1
   by_cases c38 : (q0 == 0 && (q1 == 0 && (q2 == 0 && (q3 == 0)))) = true
   · rw [if_pos c38] at H
     have q38 : (q0 == 0 && (q1 == 0 && (q2 == 0 && (q3 == 0)))) = true := c38
     (try (have q39 : decide (q0 = 0 && (q1 == 0 && (q2 == 0 && (q3 == 0)))) = true := by simpa using c38))
     (try (have q3a : (q0 == 0 && (q1 == 0 && (q2 == 0 && (q3 == 0)))) = true := by simpa using c38))
     clear c38
     simp only [Option.some.injEq, Prod.mk.injEq] at H
     obtain ⟨rfl, rfl, rfl, rfl, rfl, rfl, rfl⟩ := H; have hnb39 := qp.out; have hnc39 := qq.out; have hnb40 := q06.out; have hnc40 := qr.out; have hnb41 := q07.out; have hnc41 := qs.out; obtain ⟨q4m, q4n, q4o, q4p, q4q, q4r, q4s, q4t, q4u, q4v, q4w, q4x, q4y, q4z⟩ := W7q q4; have hnb43 := qt.out; have hnc43 := q08.out; have hnb44 := q0s.out; have hnc44 := q0r.out; obtain ⟨q50, q51, q52, q53, q54, q55, q56, q57⟩ := W4q qj; have hnb46 := q0q.out; have hnc46 := qu.out; obtain ⟨q58, q59, q5a, q5b, q5c, q5d, q5e, q5f, q5g, q5h, q5i, q5j, q5k, q5l⟩ := W7q q8; obtain ⟨q5m, q5n, q5o, q5p, q5q, q5r, q5s, q5t, q5u, q5v, q5w, q5x, q5y, q5z⟩ := W7q qh
     go_wp2
     refine bodyPost_ret (results_cell_row rfl _ _ ql 61 #[.bool qc, .int .i64 qd, .int .u64 q5, .int .u64 q6, .int .u64 q7, .int .u64 q9, .bool qf] (0, 0) _ rfl (by (with_reducible repeat (first | refine blk_drewN ?_ _ | refine blk_drew ?_ | refine blk_alloc ?_ _)); refine blk_put (cs := #[.bool qc, .int .i64 qd, .int .u64 q5, .int .u64 q6, .int .u64 q7, .int .u64 q9, .bool false]) ?_ 6 _ rfl; refine blk_put (cs := #[.bool qc, .int .i64 qd, .int .u64 q5, .int .u64 q6, .int .u64 q7, .int .u64 0, .bool false]) ?_ 5 _ rfl; refine blk_put (cs := #[.bool qc, .int .i64 qd, .int .u64 q5, .int .u64 q6, .int .u64 0, .int .u64 0, .bool false]) ?_ 4 _ rfl; refine blk_put (cs := #[.bool qc, .int .i64 qd, .int .u64 q5, .int .u64 0, .int .u64 0, .int .u64 0, .bool false]) ?_ 3 _ rfl; refine blk_put (cs := #[.bool qc, .int .i64 qd, .int .u64 0, .int .u64 0, .int .u64 0, .int .u64 0, .bool false]) ?_ 2 _ rfl; refine blk_put (cs := #[.bool qc, .int .i64 0, .int .u64 0, .int .u64 0, .int .u64 0, .int .u64 0, .bool false]) ?_ 1 _ rfl; refine blk_put (cs := #[.bool false, .int .i64 0, .int .u64 0, .int .u64 0, .int .u64 0, .int .u64 0, .bool false]) ?_ 0 _ rfl; (with_reducible repeat (first | refine blk_drewN ?_ _ | refine blk_drew ?_ | refine blk_alloc ?_ _)); exact qh.out) Try.underlying61 rfl (by kernel_rfl)) rfl ?_; exact ⟨by first | rfl | (simp [errW_none, errW_some] <;> rfl) | (simp [*, errW_none, errW_some] <;> rfl), by repeat (first | (with_reducible first | exact HB.out | apply below_alloc | apply pw_below_drewN | apply below_drew1 | refine below_set ?_ qk.out | refine below_set ?_ qm.out | refine below_set ?_ qv.out | refine below_set ?_ qz.out) | exact HB.out)⟩
   rw [if_neg c38] at H
   have q38 : (q0 == 0 && (q1 == 0 && (q2 == 0 && (q3 == 0)))) = false := by simpa using c38
   (try (have q39 : decide (q0 = 0 && (q1 == 0 && (q2 == 0 && (q3 == 0)))) = false := by simpa using c38))
   (try (have q3a : (q0 == 0 && (q1 == 0 && (q2 == 0 && (q3 == 0)))) = false := by simpa using c38))
   (try (have c38b3 : ¬ (q0 = 0 && (q1 == 0 && (q2 == 0 && (q3 == 0)))) := by simpa using c38))
   clear c38
   by_cases c49 : (q5 == 0 && (q6 == 0 && (q7 == 0 && (q9 == 0)))) = true
   · rw [if_pos c49] at H
     have q3b : (q5 == 0 && (q6 == 0 && (q7 == 0 && (q9 == 0)))) = true := c49
     (try (have q3c : decide (q5 = 0 && (q6 == 0 && (q7 == 0 && (q9 == 0)))) = true := by simpa using c49))
     (try (have q3d : (q5 == 0 && (q6 == 0 && (q7 == 0 && (q9 == 0)))) = true := by simpa using c49))
     clear c49
     simp only [Option.some.injEq, Prod.mk.injEq] at H
     obtain ⟨rfl, rfl, rfl, rfl, rfl, rfl, rfl⟩ := H; have hnb50 := qp.out; have hnc50 := qq.out; have hnb51 := q06.out; have hnc51 := qr.out; have hnb52 := q07.out; have hnc52 := qs.out; obtain ⟨q60, q61, q62, q63, q64, q65, q66, q67, q68, q69, q6a, q6b, q6c, q6d⟩ := W7q q4; have hnb54 := qt.out; have hnc54 := q08.out; have hnb55 := q0s.out; have hnc55 := q0r.out; obtain ⟨q6e, q6f, q6g, q6h, q6i, q6j, q6k, q6l⟩ := W4q qj; have hnb57 := q0q.out; have hnc57 := qu.out; obtain ⟨q6m, q6n, q6o, q6p, q6q, q6r, q6s, q6t, q6u, q6v, q6w, q6x, q6y, q6z⟩ := W7q q8; obtain ⟨q70, q71, q72, q73, q74, q75, q76, q77, q78, q79, q7a, q7b, q7c, q7d⟩ := W7q qh
     go_wp2
     refine bodyPost_ret (results_cell_row rfl _ _ ql 61 #[.bool qa, .int .i64 qb, .int .u64 q0, .int .u64 q1, .int .u64 q2, .int .u64 q3, .bool qe] (0, 0) _ rfl (by (with_reducible repeat (first | refine blk_drewN ?_ _ | refine blk_drew ?_ | refine blk_alloc ?_ _)); refine blk_put (cs := #[.bool qa, .int .i64 qb, .int .u64 q0, .int .u64 q1, .int .u64 q2, .int .u64 q3, .bool false]) ?_ 6 _ rfl; refine blk_put (cs := #[.bool qa, .int .i64 qb, .int .u64 q0, .int .u64 q1, .int .u64 q2, .int .u64 0, .bool false]) ?_ 5 _ rfl; refine blk_put (cs := #[.bool qa, .int .i64 qb, .int .u64 q0, .int .u64 q1, .int .u64 0, .int .u64 0, .bool false]) ?_ 4 _ rfl; refine blk_put (cs := #[.bool qa, .int .i64 qb, .int .u64 q0, .int .u64 0, .int .u64 0, .int .u64 0, .bool false]) ?_ 3 _ rfl; refine blk_put (cs := #[.bool qa, .int .i64 qb, .int .u64 0, .int .u64 0, .int .u64 0, .int .u64 0, .bool false]) ?_ 2 _ rfl; refine blk_put (cs := #[.bool qa, .int .i64 0, .int .u64 0, .int .u64 0, .int .u64 0, .int .u64 0, .bool false]) ?_ 1 _ rfl; refine blk_put (cs := #[.bool false, .int .i64 0, .int .u64 0, .int .u64 0, .int .u64 0, .int .u64 0, .bool false]) ?_ 0 _ rfl; (with_reducible repeat (first | refine blk_drewN ?_ _ | refine blk_drew ?_ | refine blk_alloc ?_ _)); exact qh.out) Try.underlying61 rfl (by kernel_rfl)) rfl ?_; exact ⟨by first | rfl | (simp [errW_none, errW_some] <;> rfl) | (simp [*, errW_none, errW_some] <;> rfl), by repeat (first | (with_reducible first | exact HB.out | apply below_alloc | apply pw_below_drewN | apply below_drew1 | refine below_set ?_ qk.out | refine below_set ?_ qm.out | refine below_set ?_ qv.out | refine below_set ?_ qz.out) | exact HB.out)⟩
   rw [if_neg c49] at H
   have q3b : (q5 == 0 && (q6 == 0 && (q7 == 0 && (q9 == 0)))) = false := by simpa using c49
   (try (have q3c : decide (q5 = 0 && (q6 == 0 && (q7 == 0 && (q9 == 0)))) = false := by simpa using c49))
   (try (have q3d : (q5 == 0 && (q6 == 0 && (q7 == 0 && (q9 == 0)))) = false := by simpa using c49))
   (try (have c49b3 : ¬ (q5 = 0 && (q6 == 0 && (q7 == 0 && (q9 == 0)))) := by simpa using c49))
   clear c49; have q1f := Aside0.mk H; clear H; have hnb61 := qp.out; have hnc61 := qq.out; have hnb62 := q06.out; have hnc62 := qr.out; have hnb63 := q07.out; have hnc63 := qs.out; obtain ⟨q7e, q7f, q7g, q7h, q7i, q7j, q7k, q7l, q7m, q7n, q7o, q7p, q7q, q7r⟩ := W7q q4; have hnb65 := qt.out; have hnc65 := q08.out; have hnb66 := q0s.out; have hnc66 := q0r.out; obtain ⟨q7s, q7t, q7u, q7v, q7w, q7x, q7y, q7z⟩ := W4q qj; have hnb68 := q0q.out; have hnc68 := qu.out; obtain ⟨q80, q81, q82, q83, q84, q85, q86, q87, q88, q89, q8a, q8b, q8c, q8d⟩ := W7q q8
   go_upto_if 41 with (fail)
   go_cut [] (fun wc => ∃ (kq : Nat) (q0a : Bool) (qx : Int) (q00 : Int) (q01 : Int) (q02 : Int) (q03 : Int) (q0b : Bool) (q0c : Bool) (qy : Int) (q0d : Int) (q0e : Int) (q0f : Int) (q0g : Int) (q0h : Bool), Aside0 (sums_join.j1 kq a2 q0a qx q00 q01 q02 q03 q0b q0c qy q0d q0e q0f q0g q0h = some (r1, r2, r3, r4, r5, r6, r7)) ∧ Aside0 (kq ≤ kj3) ∧ Aside0 (wc.heap[qg]? = some (.cells #[.bool q0a, .int .i64 qx, .int .u64 q00, .int .u64 q01, .int .u64 q02, .int .u64 q03, .bool q0b] 61 (0, 0))) ∧ Aside0 (wc.heap[qi]? = some (.cells #[.bool q0c, .int .i64 qy, .int .u64 q0d, .int .u64 q0e, .int .u64 q0f, .int .u64 q0g, .bool q0h] 61 (0, 0))) ∧ Aside0 (wc.heap[ql]? = some (.cells #[.bool false, .int .i64 0, .int .u64 0, .int .u64 0, .int .u64 0, .int .u64 0, .bool false] 61 (0, 0))) ∧ Aside0 (wc.heap[qw]? = some (.cells #[.int .u64 0, .int .u64 0, .int .u64 0, .int .u64 0] 58 (0, 0))) ∧ Aside0 (Below w.heap.size w wc))
   case first =>
    have H := q1f.out; clear q1f
    by_cases c70 : qb < qd
    · rw [if_pos c70] at H
      have q13 : decide (qb < qd) = true := decide_eq_true c70; clear c70
      (first | rw [q13] | (simp only [i64_w, i32_w]; rw [q13]) | skip)
      have H' := Aside0.mk H; clear H; have hnb71 := qq.out; have hnc71 := qp.out; have hnb72 := q0q.out; have hnc72 := qu.out; have hnb73 := q08.out; have hnc73 := qt.out; obtain ⟨q8e, q8f, q8g, q8h, q8i, q8j, q8k, q8l, q8m, q8n, q8o, q8p, q8q, q8r⟩ := W7q q8; have hnb75 := q06.out; have hnc75 := qr.out; have hnb76 := q07.out; have hnc76 := qs.out; obtain ⟨q8s, q8t, q8u, q8v, q8w, q8x, q8y, q8z, q90, q91, q92, q93, q94, q95⟩ := W7q q4
      go_wp2
      go_meet
      case rel => exact ⟨_, (qc), (qd), (q5), (q6), (q7), (q9), (qf), (qa), (qb), (q0), (q1), (q2), (q3), (qe), (by first | exact H' | (subst_vars; exact H')), ⟨by have := HJ3.out; first | omega | exact Nat.le_refl _⟩, ⟨by (with_reducible repeat (first | refine blk_drewN ?_ _ | refine blk_drew ?_ | refine blk_alloc ?_ _)); refine blk_far ?_ qp.out _; refine blk_far ?_ qp.out _; refine blk_far ?_ qp.out _; refine blk_far ?_ qp.out _; refine blk_far ?_ qp.out _; refine blk_far ?_ qp.out _; refine blk_far ?_ qp.out _; refine blk_put (cs := #[.bool qc, .int .i64 qd, .int .u64 q5, .int .u64 q6, .int .u64 q7, .int .u64 q9, .bool qe]) ?_ 6 _ rfl; refine blk_put (cs := #[.bool qc, .int .i64 qd, .int .u64 q5, .int .u64 q6, .int .u64 q7, .int .u64 q3, .bool qe]) ?_ 5 _ rfl; refine blk_put (cs := #[.bool qc, .int .i64 qd, .int .u64 q5, .int .u64 q6, .int .u64 q2, .int .u64 q3, .bool qe]) ?_ 4 _ rfl; refine blk_put (cs := #[.bool qc, .int .i64 qd, .int .u64 q5, .int .u64 q1, .int .u64 q2, .int .u64 q3, .bool qe]) ?_ 3 _ rfl; refine blk_put (cs := #[.bool qc, .int .i64 qd, .int .u64 q0, .int .u64 q1, .int .u64 q2, .int .u64 q3, .bool qe]) ?_ 2 _ rfl; refine blk_put (cs := #[.bool qc, .int .i64 qb, .int .u64 q0, .int .u64 q1, .int .u64 q2, .int .u64 q3, .bool qe]) ?_ 1 _ rfl; refine blk_put (cs := #[.bool qa, .int .i64 qb, .int .u64 q0, .int .u64 q1, .int .u64 q2, .int .u64 q3, .bool qe]) ?_ 0 _ rfl; (with_reducible repeat (first | refine blk_drewN ?_ _ | refine blk_drew ?_ | refine blk_alloc ?_ _)); exact q4.out⟩, ⟨by (with_reducible repeat (first | refine blk_drewN ?_ _ | refine blk_drew ?_ | refine blk_alloc ?_ _)); refine blk_put (cs := #[.bool qa, .int .i64 qb, .int .u64 q0, .int .u64 q1, .int .u64 q2, .int .u64 q3, .bool qf]) ?_ 6 _ rfl; refine blk_put (cs := #[.bool qa, .int .i64 qb, .int .u64 q0, .int .u64 q1, .int .u64 q2, .int .u64 q9, .bool qf]) ?_ 5 _ rfl; refine blk_put (cs := #[.bool qa, .int .i64 qb, .int .u64 q0, .int .u64 q1, .int .u64 q7, .int .u64 q9, .bool qf]) ?_ 4 _ rfl; refine blk_put (cs := #[.bool qa, .int .i64 qb, .int .u64 q0, .int .u64 q6, .int .u64 q7, .int .u64 q9, .bool qf]) ?_ 3 _ rfl; refine blk_put (cs := #[.bool qa, .int .i64 qb, .int .u64 q5, .int .u64 q6, .int .u64 q7, .int .u64 q9, .bool qf]) ?_ 2 _ rfl; refine blk_put (cs := #[.bool qa, .int .i64 qd, .int .u64 q5, .int .u64 q6, .int .u64 q7, .int .u64 q9, .bool qf]) ?_ 1 _ rfl; refine blk_put (cs := #[.bool qc, .int .i64 qd, .int .u64 q5, .int .u64 q6, .int .u64 q7, .int .u64 q9, .bool qf]) ?_ 0 _ rfl; refine blk_far ?_ qq.out _; refine blk_far ?_ qq.out _; refine blk_far ?_ qq.out _; refine blk_far ?_ qq.out _; refine blk_far ?_ qq.out _; refine blk_far ?_ qq.out _; refine blk_far ?_ qq.out _; (with_reducible repeat (first | refine blk_drewN ?_ _ | refine blk_drew ?_ | refine blk_alloc ?_ _)); exact q8.out⟩, ⟨by (with_reducible repeat (first | refine blk_drewN ?_ _ | refine blk_drew ?_ | refine blk_alloc ?_ _)); refine blk_far ?_ qu.out _; refine blk_far ?_ qu.out _; refine blk_far ?_ qu.out _; refine blk_far ?_ qu.out _; refine blk_far ?_ qu.out _; refine blk_far ?_ qu.out _; refine blk_far ?_ qu.out _; refine blk_far ?_ qr.out _; refine blk_far ?_ qr.out _; refine blk_far ?_ qr.out _; refine blk_far ?_ qr.out _; refine blk_far ?_ qr.out _; refine blk_far ?_ qr.out _; refine blk_far ?_ qr.out _; (with_reducible repeat (first | refine blk_drewN ?_ _ | refine blk_drew ?_ | refine blk_alloc ?_ _)); exact qh.out⟩, ⟨by (with_reducible repeat (first | refine blk_drewN ?_ _ | refine blk_drew ?_ | refine blk_alloc ?_ _)); refine blk_far ?_ qt.out _; refine blk_far ?_ qt.out _; refine blk_far ?_ qt.out _; refine blk_far ?_ qt.out _; refine blk_far ?_ qt.out _; refine blk_far ?_ qt.out _; refine blk_far ?_ qt.out _; refine blk_far ?_ qs.out _; refine blk_far ?_ qs.out _; refine blk_far ?_ qs.out _; refine blk_far ?_ qs.out _; refine blk_far ?_ qs.out _; refine blk_far ?_ qs.out _; refine blk_far ?_ qs.out _; (with_reducible repeat (first | refine blk_drewN ?_ _ | refine blk_drew ?_ | refine blk_alloc ?_ _)); exact qj.out⟩, ⟨by repeat (first | (with_reducible first | exact HB.out | apply below_alloc | apply pw_below_drewN | apply below_drew1 | refine below_set ?_ qk.out | refine below_set ?_ qm.out | refine below_set ?_ qv.out | refine below_set ?_ qz.out) | exact HB.out)⟩⟩
    rw [if_neg c70] at H
    have q13 : decide (qb < qd) = false := decide_eq_false c70; clear c70
    (first | rw [q13] | (simp only [i64_w, i32_w]; rw [q13]) | skip)
    have H' := Aside0.mk H; clear H
    go_wp2
    go_meet
    case rel => exact ⟨_, (qa), (qb), (q0), (q1), (q2), (q3), (qe), (qc), (qd), (q5), (q6), (q7), (q9), (qf), (by first | exact H' | (subst_vars; exact H')), ⟨by have := HJ3.out; first | omega | exact Nat.le_refl _⟩, ⟨kB q4⟩, ⟨kB q8⟩, ⟨kB qh⟩, ⟨kB qj⟩, ⟨by repeat (first | (with_reducible first | exact HB.out | apply below_alloc | apply pw_below_drewN | apply below_drew1 | refine below_set ?_ qk.out | refine below_set ?_ qm.out | refine below_set ?_ qv.out | refine below_set ?_ qz.out) | exact HB.out)⟩⟩
   case rest =>
    clear q1f; (try clear c1); (try clear c2); (try clear p2); (try clear c3); (try clear c4); (try clear c5); (try clear c6); (try clear p6); (try clear c7); (try clear c8); (try clear c9); (try clear q0t); (try clear q1c); (try clear q1d); (try clear c10); (try clear c11); (try clear c12); (try clear c14); (try clear c15); (try clear c17); (try clear c19); (try clear c20); (try clear c21); (try clear c23); (try clear c24); (try clear c26); (try clear c28); (try clear c29); (try clear c30); (try clear c32); (try clear c33); (try clear c36); (try clear c38); (try clear q38); (try clear q39); (try clear q3a); (try clear c39); (try clear c40); (try clear c41); (try clear c43); (try clear c44); (try clear c46); (try clear c49); (try clear q3b); (try clear q3c); (try clear q3d); (try clear c50); (try clear c51); (try clear c52); (try clear c54); (try clear c55); (try clear c57); (try clear c61); (try clear c62); (try clear c63); (try clear p64); (try clear c65); (try clear c66); (try clear c68); (try clear c70); (try clear q13); (try clear c71); (try clear c72); (try clear c73); (try clear c75); (try clear c76); (try clear q1l q1m q1n q1o q1p q1q q1r); (try clear q1z q20 q21 q22); (try clear q27 q28 q29 q2a q2b q2c q2d); (try clear q2l q2m q2n q2o q2p q2q q2r); (try clear q2z q30 q31 q32); (try clear q3g q3h q3i q3j q3k q3l q3m); (try clear q3u q3v q3w q3x q3y q3z q40); (try clear q48 q49 q4a q4b q4c q4d q4e); (try clear q4m q4n q4o q4p q4q q4r q4s); (try clear q50 q51 q52 q53); (try clear q58 q59 q5a q5b q5c q5d q5e); (try clear q5m q5n q5o q5p q5q q5r q5s); (try clear q60 q61 q62 q63 q64 q65 q66); (try clear q6e q6f q6g q6h); (try clear q6m q6n q6o q6p q6q q6r q6s); (try clear q70 q71 q72 q73 q74 q75 q76); (try clear q7e q7f q7g q7h q7i q7j q7k); (try clear q7s q7t q7u q7v); (try clear q80 q81 q82 q83 q84 q85 q86); (try clear q8e q8f q8g q8h q8i q8j q8k); (try clear q8s q8t q8u q8v q8w q8x q8y); (try clear q1s q1t q1u q1v q1w q1x q1y); (try clear q23 q24 q25 q26); (try clear q2e q2f q2g q2h q2i q2j q2k); (try clear q2s q2t q2u q2v q2w q2x q2y); (try clear q33 q34 q35 q36); (try clear q3n q3o q3p q3q q3r q3s q3t); (try clear q41 q42 q43 q44 q45 q46 q47); (try clear q4f q4g q4h q4i q4j q4k q4l); (try clear q4t q4u q4v q4w q4x q4y q4z); (try clear q54 q55 q56 q57); (try clear q5f q5g q5h q5i q5j q5k q5l); (try clear q5t q5u q5v q5w q5x q5y q5z); (try clear q67 q68 q69 q6a q6b q6c q6d); (try clear q6i q6j q6k q6l); (try clear q6t q6u q6v q6w q6x q6y q6z); (try clear q77 q78 q79 q7a q7b q7c q7d); (try clear q7l q7m q7n q7o q7p q7q q7r); (try clear q7w q7x q7y q7z); (try clear q87 q88 q89 q8a q8b q8c q8d); (try clear q8l q8m q8n q8o q8p q8q q8r); (try clear q8z q90 q91 q92 q93 q94 q95); (try clear p2); (try clear p6); obtain ⟨kq, q0a, qx, q00, q01, q02, q03, q0b, q0c, qy, q0d, q0e, q0f, q0g, q0h, HA, HJ59, q4, q8, qh, qj, HB⟩ := hcut
    cases kq with
    | zero => exact absurd HA.out (by simp [sums_join.j1])
    | succ kj59 =>
     have H := HA.out; clear HA
     simp only [sums_join.j1] at H
     replace H := Option.bind_eq_some_iff.mp H; obtain ⟨q0p, q3e, H⟩ := H; replace H : (if (wrap64 ((wrap64 (q0p + qx)) - qy)) < 250 then ((sums_aligned.f q0a qx q00 q01 q02 q03 q0b q0c qy q0d q0e q0f q0g q0h a2).bind fun qo => (some (qo.1, qo.2.1, qo.2.2.1, qo.2.2.2.1, qo.2.2.2.2.1, qo.2.2.2.2.2.1, qo.2.2.2.2.2.2))) else (none)) = some (r1, r2, r3, r4, r5, r6, r7) := H; have A78 := Aside0.mk q3e; clear q3e
     by_cases c79 : (wrap64 ((wrap64 (q0p + qx)) - qy)) < 250
     · rw [if_pos c79] at H
       have q96 : decide ((wrap64 ((wrap64 (q0p + qx)) - qy)) < 250) = true := decide_eq_true c79; clear c79; replace H := Option.bind_eq_some_iff.mp H; obtain ⟨⟨q05, q0i, q0v, q14, q18, q1b, q1g⟩, q3f, H⟩ := H; replace H : (some (q05, q0i, q0v, q14, q18, q1b, q1g)) = some (r1, r2, r3, r4, r5, r6, r7) := H; have A80 := Aside0.mk q3f; clear q3f
       simp only [Option.some.injEq, Prod.mk.injEq] at H
       obtain ⟨rfl, rfl, rfl, rfl, rfl, rfl, rfl⟩ := H
       try go_wp2
       replace q4 := Aside0.mk (blk_drew q4.out); replace q8 := Aside0.mk (blk_drew q8.out); replace qh := Aside0.mk (blk_drew qh.out); replace qj := Aside0.mk (blk_drew qj.out); replace HB := Aside0.mk (below_drew1 HB.out); refine start_ (n := 10) (S := fun w' => w'.cell? ⟨qg, 0, none⟩ = some (.bool q0a) ∧ w'.cell? ⟨qg, 1, none⟩ = some (.int .i64 qx) ∧ w'.cell? ⟨qg, 2, none⟩ = some (.int .u64 q00) ∧ w'.cell? ⟨qg, 3, none⟩ = some (.int .u64 q01) ∧ w'.cell? ⟨qg, 4, none⟩ = some (.int .u64 q02) ∧ w'.cell? ⟨qg, 5, none⟩ = some (.int .u64 q03) ∧ w'.cell? ⟨qg, 6, none⟩ = some (.bool q0b) ∧ w'.cell? ⟨qi, 0, none⟩ = some (.bool q0c) ∧ w'.cell? ⟨qi, 1, none⟩ = some (.int .i64 qy) ∧ w'.cell? ⟨qi, 2, none⟩ = some (.int .u64 q0d) ∧ w'.cell? ⟨qi, 3, none⟩ = some (.int .u64 q0e) ∧ w'.cell? ⟨qi, 4, none⟩ = some (.int .u64 q0f) ∧ w'.cell? ⟨qi, 5, none⟩ = some (.int .u64 q0g) ∧ w'.cell? ⟨qi, 6, none⟩ = some (.bool q0h)) (ds := []) #[false, false, false, false, false, false, false, false, false, false] (by kernel_rfl) rfl rfl ⟨bc q4 0, bc q4 1, bc q4 2, bc q4 3, bc q4 4, bc q4 5, bc q4 6, bc q8 0, bc q8 1, bc q8 2, bc q8 3, bc q8 4, bc q8 5, bc q8 6⟩ (fun hHeld => ?_); refine with_tabW sums_join.tab10 sums_join.bits10 (fun HT_ HW_ => ?_)
       generalize wc.drew = w81 at q4 q8 qh qj HB hHeld ⊢
       refine pure_ (i := 0) (N := some 44) (v := ?_) (a' := ?_) #[true, false, false, false, false, false, false, false, false, false] rfl rfl (any_of HT_.out (by kernel_rfl)) (fun _ _ _ h => h) (Or.inl ⟨by rfl, ?_⟩) ?_ ?_; rotate_left
       · intro w'
         go_simp
         with_reducible rfl
       rotate_left
       · exact APq
       refine pure_ (i := 3) (N := some 47) (v := ?_) (a' := ?_) #[true, false, false, true, false, false, false, false, false, false] rfl rfl (any_of HT_.out (by kernel_rfl)) (fun _ _ _ h => h) (Or.inl ⟨by rfl, ?_⟩) ?_ ?_; rotate_left
       · intro w'
         go_simp
         with_reducible rfl
       rotate_left
       · exact APq
       refine pure_ (i := 6) (N := some 50) (v := ?_) (a' := ?_) #[true, false, false, true, false, false, true, false, false, false] rfl rfl (any_of HT_.out (by kernel_rfl)) (fun _ _ _ h => h) (Or.inl ⟨by rfl, ?_⟩) ?_ ?_; rotate_left
       · intro w'
         go_simp
         with_reducible rfl
       rotate_left
       · exact APq
       refine take_ (i := 1) (N := some 45) (v := ?_) (a' := ?_) #[true, true, false, true, false, false, true, false, false, false] rfl rfl (take_ofW HT_.out HW_.out (by kernel_rfl)) (fun _ _ _ h => h) (Or.inl ⟨by rfl, ?_⟩) hHeld ?_ ?_; rotate_left
       · rintro w' ⟨s0, s1, s2, s3, s4, s5, s6, s7, s8, s9, s10, s11, s12, s13⟩
         go_simp
         with_reducible rfl
       rotate_left
       · exact APq
       refine take_ (i := 4) (N := some 48) (v := ?_) (a' := ?_) #[true, true, false, true, true, false, true, false, false, false] rfl rfl (take_ofW HT_.out HW_.out (by kernel_rfl)) (fun _ _ _ h => h) (Or.inl ⟨by rfl, ?_⟩) hHeld ?_ ?_; rotate_left
       · rintro w' ⟨s0, s1, s2, s3, s4, s5, s6, s7, s8, s9, s10, s11, s12, s13⟩
         go_simp
         with_reducible rfl
       rotate_left
       · exact APq
       refine take_ (i := 7) (N := some 51) (v := ?_) (a' := ?_) #[true, true, false, true, true, false, true, true, false, false] rfl rfl (take_ofW HT_.out HW_.out (by kernel_rfl)) (fun _ _ _ h => h) (Or.inl ⟨by rfl, ?_⟩) hHeld ?_ ?_; rotate_left
       · rintro w' ⟨s0, s1, s2, s3, s4, s5, s6, s7, s8, s9, s10, s11, s12, s13⟩
         go_simp
         with_reducible rfl
       rotate_left
       · exact APq
       refine one_ (i := 2) (N := some 46) #[true, true, true, true, true, false, true, true, false, false] rfl rfl (one_of HT_.out (by kernel_rfl)) (by decide) (fun K hK => ?_); refine goes_ Try.func62 (by kernel_rfl) rfl #[.agg #[.int .u64 q00, .int .u64 q01, .int .u64 q02, .int .u64 q03]] (by rfl) rfl rfl LMq ?_
       with_reducible refine (wide_Len.calls q00 q01 q02 q03 q0p _ A78.out).mono ?_
       rintro e w82 ⟨rfl, hb⟩; refine ⟨_, rfl, ?_⟩; replace q4 := Aside0.mk (blk_below q4.out hb); replace q8 := Aside0.mk (blk_below q8.out hb); replace qh := Aside0.mk (blk_below qh.out hb); replace qj := Aside0.mk (blk_below qj.out hb); replace HB := Aside0.mk (below_step HB.out hb)
       (try clear hb)
       (try clear hb2)
       (try clear hk)
       (try clear hi)
       refine hK.out _ _ ⟨bc q4 0, bc q4 1, bc q4 2, bc q4 3, bc q4 4, bc q4 5, bc q4 6, bc q8 0, bc q8 1, bc q8 2, bc q8 3, bc q8 4, bc q8 5, bc q8 6⟩ (fun hHeld => ?_); clear hK K; refine norm_ (a' := ?_) ?_ ?_; rotate_left
       · show Act.put _ (some 46) _ = _
         exact APq
       refine pure_ (i := 5) (N := some 49) (v := ?_) (a' := ?_) #[true, true, true, true, true, true, true, true, false, false] rfl rfl (any_of HT_.out (by kernel_rfl)) (fun _ _ _ h => h) (Or.inl ⟨by rfl, ?_⟩) ?_ ?_; rotate_left
       · intro w'
         go_simp
         with_reducible rfl
       rotate_left
       · exact APq
       refine pure_ (i := 8) (N := some 52) (v := ?_) (a' := ?_) #[true, true, true, true, true, true, true, true, true, false] rfl rfl (any_of HT_.out (by kernel_rfl)) (fun _ _ _ h => h) (Or.inl ⟨by rfl, ?_⟩) ?_ ?_; rotate_left
       · intro w'
         go_simp
         with_reducible rfl
       rotate_left
       · exact APq
       refine pure_ (i := 9) (N := some 53) (v := ?_) (a' := ?_) #[true, true, true, true, true, true, true, true, true, true] rfl rfl (any_of HT_.out (by kernel_rfl)) (fun _ _ _ h => h) (Or.inl ⟨by rfl, ?_⟩) ?_ ?_; rotate_left
       · intro w'
         go_simp
         with_reducible rfl
       rotate_left
       · exact APq
       refine done_ (done_of HT_.out (by kernel_rfl)) ?_; have hnb83 := qp.out; have hnc83 := qq.out; have hnb84 := q06.out; have hnc84 := qr.out; have hnb85 := q07.out; have hnc85 := qs.out; obtain ⟨_, _, _, _, _, _, _, _, _, _, _, _, _, _⟩ := W7q q4; have hnb87 := q0q.out; have hnc87 := qu.out; have hnb88 := q08.out; have hnc88 := qt.out; obtain ⟨_, _, _, _, _, _, _, _, _, _, _, _, _, _⟩ := W7q q8
       try go_wp2_with (first | ((with_reducible refine gate_callee (f := 95) rfl ?_); refine goesL_ (some 57) rfl rfl Try.func95 (by kernel_rfl) rfl #[.agg #[.bool q0a, .int .i64 qx, .int .u64 q00, .int .u64 q01, .int .u64 q02, .int .u64 q03, .bool q0b], .agg #[.bool q0c, .int .i64 qy, .int .u64 q0d, .int .u64 q0e, .int .u64 q0f, .int .u64 q0g, .bool q0h], .int .i64 a2] rfl LMq ?_; (with_reducible refine (sums_aligned.calls q0a qx q00 q01 q02 q03 q0b q0c qy q0d q0e q0f q0g q0h a2 q05 q0i q0v q14 q18 q1b q1g _ A80.out).mono ?_); rintro e w90 ⟨rfl, hb⟩; refine ⟨_, rfl, ?_⟩; replace q4 := Aside0.mk (blk_below (g := qg) (o := .cells #[.bool q0a, .int .i64 qx, .int .u64 q00, .int .u64 q01, .int .u64 q02, .int .u64 q03, .bool q0b] 61 (0, 0)) (kB q4) hb); replace q8 := Aside0.mk (blk_below (g := qi) (o := .cells #[.bool q0c, .int .i64 qy, .int .u64 q0d, .int .u64 q0e, .int .u64 q0f, .int .u64 q0g, .bool q0h] 61 (0, 0)) (kB q8) hb); replace qh := Aside0.mk (blk_below (g := ql) (o := .cells #[.bool false, .int .i64 0, .int .u64 0, .int .u64 0, .int .u64 0, .int .u64 0, .bool false] 61 (0, 0)) (kB qh) hb); replace qj := Aside0.mk (blk_below (g := qw) (o := .cells #[.int .u64 0, .int .u64 0, .int .u64 0, .int .u64 0] 58 (0, 0)) (kB qj) hb); replace HB := Aside0.mk (below_step (by repeat (first | (with_reducible first | exact HB.out | apply below_alloc | apply pw_below_drewN | apply below_drew1 | refine below_set ?_ qk.out | refine below_set ?_ qm.out | refine below_set ?_ qv.out | refine below_set ?_ qz.out) | exact HB.out)) hb); (try clear hb); (try clear hb2); (try clear hk); (try clear hi); have hnb91 := q0r.out; have hnc91 := q0s.out; obtain ⟨_, _, _, _, _, _, _, _, _, _, _, _, _, _⟩ := W7q qh))
       refine bodyPost_ret (results_cell_row rfl _ _ ql 61 #[.bool q05, .int .i64 q0i, .int .u64 q0v, .int .u64 q14, .int .u64 q18, .int .u64 q1b, .bool q1g] (0, 0) _ rfl (by (with_reducible repeat (first | refine blk_drewN ?_ _ | refine blk_drew ?_ | refine blk_alloc ?_ _)); refine blk_put (cs := #[.bool q05, .int .i64 q0i, .int .u64 q0v, .int .u64 q14, .int .u64 q18, .int .u64 q1b, .bool false]) ?_ 6 _ rfl; refine blk_put (cs := #[.bool q05, .int .i64 q0i, .int .u64 q0v, .int .u64 q14, .int .u64 q18, .int .u64 0, .bool false]) ?_ 5 _ rfl; refine blk_put (cs := #[.bool q05, .int .i64 q0i, .int .u64 q0v, .int .u64 q14, .int .u64 0, .int .u64 0, .bool false]) ?_ 4 _ rfl; refine blk_put (cs := #[.bool q05, .int .i64 q0i, .int .u64 q0v, .int .u64 0, .int .u64 0, .int .u64 0, .bool false]) ?_ 3 _ rfl; refine blk_put (cs := #[.bool q05, .int .i64 q0i, .int .u64 0, .int .u64 0, .int .u64 0, .int .u64 0, .bool false]) ?_ 2 _ rfl; refine blk_put (cs := #[.bool q05, .int .i64 0, .int .u64 0, .int .u64 0, .int .u64 0, .int .u64 0, .bool false]) ?_ 1 _ rfl; refine blk_put (cs := #[.bool false, .int .i64 0, .int .u64 0, .int .u64 0, .int .u64 0, .int .u64 0, .bool false]) ?_ 0 _ rfl; (with_reducible repeat (first | refine blk_drewN ?_ _ | refine blk_drew ?_ | refine blk_alloc ?_ _)); exact qh.out) Try.underlying61 rfl (by kernel_rfl)) rfl ?_; exact ⟨by first | rfl | (simp [errW_none, errW_some] <;> rfl) | (simp [*, errW_none, errW_some] <;> rfl), by repeat (first | (with_reducible first | exact HB.out | apply below_alloc | apply pw_below_drewN | apply below_drew1 | refine below_set ?_ qk.out | refine below_set ?_ qm.out | refine below_set ?_ qv.out | refine below_set ?_ qz.out) | exact HB.out)⟩
     rw [if_neg c79] at H
     have q96 : decide ((wrap64 ((wrap64 (q0p + qx)) - qy)) < 250) = false := decide_eq_false c79; clear c79; exact absurd H (by simp)
end Go.Proofs.Ytbgefpeicmbgiaa.X
