import Derived.Test.YtbgefpeicmbgiaaKP4
import Derived.Test.YtbgefpeicmbgiaaKPXprodexact
import Derived.Test.YtbgefpeicmbgiaaKPXsumsjoin
section
namespace Go.Proofs.Ytbgefpeicmbgiaa.X
open Go.RowKit Go.Proofs.YtbgefpeicmbgiaaW.PrintWords Go.Proofs.YtbgefpeicmbgiaaW.PrintLast Go.Proofs.YtbgefpeicmbgiaaW.PrintMore
attribute [local go_sem] max2_int min2_int max_two min_two max_three min_three max_four min_four   
set_option linter.unusedVariables false
set_option linter.unusedSimpArgs false
def sums_Exact.f (k : Nat) (q1 : Bool) (q2 : Int) (q3 : Int) (q4 : Int) (q5 : Int) (q6 : Int) (q7 : Bool) (qa : Bool) (qb : Int) (qc : Int) (qd : Int) (qe : Int) (qf : Int) (qg : Bool) (a2 : Int) : Option (Bool × Int × Int × Int × Int × Int × Bool × Option Int) := (sums_right.f q1 q2 q3 q4 q5 q6 q7).bind fun qp => (if qp = true then ((sums_right.f qa qb qc qd qe qf qg).bind fun qo => (if qo = true then ((sums_join.f k q1 q2 q3 q4 q5 q6 q7 qa qb qc qd qe qf qg a2).bind fun q0 => (some (q0.1, q0.2.1, q0.2.2.1, q0.2.2.2.1, q0.2.2.2.2.1, q0.2.2.2.2.2.1, q0.2.2.2.2.2.2, none))) else (some (false, 0, 0, 0, 0, 0, false, some 1)))) else (some (false, 0, 0, 0, 0, 0, false, some 1)))
theorem sums_Exact.mono : ∀ a0 a1 a2 a3 a4 a5 a6 a7 a8 a9 a10 a11 a12 a13 a14 k, LeO (sums_Exact.f k a0 a1 a2 a3 a4 a5 a6 a7 a8 a9 a10 a11 a12 a13 a14) (sums_Exact.f (k + 1) a0 a1 a2 a3 a4 a5 a6 a7 a8 a9 a10 a11 a12 a13 a14) := by
 intro a0 a1 a2 a3 a4 a5 a6 a7 a8 a9 a10 a11 a12 a13 a14 k
 unfold sums_Exact.f
 repeat' first
  | (with_reducible exact sums_join.mono _ _ _ _ _ _ _ _ _ _ _ _ _ _ _ _)
  | (with_reducible exact LeO.refl _)
  | (with_reducible exact LeO.none _)
  | (with_reducible refine LeO.ite ?_ ?_)
  | (with_reducible refine LeO.bind ?_ (fun _ => ?_))
  | exact sums_join.mono _ _ _ _ _ _ _ _ _ _ _ _ _ _ _ _
  | exact LeO.none _
  | refine LeO.ite ?_ ?_
  | refine LeO.bind ?_ (fun _ => ?_)
set_option maxHeartbeats 8000000 in
set_option maxRecDepth 100000 in
theorem sums_Exact.calls (k : Nat) (q1 : Bool) (q2 : Int) (q3 : Int) (q4 : Int) (q5 : Int) (q6 : Int) (q7 : Bool) (qa : Bool) (qb : Int) (qc : Int) (qd : Int) (qe : Int) (qf : Int) (qg : Bool) (a2 : Int) (r1 : Bool) (r2 : Int) (r3 : Int) (r4 : Int) (r5 : Int) (r6 : Int) (r7 : Bool) (r8 : Option Int) (w : World) (h : sums_Exact.f k q1 q2 q3 q4 q5 q6 q7 qa qb qc qd qe qf qg a2 = some (r1, r2, r3, r4, r5, r6, r7, r8)) :
 Calls Try.prog 50 #[.agg #[.bool q1, .int .i64 q2, .int .u64 q3, .int .u64 q4, .int .u64 q5, .int .u64 q6, .bool q7], .agg #[.bool qa, .int .i64 qb, .int .u64 qc, .int .u64 qd, .int .u64 qe, .int .u64 qf, .bool qg], .int .i64 a2] w fun e w' => e = .returned (.tuple #[.agg #[.bool r1, .int .i64 r2, .int .u64 r3, .int .u64 r4, .int .u64 r5, .int .u64 r6, .bool r7], errW r8]) ∧ Below w.heap.size w w' := by
 have hu61 := Try.underlying61; have hu80 := Try.underlying80; have hu119 := Try.underlying119; have HB := Aside0.mk (Below.refl w.heap.size w); have H : ((sums_right.f q1 q2 q3 q4 q5 q6 q7).bind fun qp => (if qp = true then ((sums_right.f qa qb qc qd qe qf qg).bind fun qo => (if qo = true then ((sums_join.f k q1 q2 q3 q4 q5 q6 q7 qa qb qc qd qe qf qg a2).bind fun q0 => (some (q0.1, q0.2.1, q0.2.2.1, q0.2.2.2.1, q0.2.2.2.2.1, q0.2.2.2.2.2.1, q0.2.2.2.2.2.2, none))) else (some (false, 0, 0, 0, 0, 0, false, some 1)))) else (some (false, 0, 0, 0, 0, 0, false, some 1)))) = some (r1, r2, r3, r4, r5, r6, r7, r8) := h; clear h; replace H := Option.bind_eq_some_iff.mp H; obtain ⟨qp, A40, H⟩ := H; replace H : (if qp = true then ((sums_right.f qa qb qc qd qe qf qg).bind fun qo => (if qo = true then ((sums_join.f k q1 q2 q3 q4 q5 q6 q7 qa qb qc qd qe qf qg a2).bind fun q0 => (some (q0.1, q0.2.1, q0.2.2.1, q0.2.2.2.1, q0.2.2.2.2.1, q0.2.2.2.2.2.1, q0.2.2.2.2.2.2, none))) else (some (false, 0, 0, 0, 0, 0, false, some 1)))) else (some (false, 0, 0, 0, 0, 0, false, some 1))) = some (r1, r2, r3, r4, r5, r6, r7, r8) := H; have A4 := Aside0.mk A40; clear A40
 by_cases c5 : qp = true
 · subst c5
   have H1 : ((sums_right.f qa qb qc qd qe qf qg).bind fun qo => (if qo = true then ((sums_join.f k q1 q2 q3 q4 q5 q6 q7 qa qb qc qd qe qf qg a2).bind fun q0 => (some (q0.1, q0.2.1, q0.2.2.1, q0.2.2.2.1, q0.2.2.2.2.1, q0.2.2.2.2.2.1, q0.2.2.2.2.2.2, none))) else (some (false, 0, 0, 0, 0, 0, false, some 1)))) = some (r1, r2, r3, r4, r5, r6, r7, r8) := by rw [if_pos rfl] at H; exact H
   clear H; have H := H1; clear H1; replace H := Option.bind_eq_some_iff.mp H; obtain ⟨qo, A60, H⟩ := H; replace H : (if qo = true then ((sums_join.f k q1 q2 q3 q4 q5 q6 q7 qa qb qc qd qe qf qg a2).bind fun q0 => (some (q0.1, q0.2.1, q0.2.2.1, q0.2.2.2.1, q0.2.2.2.2.1, q0.2.2.2.2.2.1, q0.2.2.2.2.2.2, none))) else (some (false, 0, 0, 0, 0, 0, false, some 1))) = some (r1, r2, r3, r4, r5, r6, r7, r8) := H; have A6 := Aside0.mk A60; clear A60
   by_cases c7 : qo = true
   · subst c7
     have H1 : ((sums_join.f k q1 q2 q3 q4 q5 q6 q7 qa qb qc qd qe qf qg a2).bind fun q0 => (some (q0.1, q0.2.1, q0.2.2.1, q0.2.2.2.1, q0.2.2.2.2.1, q0.2.2.2.2.2.1, q0.2.2.2.2.2.2, none))) = some (r1, r2, r3, r4, r5, r6, r7, r8) := by rw [if_pos rfl] at H; exact H
     clear H; have H := H1; clear H1; replace H := Option.bind_eq_some_iff.mp H; obtain ⟨⟨qw, qx, qy, qz, q00, q01, q02⟩, A80, H⟩ := H; replace H : (some (qw, qx, qy, qz, q00, q01, q02, none)) = some (r1, r2, r3, r4, r5, r6, r7, r8) := H; have A8 := Aside0.mk A80; clear A80
     simp only [Option.some.injEq, Prod.mk.injEq] at H
     obtain ⟨rfl, rfl, rfl, rfl, rfl, rfl, rfl, rfl⟩ := H
     go_enter Try.func50, Try.ntmps50
     go_wp2_with (first | ((with_reducible refine gate_dst (N := 3) rfl ?_); refine box_event ?hg (N := 3) ?hd (cs := #[.bool q1, .int .i64 q2, .int .u64 q3, .int .u64 q4, .int .u64 q5, .int .u64 q6, .bool q7]) (t := 61) ?hr ?_; (case hd => rfl); (case hg => rfl); (case hr => first | (go_simp; done) | (go_simp; rfl)); intro q8 hg w9 hbox hb; have q9 := Aside0.mk (hbox); have q03 := Aside0.mk ((by rw [hg]; exact (below_size (kH HB)) : w.heap.size ≤ q8)); have qi := Aside0.mk ((by rw [hg]; exact (below_size (kH HB)) : w.heap.size ≤ q8)); replace HB := Aside0.mk (below_step (kH HB) hb); clear hb hbox hg) | ((with_reducible refine gate_dst (N := 4) rfl ?_); refine box_event ?hg (N := 4) ?hd (cs := #[.bool qa, .int .i64 qb, .int .u64 qc, .int .u64 qd, .int .u64 qe, .int .u64 qf, .bool qg]) (t := 61) ?hr ?_; (case hd => rfl); (case hg => rfl); (case hr => first | (go_simp; done) | (go_simp; rfl)); intro qh hg w10 hbox hb; have qj := Aside0.mk (hbox); have q04 := Aside0.mk ((by rw [hg]; exact (below_size (kHs HB qi)) : w.heap.size ≤ qh)); have ql := Aside0.mk ((by rw [hg]; exact (below_size (kHs HB qi)) : w.heap.size ≤ qh)); replace HB := Aside0.mk (below_step (kHs HB qi) hb); have qq := Aside0.mk ((by rw [hg]; exact Nat.ne_of_lt (blk_lt (g := q8) (o := .cells #[.bool q1, .int .i64 q2, .int .u64 q3, .int .u64 q4, .int .u64 q5, .int .u64 q6, .bool q7] 61 (0, 0)) (kB q9)) : q8 ≠ qh)); have qr := Aside0.mk ((by rw [hg]; exact Nat.ne_of_gt (blk_lt (g := q8) (o := .cells #[.bool q1, .int .i64 q2, .int .u64 q3, .int .u64 q4, .int .u64 q5, .int .u64 q6, .bool q7] 61 (0, 0)) (kB q9)) : qh ≠ q8)); replace q9 := Aside0.mk (blk_below (g := q8) (o := .cells #[.bool q1, .int .i64 q2, .int .u64 q3, .int .u64 q4, .int .u64 q5, .int .u64 q6, .bool q7] 61 (0, 0)) (kB q9) hb); clear hb hbox hg) | ((with_reducible refine gate_dst (N := 6) rfl ?_); refine box_event ?hg (N := 6) ?hd (cs := #[.bool false, .int .i64 0, .int .u64 0, .int .u64 0, .int .u64 0, .int .u64 0, .bool false]) (t := 61) ?hr ?_; (case hd => rfl); (case hg => rfl); (case hr => first | (go_simp; done) | (go_simp; rfl)); intro qk hg w11 hbox hb; have qm := Aside0.mk (hbox); have q05 := Aside0.mk ((by rw [hg]; exact (below_size (kHt HB qi ql)) : w.heap.size ≤ qk)); have qn := Aside0.mk ((by rw [hg]; exact (below_size (kHt HB qi ql)) : w.heap.size ≤ qk)); replace HB := Aside0.mk (below_step (kHt HB qi ql) hb); have qs := Aside0.mk ((by rw [hg]; exact Nat.ne_of_lt (blk_lt (g := q8) (o := .cells #[.bool q1, .int .i64 q2, .int .u64 q3, .int .u64 q4, .int .u64 q5, .int .u64 q6, .bool q7] 61 (0, 0)) (kB q9)) : q8 ≠ qk)); have qt := Aside0.mk ((by rw [hg]; exact Nat.ne_of_gt (blk_lt (g := q8) (o := .cells #[.bool q1, .int .i64 q2, .int .u64 q3, .int .u64 q4, .int .u64 q5, .int .u64 q6, .bool q7] 61 (0, 0)) (kB q9)) : qk ≠ q8)); replace q9 := Aside0.mk (blk_below (g := q8) (o := .cells #[.bool q1, .int .i64 q2, .int .u64 q3, .int .u64 q4, .int .u64 q5, .int .u64 q6, .bool q7] 61 (0, 0)) (kB q9) hb); have qu := Aside0.mk ((by rw [hg]; exact Nat.ne_of_lt (blk_lt (g := qh) (o := .cells #[.bool qa, .int .i64 qb, .int .u64 qc, .int .u64 qd, .int .u64 qe, .int .u64 qf, .bool qg] 61 (0, 0)) (kB qj)) : qh ≠ qk)); have qv := Aside0.mk ((by rw [hg]; exact Nat.ne_of_gt (blk_lt (g := qh) (o := .cells #[.bool qa, .int .i64 qb, .int .u64 qc, .int .u64 qd, .int .u64 qe, .int .u64 qf, .bool qg] 61 (0, 0)) (kB qj)) : qk ≠ qh)); replace qj := Aside0.mk (blk_below (g := qh) (o := .cells #[.bool qa, .int .i64 qb, .int .u64 qc, .int .u64 qd, .int .u64 qe, .int .u64 qf, .bool qg] 61 (0, 0)) (kB qj) hb); clear hb hbox hg; have hnb12 := qq.out; have hnc12 := qr.out; have hnb13 := qs.out; have hnc13 := qt.out; obtain ⟨_, _, _, _, _, _, _, _, _, _, _, _, _, _⟩ := W7q q9) | ((with_reducible refine gate_callee (f := 84) rfl ?_); refine goesL_ (some 9) rfl rfl Try.func84 (by kernel_rfl) rfl #[.agg #[.bool q1, .int .i64 q2, .int .u64 q3, .int .u64 q4, .int .u64 q5, .int .u64 q6, .bool q7]] rfl LMq ?_; (with_reducible refine (sums_right.calls q1 q2 q3 q4 q5 q6 q7 true _ A4.out).mono ?_); rintro e w15 ⟨rfl, hb⟩; refine ⟨_, rfl, ?_⟩; replace q9 := Aside0.mk (blk_below (g := q8) (o := .cells #[.bool q1, .int .i64 q2, .int .u64 q3, .int .u64 q4, .int .u64 q5, .int .u64 q6, .bool q7] 61 (0, 0)) (kB q9) hb); replace qj := Aside0.mk (blk_below (g := qh) (o := .cells #[.bool qa, .int .i64 qb, .int .u64 qc, .int .u64 qd, .int .u64 qe, .int .u64 qf, .bool qg] 61 (0, 0)) (kB qj) hb); replace qm := Aside0.mk (blk_below (g := qk) (o := .cells #[.bool false, .int .i64 0, .int .u64 0, .int .u64 0, .int .u64 0, .int .u64 0, .bool false] 61 (0, 0)) (kB qm) hb); replace HB := Aside0.mk (below_step (by repeat (first | (with_reducible first | exact HB.out | apply below_alloc | apply pw_below_drewN | apply below_drew1 | refine below_set ?_ qi.out | refine below_set ?_ ql.out | refine below_set ?_ qn.out) | exact HB.out)) hb); (try clear hb); (try clear hb2); (try clear hk); (try clear hi); have hnb16 := qu.out; have hnc16 := qv.out; obtain ⟨_, _, _, _, _, _, _, _, _, _, _, _, _, _⟩ := W7q qj) | (go_at_call 84; (with_reducible refine (sums_right.calls qa qb qc qd qe qf qg true _ A6.out).mono ?_); rintro e w18 ⟨rfl, hb⟩; replace q9 := Aside0.mk (blk_below (g := q8) (o := .cells #[.bool q1, .int .i64 q2, .int .u64 q3, .int .u64 q4, .int .u64 q5, .int .u64 q6, .bool q7] 61 (0, 0)) (kB q9) hb); replace qj := Aside0.mk (blk_below (g := qh) (o := .cells #[.bool qa, .int .i64 qb, .int .u64 qc, .int .u64 qd, .int .u64 qe, .int .u64 qf, .bool qg] 61 (0, 0)) (kB qj) hb); replace qm := Aside0.mk (blk_below (g := qk) (o := .cells #[.bool false, .int .i64 0, .int .u64 0, .int .u64 0, .int .u64 0, .int .u64 0, .bool false] 61 (0, 0)) (kB qm) hb); replace HB := Aside0.mk (below_step (by repeat (first | (with_reducible first | exact HB.out | apply below_alloc | apply pw_below_drewN | apply below_drew1 | refine below_set ?_ qi.out | refine below_set ?_ ql.out | refine below_set ?_ qn.out) | exact HB.out)) hb); (try clear hb); (try clear hb2); (try clear hk); (try clear hi); obtain ⟨_, _, _, _, _, _, _, _, _, _, _, _, _, _⟩ := W7q q9; obtain ⟨_, _, _, _, _, _, _, _, _, _, _, _, _, _⟩ := W7q qj) | ((with_reducible refine gate_callee (f := 82) rfl ?_); refine goesL_ (some 21) rfl rfl Try.func82 (by kernel_rfl) rfl #[.agg #[.bool q1, .int .i64 q2, .int .u64 q3, .int .u64 q4, .int .u64 q5, .int .u64 q6, .bool q7], .agg #[.bool qa, .int .i64 qb, .int .u64 qc, .int .u64 qd, .int .u64 qe, .int .u64 qf, .bool qg], .int .i64 a2] rfl LMq ?_; (with_reducible refine (sums_join.calls k q1 q2 q3 q4 q5 q6 q7 qa qb qc qd qe qf qg a2 qw qx qy qz q00 q01 q02 _ A8.out).mono ?_); rintro e w21 ⟨rfl, hb⟩; refine ⟨_, rfl, ?_⟩; replace q9 := Aside0.mk (blk_below (g := q8) (o := .cells #[.bool q1, .int .i64 q2, .int .u64 q3, .int .u64 q4, .int .u64 q5, .int .u64 q6, .bool q7] 61 (0, 0)) (kB q9) hb); replace qj := Aside0.mk (blk_below (g := qh) (o := .cells #[.bool qa, .int .i64 qb, .int .u64 qc, .int .u64 qd, .int .u64 qe, .int .u64 qf, .bool qg] 61 (0, 0)) (kB qj) hb); replace qm := Aside0.mk (blk_below (g := qk) (o := .cells #[.bool false, .int .i64 0, .int .u64 0, .int .u64 0, .int .u64 0, .int .u64 0, .bool false] 61 (0, 0)) (kB qm) hb); replace HB := Aside0.mk (below_step (by repeat (first | (with_reducible first | exact HB.out | apply below_alloc | apply pw_below_drewN | apply below_drew1 | refine below_set ?_ qi.out | refine below_set ?_ ql.out | refine below_set ?_ qn.out) | exact HB.out)) hb); (try clear hb); (try clear hb2); (try clear hk); (try clear hi); obtain ⟨_, _, _, _, _, _, _, _, _, _, _, _, _, _⟩ := W7q qm))
     refine bodyPost_ret (results_ct rfl _ _ qk 61 #[.bool qw, .int .i64 qx, .int .u64 qy, .int .u64 qz, .int .u64 q00, .int .u64 q01, .bool q02] (0, 0) _ rfl (kF qm) Try.underlying61 rfl (by kernel_rfl)) rfl ?_; exact ⟨by first | rfl | (simp [errW_none, errW_some] <;> rfl) | (simp [*, errW_none, errW_some] <;> rfl), by repeat (first | (with_reducible first | exact HB.out | apply below_alloc | apply pw_below_drewN | apply below_drew1 | refine below_set ?_ qi.out | refine below_set ?_ ql.out | refine below_set ?_ qn.out) | exact HB.out)⟩
   replace c7 := Bool.eq_false_iff.mpr c7; subst c7
   have H1 : (some (false, 0, 0, 0, 0, 0, false, some 1)) = some (r1, r2, r3, r4, r5, r6, r7, r8) := by rw [if_neg (show ¬ (false = true) by decide)] at H; exact H
   clear H; have H := H1; clear H1
   simp only [Option.some.injEq, Prod.mk.injEq] at H
   obtain ⟨rfl, rfl, rfl, rfl, rfl, rfl, rfl, rfl⟩ := H
   go_enter Try.func50, Try.ntmps50
   go_wp2_with (first | ((with_reducible refine gate_dst (N := 3) rfl ?_); refine box_event ?hg (N := 3) ?hd (cs := #[.bool q1, .int .i64 q2, .int .u64 q3, .int .u64 q4, .int .u64 q5, .int .u64 q6, .bool q7]) (t := 61) ?hr ?_; (case hd => rfl); (case hg => rfl); (case hr => first | (go_simp; done) | (go_simp; rfl)); intro q8 hg w23 hbox hb; have q9 := Aside0.mk (hbox); have q03 := Aside0.mk ((by rw [hg]; exact (below_size (kH HB)) : w.heap.size ≤ q8)); have qi := Aside0.mk ((by rw [hg]; exact (below_size (kH HB)) : w.heap.size ≤ q8)); replace HB := Aside0.mk (below_step (kH HB) hb); clear hb hbox hg) | ((with_reducible refine gate_dst (N := 4) rfl ?_); refine box_event ?hg (N := 4) ?hd (cs := #[.bool qa, .int .i64 qb, .int .u64 qc, .int .u64 qd, .int .u64 qe, .int .u64 qf, .bool qg]) (t := 61) ?hr ?_; (case hd => rfl); (case hg => rfl); (case hr => first | (go_simp; done) | (go_simp; rfl)); intro qh hg w24 hbox hb; have qj := Aside0.mk (hbox); have q04 := Aside0.mk ((by rw [hg]; exact (below_size (kHs HB qi)) : w.heap.size ≤ qh)); have ql := Aside0.mk ((by rw [hg]; exact (below_size (kHs HB qi)) : w.heap.size ≤ qh)); replace HB := Aside0.mk (below_step (kHs HB qi) hb); have qq := Aside0.mk ((by rw [hg]; exact Nat.ne_of_lt (blk_lt (g := q8) (o := .cells #[.bool q1, .int .i64 q2, .int .u64 q3, .int .u64 q4, .int .u64 q5, .int .u64 q6, .bool q7] 61 (0, 0)) (kB q9)) : q8 ≠ qh)); have qr := Aside0.mk ((by rw [hg]; exact Nat.ne_of_gt (blk_lt (g := q8) (o := .cells #[.bool q1, .int .i64 q2, .int .u64 q3, .int .u64 q4, .int .u64 q5, .int .u64 q6, .bool q7] 61 (0, 0)) (kB q9)) : qh ≠ q8)); replace q9 := Aside0.mk (blk_below (g := q8) (o := .cells #[.bool q1, .int .i64 q2, .int .u64 q3, .int .u64 q4, .int .u64 q5, .int .u64 q6, .bool q7] 61 (0, 0)) (kB q9) hb); clear hb hbox hg) | ((with_reducible refine gate_dst (N := 6) rfl ?_); refine box_event ?hg (N := 6) ?hd (cs := #[.bool false, .int .i64 0, .int .u64 0, .int .u64 0, .int .u64 0, .int .u64 0, .bool false]) (t := 61) ?hr ?_; (case hd => rfl); (case hg => rfl); (case hr => first | (go_simp; done) | (go_simp; rfl)); intro qk hg w25 hbox hb; have qm := Aside0.mk (hbox); have q05 := Aside0.mk ((by rw [hg]; exact (below_size (kHt HB qi ql)) : w.heap.size ≤ qk)); have qn := Aside0.mk ((by rw [hg]; exact (below_size (kHt HB qi ql)) : w.heap.size ≤ qk)); replace HB := Aside0.mk (below_step (kHt HB qi ql) hb); have qs := Aside0.mk ((by rw [hg]; exact Nat.ne_of_lt (blk_lt (g := q8) (o := .cells #[.bool q1, .int .i64 q2, .int .u64 q3, .int .u64 q4, .int .u64 q5, .int .u64 q6, .bool q7] 61 (0, 0)) (kB q9)) : q8 ≠ qk)); have qt := Aside0.mk ((by rw [hg]; exact Nat.ne_of_gt (blk_lt (g := q8) (o := .cells #[.bool q1, .int .i64 q2, .int .u64 q3, .int .u64 q4, .int .u64 q5, .int .u64 q6, .bool q7] 61 (0, 0)) (kB q9)) : qk ≠ q8)); replace q9 := Aside0.mk (blk_below (g := q8) (o := .cells #[.bool q1, .int .i64 q2, .int .u64 q3, .int .u64 q4, .int .u64 q5, .int .u64 q6, .bool q7] 61 (0, 0)) (kB q9) hb); have qu := Aside0.mk ((by rw [hg]; exact Nat.ne_of_lt (blk_lt (g := qh) (o := .cells #[.bool qa, .int .i64 qb, .int .u64 qc, .int .u64 qd, .int .u64 qe, .int .u64 qf, .bool qg] 61 (0, 0)) (kB qj)) : qh ≠ qk)); have qv := Aside0.mk ((by rw [hg]; exact Nat.ne_of_gt (blk_lt (g := qh) (o := .cells #[.bool qa, .int .i64 qb, .int .u64 qc, .int .u64 qd, .int .u64 qe, .int .u64 qf, .bool qg] 61 (0, 0)) (kB qj)) : qk ≠ qh)); replace qj := Aside0.mk (blk_below (g := qh) (o := .cells #[.bool qa, .int .i64 qb, .int .u64 qc, .int .u64 qd, .int .u64 qe, .int .u64 qf, .bool qg] 61 (0, 0)) (kB qj) hb); clear hb hbox hg; have hnb26 := qq.out; have hnc26 := qr.out; have hnb27 := qs.out; have hnc27 := qt.out; obtain ⟨_, _, _, _, _, _, _, _, _, _, _, _, _, _⟩ := W7q q9) | ((with_reducible refine gate_callee (f := 84) rfl ?_); refine goesL_ (some 9) rfl rfl Try.func84 (by kernel_rfl) rfl #[.agg #[.bool q1, .int .i64 q2, .int .u64 q3, .int .u64 q4, .int .u64 q5, .int .u64 q6, .bool q7]] rfl LMq ?_; (with_reducible refine (sums_right.calls q1 q2 q3 q4 q5 q6 q7 true _ A4.out).mono ?_); rintro e w29 ⟨rfl, hb⟩; refine ⟨_, rfl, ?_⟩; replace q9 := Aside0.mk (blk_below (g := q8) (o := .cells #[.bool q1, .int .i64 q2, .int .u64 q3, .int .u64 q4, .int .u64 q5, .int .u64 q6, .bool q7] 61 (0, 0)) (kB q9) hb); replace qj := Aside0.mk (blk_below (g := qh) (o := .cells #[.bool qa, .int .i64 qb, .int .u64 qc, .int .u64 qd, .int .u64 qe, .int .u64 qf, .bool qg] 61 (0, 0)) (kB qj) hb); replace qm := Aside0.mk (blk_below (g := qk) (o := .cells #[.bool false, .int .i64 0, .int .u64 0, .int .u64 0, .int .u64 0, .int .u64 0, .bool false] 61 (0, 0)) (kB qm) hb); replace HB := Aside0.mk (below_step (by repeat (first | (with_reducible first | exact HB.out | apply below_alloc | apply pw_below_drewN | apply below_drew1 | refine below_set ?_ qi.out | refine below_set ?_ ql.out | refine below_set ?_ qn.out) | exact HB.out)) hb); (try clear hb); (try clear hb2); (try clear hk); (try clear hi); have hnb30 := qu.out; have hnc30 := qv.out; obtain ⟨_, _, _, _, _, _, _, _, _, _, _, _, _, _⟩ := W7q qj) | (go_at_call 84; (with_reducible refine (sums_right.calls qa qb qc qd qe qf qg false _ A6.out).mono ?_); rintro e w32 ⟨rfl, hb⟩; replace q9 := Aside0.mk (blk_below (g := q8) (o := .cells #[.bool q1, .int .i64 q2, .int .u64 q3, .int .u64 q4, .int .u64 q5, .int .u64 q6, .bool q7] 61 (0, 0)) (kB q9) hb); replace qj := Aside0.mk (blk_below (g := qh) (o := .cells #[.bool qa, .int .i64 qb, .int .u64 qc, .int .u64 qd, .int .u64 qe, .int .u64 qf, .bool qg] 61 (0, 0)) (kB qj) hb); replace qm := Aside0.mk (blk_below (g := qk) (o := .cells #[.bool false, .int .i64 0, .int .u64 0, .int .u64 0, .int .u64 0, .int .u64 0, .bool false] 61 (0, 0)) (kB qm) hb); replace HB := Aside0.mk (below_step (by repeat (first | (with_reducible first | exact HB.out | apply below_alloc | apply pw_below_drewN | apply below_drew1 | refine below_set ?_ qi.out | refine below_set ?_ ql.out | refine below_set ?_ qn.out) | exact HB.out)) hb); (try clear hb); (try clear hb2); (try clear hk); (try clear hi); obtain ⟨_, _, _, _, _, _, _, _, _, _, _, _, _, _⟩ := W7q qm))
   refine bodyPost_ret (results_ct rfl _ _ qk 61 #[.bool false, .int .i64 0, .int .u64 0, .int .u64 0, .int .u64 0, .int .u64 0, .bool false] (0, 0) _ rfl (kF qm) Try.underlying61 rfl (by kernel_rfl)) rfl ?_; exact ⟨by first | rfl | (simp [errW_none, errW_some] <;> rfl) | (simp [*, errW_none, errW_some] <;> rfl), by repeat (first | (with_reducible first | exact HB.out | apply below_alloc | apply pw_below_drewN | apply below_drew1 | refine below_set ?_ qi.out | refine below_set ?_ ql.out | refine below_set ?_ qn.out) | exact HB.out)⟩
 replace c5 := Bool.eq_false_iff.mpr c5; subst c5
 have H1 : (some (false, 0, 0, 0, 0, 0, false, some 1)) = some (r1, r2, r3, r4, r5, r6, r7, r8) := by rw [if_neg (show ¬ (false = true) by decide)] at H; exact H
 clear H; have H := H1; clear H1
 simp only [Option.some.injEq, Prod.mk.injEq] at H
 obtain ⟨rfl, rfl, rfl, rfl, rfl, rfl, rfl, rfl⟩ := H
 go_enter Try.func50, Try.ntmps50
 go_wp2_with (first | ((with_reducible refine gate_dst (N := 3) rfl ?_); refine box_event ?hg (N := 3) ?hd (cs := #[.bool q1, .int .i64 q2, .int .u64 q3, .int .u64 q4, .int .u64 q5, .int .u64 q6, .bool q7]) (t := 61) ?hr ?_; (case hd => rfl); (case hg => rfl); (case hr => first | (go_simp; done) | (go_simp; rfl)); intro q8 hg w34 hbox hb; have q9 := Aside0.mk (hbox); have q03 := Aside0.mk ((by rw [hg]; exact (below_size (kH HB)) : w.heap.size ≤ q8)); have qi := Aside0.mk ((by rw [hg]; exact (below_size (kH HB)) : w.heap.size ≤ q8)); replace HB := Aside0.mk (below_step (kH HB) hb); clear hb hbox hg) | ((with_reducible refine gate_dst (N := 4) rfl ?_); refine box_event ?hg (N := 4) ?hd (cs := #[.bool qa, .int .i64 qb, .int .u64 qc, .int .u64 qd, .int .u64 qe, .int .u64 qf, .bool qg]) (t := 61) ?hr ?_; (case hd => rfl); (case hg => rfl); (case hr => first | (go_simp; done) | (go_simp; rfl)); intro qh hg w35 hbox hb; have qj := Aside0.mk (hbox); have q04 := Aside0.mk ((by rw [hg]; exact (below_size (kHs HB qi)) : w.heap.size ≤ qh)); have ql := Aside0.mk ((by rw [hg]; exact (below_size (kHs HB qi)) : w.heap.size ≤ qh)); replace HB := Aside0.mk (below_step (kHs HB qi) hb); have qq := Aside0.mk ((by rw [hg]; exact Nat.ne_of_lt (blk_lt (g := q8) (o := .cells #[.bool q1, .int .i64 q2, .int .u64 q3, .int .u64 q4, .int .u64 q5, .int .u64 q6, .bool q7] 61 (0, 0)) (kB q9)) : q8 ≠ qh)); have qr := Aside0.mk ((by rw [hg]; exact Nat.ne_of_gt (blk_lt (g := q8) (o := .cells #[.bool q1, .int .i64 q2, .int .u64 q3, .int .u64 q4, .int .u64 q5, .int .u64 q6, .bool q7] 61 (0, 0)) (kB q9)) : qh ≠ q8)); replace q9 := Aside0.mk (blk_below (g := q8) (o := .cells #[.bool q1, .int .i64 q2, .int .u64 q3, .int .u64 q4, .int .u64 q5, .int .u64 q6, .bool q7] 61 (0, 0)) (kB q9) hb); clear hb hbox hg) | ((with_reducible refine gate_dst (N := 6) rfl ?_); refine box_event ?hg (N := 6) ?hd (cs := #[.bool false, .int .i64 0, .int .u64 0, .int .u64 0, .int .u64 0, .int .u64 0, .bool false]) (t := 61) ?hr ?_; (case hd => rfl); (case hg => rfl); (case hr => first | (go_simp; done) | (go_simp; rfl)); intro qk hg w36 hbox hb; have qm := Aside0.mk (hbox); have q05 := Aside0.mk ((by rw [hg]; exact (below_size (kHt HB qi ql)) : w.heap.size ≤ qk)); have qn := Aside0.mk ((by rw [hg]; exact (below_size (kHt HB qi ql)) : w.heap.size ≤ qk)); replace HB := Aside0.mk (below_step (kHt HB qi ql) hb); have qs := Aside0.mk ((by rw [hg]; exact Nat.ne_of_lt (blk_lt (g := q8) (o := .cells #[.bool q1, .int .i64 q2, .int .u64 q3, .int .u64 q4, .int .u64 q5, .int .u64 q6, .bool q7] 61 (0, 0)) (kB q9)) : q8 ≠ qk)); have qt := Aside0.mk ((by rw [hg]; exact Nat.ne_of_gt (blk_lt (g := q8) (o := .cells #[.bool q1, .int .i64 q2, .int .u64 q3, .int .u64 q4, .int .u64 q5, .int .u64 q6, .bool q7] 61 (0, 0)) (kB q9)) : qk ≠ q8)); replace q9 := Aside0.mk (blk_below (g := q8) (o := .cells #[.bool q1, .int .i64 q2, .int .u64 q3, .int .u64 q4, .int .u64 q5, .int .u64 q6, .bool q7] 61 (0, 0)) (kB q9) hb); have qu := Aside0.mk ((by rw [hg]; exact Nat.ne_of_lt (blk_lt (g := qh) (o := .cells #[.bool qa, .int .i64 qb, .int .u64 qc, .int .u64 qd, .int .u64 qe, .int .u64 qf, .bool qg] 61 (0, 0)) (kB qj)) : qh ≠ qk)); have qv := Aside0.mk ((by rw [hg]; exact Nat.ne_of_gt (blk_lt (g := qh) (o := .cells #[.bool qa, .int .i64 qb, .int .u64 qc, .int .u64 qd, .int .u64 qe, .int .u64 qf, .bool qg] 61 (0, 0)) (kB qj)) : qk ≠ qh)); replace qj := Aside0.mk (blk_below (g := qh) (o := .cells #[.bool qa, .int .i64 qb, .int .u64 qc, .int .u64 qd, .int .u64 qe, .int .u64 qf, .bool qg] 61 (0, 0)) (kB qj) hb); clear hb hbox hg; have hnb37 := qq.out; have hnc37 := qr.out; have hnb38 := qs.out; have hnc38 := qt.out; obtain ⟨_, _, _, _, _, _, _, _, _, _, _, _, _, _⟩ := W7q q9) | ((with_reducible refine gate_callee (f := 84) rfl ?_); refine goesL_ (some 9) rfl rfl Try.func84 (by kernel_rfl) rfl #[.agg #[.bool q1, .int .i64 q2, .int .u64 q3, .int .u64 q4, .int .u64 q5, .int .u64 q6, .bool q7]] rfl LMq ?_; (with_reducible refine (sums_right.calls q1 q2 q3 q4 q5 q6 q7 false _ A4.out).mono ?_); rintro e w40 ⟨rfl, hb⟩; refine ⟨_, rfl, ?_⟩; replace q9 := Aside0.mk (blk_below (g := q8) (o := .cells #[.bool q1, .int .i64 q2, .int .u64 q3, .int .u64 q4, .int .u64 q5, .int .u64 q6, .bool q7] 61 (0, 0)) (kB q9) hb); replace qj := Aside0.mk (blk_below (g := qh) (o := .cells #[.bool qa, .int .i64 qb, .int .u64 qc, .int .u64 qd, .int .u64 qe, .int .u64 qf, .bool qg] 61 (0, 0)) (kB qj) hb); replace qm := Aside0.mk (blk_below (g := qk) (o := .cells #[.bool false, .int .i64 0, .int .u64 0, .int .u64 0, .int .u64 0, .int .u64 0, .bool false] 61 (0, 0)) (kB qm) hb); replace HB := Aside0.mk (below_step (by repeat (first | (with_reducible first | exact HB.out | apply below_alloc | apply pw_below_drewN | apply below_drew1 | refine below_set ?_ qi.out | refine below_set ?_ ql.out | refine below_set ?_ qn.out) | exact HB.out)) hb); (try clear hb); (try clear hb2); (try clear hk); (try clear hi); have hnb41 := qv.out; have hnc41 := qu.out; obtain ⟨_, _, _, _, _, _, _, _, _, _, _, _, _, _⟩ := W7q qm))
 refine bodyPost_ret (results_ct rfl _ _ qk 61 #[.bool false, .int .i64 0, .int .u64 0, .int .u64 0, .int .u64 0, .int .u64 0, .bool false] (0, 0) _ rfl (kF qm) Try.underlying61 rfl (by kernel_rfl)) rfl ?_; exact ⟨by first | rfl | (simp [errW_none, errW_some] <;> rfl) | (simp [*, errW_none, errW_some] <;> rfl), by repeat (first | (with_reducible first | exact HB.out | apply below_alloc | apply pw_below_drewN | apply below_drew1 | refine below_set ?_ qi.out | refine below_set ?_ ql.out | refine below_set ?_ qn.out) | exact HB.out)⟩
end Go.Proofs.Ytbgefpeicmbgiaa.X
end
section
namespace Go.Proofs.Ytbgefpeicmbgiaa.X
open Go.RowKit Go.Proofs.YtbgefpeicmbgiaaW.PrintWords Go.Proofs.YtbgefpeicmbgiaaW.PrintLast Go.Proofs.YtbgefpeicmbgiaaW.PrintMore
attribute [local go_sem] max2_int min2_int max_two min_two max_three min_three max_four min_four   
set_option linter.unusedVariables false
set_option linter.unusedSimpArgs false
mutual
def prod_Mul.j0 : Nat → Int → Int → Int → Bool → Option (Int × Int)
 | 0, _, _, _, _ => none
 | k + 1, x0, x1, x2, x8 => if x8 = true then ((prod_loud.f k (([x0, x1] : List Int))).bind fun q4 => (some (9221120237041090560, q4))) else ((prod_nothing.f x0 x1).bind fun q6 => (if q6 = true then (some (9221120237041090560, 1)) else ((pat_Finite.f x0).bind fun q3 => (if q3 = true then ((pat_Finite.f x1).bind fun q0 => (prod_Mul.j1 k x0 x1 x2 (!q0))) else (prod_Mul.j1 k x0 x1 x2 true)))))
def prod_Mul.j1 : Nat → Int → Int → Int → Bool → Option (Int × Int)
 | 0, _, _, _, _ => none
 | k + 1, x0, x1, x2, x23 => if x23 = true then ((prod_sign.f x0 x1).bind fun q7 => (some (Go.bits .or .u64 9218868437227405312 q7, 0))) else ((prod_exact.f x0 x1).bind fun q1 => ((rnd_Round.f q1.1 q1.2.1 q1.2.2.1 q1.2.2.2.1 q1.2.2.2.2.1 q1.2.2.2.2.2.1 q1.2.2.2.2.2.2 x2).bind fun q5 => (some (q5.1, q5.2))))
end
def prod_Mul.f (k : Nat) (a0 : Int) (a1 : Int) (a2 : Int) : Option (Int × Int) := (pat_IsNaN.f a0).bind fun q8 => (if q8 = true then (prod_Mul.j0 k a0 a1 a2 true) else ((pat_IsNaN.f a1).bind fun q2 => (prod_Mul.j0 k a0 a1 a2 q2)))
theorem prod_Mul.mono_l : ∀ k, (∀ y0 y1 y2 y3, LeO (prod_Mul.j0 k y0 y1 y2 y3) (prod_Mul.j0 (k + 1) y0 y1 y2 y3)) ∧ (∀ y0 y1 y2 y3, LeO (prod_Mul.j1 k y0 y1 y2 y3) (prod_Mul.j1 (k + 1) y0 y1 y2 y3))
 | 0 => ⟨fun _ _ _ _ r h => by simp [prod_Mul.j0] at h, fun _ _ _ _ r h => by simp [prod_Mul.j1] at h⟩
 | k + 1 => by
  obtain ⟨ih0, ih1⟩ := prod_Mul.mono_l k; refine ⟨?_, ?_⟩
  · intro y0 y1 y2 y3
    unfold prod_Mul.j0
    repeat' first
    | (with_reducible exact ih0 _ _ _ _)
    | (with_reducible exact ih1 _ _ _ _)
    | (with_reducible exact prod_loud.mono _ _)
    | (with_reducible exact LeO.refl _)
    | (with_reducible exact LeO.none _)
    | (with_reducible refine LeO.ite ?_ ?_)
    | (with_reducible refine LeO.bind ?_ (fun _ => ?_))
    | exact ih0 _ _ _ _
    | exact ih1 _ _ _ _
    | exact prod_loud.mono _ _
    | exact LeO.none _
    | refine LeO.ite ?_ ?_
    | refine LeO.bind ?_ (fun _ => ?_)
  intro y0 y1 y2 y3
  unfold prod_Mul.j1
  repeat' first
  | (with_reducible exact ih0 _ _ _ _)
  | (with_reducible exact ih1 _ _ _ _)
  | (with_reducible exact prod_loud.mono _ _)
  | (with_reducible exact LeO.refl _)
  | (with_reducible exact LeO.none _)
  | (with_reducible refine LeO.ite ?_ ?_)
  | (with_reducible refine LeO.bind ?_ (fun _ => ?_))
  | exact ih0 _ _ _ _
  | exact ih1 _ _ _ _
  | exact prod_loud.mono _ _
  | exact LeO.none _
  | refine LeO.ite ?_ ?_
  | refine LeO.bind ?_ (fun _ => ?_)
theorem prod_Mul.mono : ∀ a0 a1 a2 k, LeO (prod_Mul.f k a0 a1 a2) (prod_Mul.f (k + 1) a0 a1 a2) := by
 intro a0 a1 a2 k; obtain ⟨ih0, ih1⟩ := prod_Mul.mono_l k
 unfold prod_Mul.f
 repeat' first
  | (with_reducible exact ih0 _ _ _ _)
  | (with_reducible exact ih1 _ _ _ _)
  | (with_reducible exact prod_loud.mono _ _)
  | (with_reducible exact LeO.refl _)
  | (with_reducible exact LeO.none _)
  | (with_reducible refine LeO.ite ?_ ?_)
  | (with_reducible refine LeO.bind ?_ (fun _ => ?_))
  | exact ih0 _ _ _ _
  | exact ih1 _ _ _ _
  | exact prod_loud.mono _ _
  | exact LeO.none _
  | refine LeO.ite ?_ ?_
  | refine LeO.bind ?_ (fun _ => ?_)
set_option maxHeartbeats 8000000 in
set_option maxRecDepth 100000 in
theorem prod_Mul.calls (k : Nat) (a0 : Int) (a1 : Int) (a2 : Int) (r1 : Int) (r2 : Int) (w : World) (h : prod_Mul.f k a0 a1 a2 = some (r1, r2)) :
 Calls Try.prog 26 #[.int .u64 a0, .int .u64 a1, .int .i64 a2] w fun e w' => e = .returned (.tuple #[.int .u64 r1, .int .u8 r2]) ∧ Below w.heap.size w w' := by
 have HB := Aside0.mk (Below.refl w.heap.size w); have H : ((pat_IsNaN.f a0).bind fun q8 => (if q8 = true then (prod_Mul.j0 k a0 a1 a2 true) else ((pat_IsNaN.f a1).bind fun q2 => (prod_Mul.j0 k a0 a1 a2 q2)))) = some (r1, r2) := h; clear h; have HC4 := Aside0.mk H; clear H
 go_enter Try.func26, Try.ntmps26
 go_upto_region 1 with (fail)
 go_cut [8] (fun v8 wc => ∃ (kq : Nat) (qa : Bool), v8 = .bool qa ∧ Aside0 (prod_Mul.j0 kq a0 a1 a2 qa = some (r1, r2)) ∧ Aside0 (kq ≤ k) ∧ Aside0 (Below w.heap.size w wc))
 case first =>
  have H := HC4.out; clear HC4; replace H := Option.bind_eq_some_iff.mp H; obtain ⟨q8, A50, H⟩ := H; replace H : (if q8 = true then (prod_Mul.j0 k a0 a1 a2 true) else ((pat_IsNaN.f a1).bind fun q2 => (prod_Mul.j0 k a0 a1 a2 q2))) = some (r1, r2) := H; have A5 := Aside0.mk A50; clear A50
  by_cases c6 : q8 = true
  · subst c6
    have H1 : (prod_Mul.j0 k a0 a1 a2 true) = some (r1, r2) := by rw [if_pos rfl] at H; exact H
    clear H; have H := H1; clear H1; have H' := Aside0.mk H; clear H
    go_wp2_with (first | ((with_reducible refine gate_callee (f := 45) rfl ?_); refine goesL_ (some 10) rfl rfl Try.func45 (by kernel_rfl) rfl #[.int .u64 a0] rfl LMq ?_; (with_reducible refine (pat_IsNaN.calls a0 true _ A5.out).mono ?_); rintro e w7 ⟨rfl, hb⟩; refine ⟨_, rfl, ?_⟩; replace HB := Aside0.mk (below_step (kH HB) hb); (try clear hb); (try clear hb2); (try clear hk); (try clear hi)))
    go_meet
    case rel => exact ⟨_, (true), RSq, (by first | exact H' | (subst_vars; exact H')), ⟨by first | omega | exact Nat.le_refl _⟩, ⟨kH HB⟩⟩
  replace c6 := Bool.eq_false_iff.mpr c6; subst c6
  have H1 : ((pat_IsNaN.f a1).bind fun q2 => (prod_Mul.j0 k a0 a1 a2 q2)) = some (r1, r2) := by rw [if_neg (show ¬ (false = true) by decide)] at H; exact H
  clear H; have H := H1; clear H1; replace H := Option.bind_eq_some_iff.mp H; obtain ⟨q2, A80, H⟩ := H; replace H : (prod_Mul.j0 k a0 a1 a2 q2) = some (r1, r2) := H; have A8 := Aside0.mk A80; clear A80; have H' := Aside0.mk H; clear H
  go_wp2_with (first | ((with_reducible refine gate_callee (f := 45) rfl ?_); refine goesL_ (some 10) rfl rfl Try.func45 (by kernel_rfl) rfl #[.int .u64 a0] rfl LMq ?_; (with_reducible refine (pat_IsNaN.calls a0 false _ A5.out).mono ?_); rintro e w9 ⟨rfl, hb⟩; refine ⟨_, rfl, ?_⟩; replace HB := Aside0.mk (below_step (kH HB) hb); (try clear hb); (try clear hb2); (try clear hk); (try clear hi)) | (go_at_call 45; (with_reducible refine (pat_IsNaN.calls a1 q2 _ A8.out).mono ?_); rintro e w10 ⟨rfl, hb⟩; replace HB := Aside0.mk (below_step (kH HB) hb); (try clear hb); (try clear hb2); (try clear hk); (try clear hi)))
  go_meet
  case rel => exact ⟨_, (q2), RSq, (by first | exact H' | (subst_vars; exact H')), ⟨by first | omega | exact Nat.le_refl _⟩, ⟨kH HB⟩⟩
 case rest =>
  clear HC4; (try clear c2); (try clear p2); (try clear c4); (try clear c6); (try clear p6); obtain ⟨kq, qa, rfl, HA, HJ3, HB⟩ := hcut
  cases kq with
  | zero => exact absurd HA.out (by simp [prod_Mul.j0])
  | succ kj3 =>
   have H := HA.out; clear HA
   simp only [prod_Mul.j0] at H
   by_cases c11 : qa = true
   · subst c11
     have H1 : ((prod_loud.f kj3 (([a0, a1] : List Int))).bind fun q4 => (some (9221120237041090560, q4))) = some (r1, r2) := by rw [if_pos rfl] at H; exact H
     clear H; have H := H1; clear H1; obtain ⟨y673, hy673⟩ : ∃ y_ : List Int, y_ = (([a0, a1] : List Int)) := ⟨_, rfl⟩
     replace H : ((prod_loud.f kj3 y673).bind fun q4 => (some (9221120237041090560, q4))) = some (r1, r2) := by first | (rw [hy673]; with_reducible exact H) | (have H2_ := (Option.bind_some _ _).symm.trans H; rw [hy673]; with_reducible exact H2_) | (have H2_ := (Option.bind_some _ _).symm.trans H; with_reducible exact H2_) | with_reducible exact H | (rw [hy673]; exact H) | exact H
     have Ny673 := Aside0.mk hy673; clear hy673; replace H := Option.bind_eq_some_iff.mp H; obtain ⟨q4, qk, H⟩ := H; replace H : (some (9221120237041090560, q4)) = some (r1, r2) := H; have A12 := Aside0.mk qk; clear qk
     simp only [Option.some.injEq, Prod.mk.injEq] at H
     obtain ⟨rfl, rfl⟩ := H
     go_wp2_with (first | ((with_reducible refine gate_dst (N := 17) rfl ?_); refine Kd.R_lit (Kd.int .u64) _ 22 ?hg (N := 17) ?hd (xs := ([a0, a1] : List Int)) (inner := [.int .u64 a0, .int .u64 a1]) (ok := fun _ => True) (okp := fun _ => True) ?hr ?hp (fun _ hk => hk) trivial (Below.refl _ _) (Nat.le_refl _) (by simp) ?_; (case hd => rfl); (case hg => rfl); (case hr => first | (go_simp; done) | (go_simp; rfl)); (case hp => exact (Reps.one (show Kd.M (Kd.int .u64) _ _ _ a0 [.int .u64 a0] from rfl) (Reps.one (show Kd.M (Kd.int .u64) _ _ _ a1 [.int .u64 a1] from rfl) (Reps.none _ _)))); intro v674 w13 ho14 hb hg_ hnew_; clear hg_ hnew_; (first | rw [← Ny673.out] at ho14 | (simp only [Int.reduceToNat] at ho14; rw [← Ny673.out] at ho14)); have q9 := Aside0.mk (Kd.R_lower ho14 (below_size (kH HB))); replace HB := Aside0.mk (below_step (kH HB) hb); clear hb ho14; obtain ⟨qt, qu, eo15⟩ := Kd.R_slice q9.out; subst eo15) | ((with_reducible refine gate_callee (f := 46) rfl ?_); refine goesL_ (some 18) rfl rfl Try.func46 (by kernel_rfl) rfl #[.slice qt y673.length qu] rfl LMq ?_; (with_reducible refine (prod_loud.calls kj3 _ _ y673 q4 _ ?side1 ?side2 A12.out).mono ?_); (case side1 => repeat (first | exact (Kd.R_reads' q9.out).2.2 | (with_reducible refine Kd.C_alloc ?_ _) | (with_reducible refine Kd.C_drewN ?_ _) | (with_reducible refine Kd.C_drew ?_))); (case side2 => exact (Kd.R_reads' q9.out).2.1); rintro e w16 ⟨rfl, hb⟩; refine ⟨_, rfl, ?_⟩; replace q9 := Aside0.mk (Kd.R_below (kR q9) hb); replace HB := Aside0.mk (below_step (kH HB) hb); (try clear hb); (try clear hb2); (try clear hk); (try clear hi)))
     go_ret2
     exact ⟨by first | rfl | (simp [errW_none, errW_some] <;> rfl) | (simp [*, errW_none, errW_some] <;> rfl), kH HB⟩
   replace c11 := Bool.eq_false_iff.mpr c11; subst c11
   have H1 : ((prod_nothing.f a0 a1).bind fun q6 => (if q6 = true then (some (9221120237041090560, 1)) else ((pat_Finite.f a0).bind fun q3 => (if q3 = true then ((pat_Finite.f a1).bind fun q0 => (prod_Mul.j1 kj3 a0 a1 a2 (!q0))) else (prod_Mul.j1 kj3 a0 a1 a2 true))))) = some (r1, r2) := by rw [if_neg (show ¬ (false = true) by decide)] at H; exact H
   clear H; have H := H1; clear H1; replace H := Option.bind_eq_some_iff.mp H; obtain ⟨q6, ql, H⟩ := H; replace H : (if q6 = true then (some (9221120237041090560, 1)) else ((pat_Finite.f a0).bind fun q3 => (if q3 = true then ((pat_Finite.f a1).bind fun q0 => (prod_Mul.j1 kj3 a0 a1 a2 (!q0))) else (prod_Mul.j1 kj3 a0 a1 a2 true)))) = some (r1, r2) := H; have A17 := Aside0.mk ql; clear ql
   by_cases c18 : q6 = true
   · subst c18
     have H1 : (some (9221120237041090560, 1)) = some (r1, r2) := by rw [if_pos rfl] at H; exact H
     clear H; have H := H1; clear H1
     simp only [Option.some.injEq, Prod.mk.injEq] at H
     obtain ⟨rfl, rfl⟩ := H
     go_wp2_with (first | ((with_reducible refine gate_callee (f := 44) rfl ?_); refine goesL_ (some 22) rfl rfl Try.func44 (by kernel_rfl) rfl #[.int .u64 a0, .int .u64 a1] rfl LMq ?_; (with_reducible refine (prod_nothing.calls a0 a1 true _ A17.out).mono ?_); rintro e w19 ⟨rfl, hb⟩; refine ⟨_, rfl, ?_⟩; replace HB := Aside0.mk (below_step (kH HB) hb); (try clear hb); (try clear hb2); (try clear hk); (try clear hi)))
     go_ret2
     exact ⟨by first | rfl | (simp [errW_none, errW_some] <;> rfl) | (simp [*, errW_none, errW_some] <;> rfl), kH HB⟩
   replace c18 := Bool.eq_false_iff.mpr c18; subst c18
   have H1 : ((pat_Finite.f a0).bind fun q3 => (if q3 = true then ((pat_Finite.f a1).bind fun q0 => (prod_Mul.j1 kj3 a0 a1 a2 (!q0))) else (prod_Mul.j1 kj3 a0 a1 a2 true))) = some (r1, r2) := by rw [if_neg (show ¬ (false = true) by decide)] at H; exact H
   clear H; have H := H1; clear H1; have qj := Aside0.mk H; clear H
   go_upto_region 5 with (first | ((with_reducible refine gate_callee (f := 44) rfl ?_); refine goesL_ (some 22) rfl rfl Try.func44 (by kernel_rfl) rfl #[.int .u64 a0, .int .u64 a1] rfl LMq ?_; (with_reducible refine (prod_nothing.calls a0 a1 false _ A17.out).mono ?_); rintro e w21 ⟨rfl, hb⟩; refine ⟨_, rfl, ?_⟩; replace HB := Aside0.mk (below_step (kH HB) hb); (try clear hb); (try clear hb2); (try clear hk); (try clear hi)))
   (try simp only [Act.put, List.setIfInBounds_toArray, List.set_cons_zero, List.set_cons_succ])
   go_cut [23] (fun v23 wc => ∃ (kq : Nat) (qb : Bool), v23 = .bool qb ∧ Aside0 (prod_Mul.j1 kq a0 a1 a2 qb = some (r1, r2)) ∧ Aside0 (kq ≤ kj3) ∧ Aside0 (Below w.heap.size w wc))
   case first =>
    have H := qj.out; clear qj; replace H := Option.bind_eq_some_iff.mp H; obtain ⟨q3, qm, H⟩ := H; replace H : (if q3 = true then ((pat_Finite.f a1).bind fun q0 => (prod_Mul.j1 kj3 a0 a1 a2 (!q0))) else (prod_Mul.j1 kj3 a0 a1 a2 true)) = some (r1, r2) := H; have A22 := Aside0.mk qm; clear qm
    by_cases c23 : q3 = true
    · subst c23
      have H1 : ((pat_Finite.f a1).bind fun q0 => (prod_Mul.j1 kj3 a0 a1 a2 (!q0))) = some (r1, r2) := by rw [if_pos rfl] at H; exact H
      clear H; have H := H1; clear H1; replace H := Option.bind_eq_some_iff.mp H; obtain ⟨q0, qn, H⟩ := H; replace H : (prod_Mul.j1 kj3 a0 a1 a2 (!q0)) = some (r1, r2) := H; have A24 := Aside0.mk qn; clear qn; have H' := Aside0.mk H; clear H
      go_wp2_with (first | ((with_reducible refine gate_callee (f := 47) rfl ?_); refine goesL_ (some 25) rfl rfl Try.func47 (by kernel_rfl) rfl #[.int .u64 a0] rfl LMq ?_; (with_reducible refine (pat_Finite.calls a0 true _ A22.out).mono ?_); rintro e w25 ⟨rfl, hb⟩; refine ⟨_, rfl, ?_⟩; replace HB := Aside0.mk (below_step (kH HB) hb); (try clear hb); (try clear hb2); (try clear hk); (try clear hi)) | (go_at_call 47; (with_reducible refine (pat_Finite.calls a1 q0 _ A24.out).mono ?_); rintro e w26 ⟨rfl, hb⟩; replace HB := Aside0.mk (below_step (kH HB) hb); (try clear hb); (try clear hb2); (try clear hk); (try clear hi)))
      go_meet
      case rel => exact ⟨_, (!q0), RSq, (by first | exact H' | (subst_vars; exact H')), ⟨by have := HJ3.out; first | omega | exact Nat.le_refl _⟩, ⟨kH HB⟩⟩
    replace c23 := Bool.eq_false_iff.mpr c23; subst c23
    have H1 : (prod_Mul.j1 kj3 a0 a1 a2 true) = some (r1, r2) := by rw [if_neg (show ¬ (false = true) by decide)] at H; exact H
    clear H; have H := H1; clear H1; have H' := Aside0.mk H; clear H
    go_wp2_with (first | ((with_reducible refine gate_callee (f := 47) rfl ?_); refine goesL_ (some 25) rfl rfl Try.func47 (by kernel_rfl) rfl #[.int .u64 a0] rfl LMq ?_; (with_reducible refine (pat_Finite.calls a0 false _ A22.out).mono ?_); rintro e w27 ⟨rfl, hb⟩; refine ⟨_, rfl, ?_⟩; replace HB := Aside0.mk (below_step (kH HB) hb); (try clear hb); (try clear hb2); (try clear hk); (try clear hi)))
    go_meet
    case rel => exact ⟨_, (true), RSq, (by first | exact H' | (subst_vars; exact H')), ⟨by have := HJ3.out; first | omega | exact Nat.le_refl _⟩, ⟨kH HB⟩⟩
   case rest =>
    clear qj; (try clear c1); (try clear c2); (try clear p2); (try clear c4); (try clear c6); (try clear p6); (try clear c11); (try clear c18); (try clear c23); (try clear c26); (try clear p2); (try clear p6); obtain ⟨kq, qb, rfl, HA, HJ19, HB⟩ := hcut
    cases kq with
    | zero => exact absurd HA.out (by simp [prod_Mul.j1])
    | succ kj19 =>
     have H := HA.out; clear HA
     simp only [prod_Mul.j1] at H
     by_cases c28 : qb = true
     · subst c28
       have H1 : ((prod_sign.f a0 a1).bind fun q7 => (some (Go.bits .or .u64 9218868437227405312 q7, 0))) = some (r1, r2) := by rw [if_pos rfl] at H; exact H
       clear H; have H := H1; clear H1; replace H := Option.bind_eq_some_iff.mp H; obtain ⟨q7, qo, H⟩ := H; replace H : (some (Go.bits .or .u64 9218868437227405312 q7, 0)) = some (r1, r2) := H; have A29 := Aside0.mk qo; clear qo
       simp only [Option.some.injEq, Prod.mk.injEq] at H
       obtain ⟨rfl, rfl⟩ := H
       go_wp2_with (first | ((with_reducible refine gate_callee (f := 43) rfl ?_); refine goesL_ (some 34) rfl rfl Try.func43 (by kernel_rfl) rfl #[.int .u64 a0, .int .u64 a1] rfl LMq ?_; (with_reducible refine (prod_sign.calls a0 a1 q7 _ A29.out).mono ?_); rintro e w' ⟨rfl, ⟨nd, rfl⟩⟩; refine ⟨_, rfl, ?_⟩))
       go_ret2
       exact ⟨by first | rfl | (simp [errW_none, errW_some] <;> rfl) | (simp [*, errW_none, errW_some] <;> rfl), kH HB⟩
     replace c28 := Bool.eq_false_iff.mpr c28; subst c28
     have H1 : ((prod_exact.f a0 a1).bind fun q1 => ((rnd_Round.f q1.1 q1.2.1 q1.2.2.1 q1.2.2.2.1 q1.2.2.2.2.1 q1.2.2.2.2.2.1 q1.2.2.2.2.2.2 a2).bind fun q5 => (some (q5.1, q5.2)))) = some (r1, r2) := by rw [if_neg (show ¬ (false = true) by decide)] at H; exact H
     clear H; have H := H1; clear H1; replace H := Option.bind_eq_some_iff.mp H; obtain ⟨⟨qc, qd, qe, qf, qg, qh, qi⟩, qp, H⟩ := H; replace H : ((rnd_Round.f qc qd qe qf qg qh qi a2).bind fun q5 => (some (q5.1, q5.2))) = some (r1, r2) := H; have A30 := Aside0.mk qp; clear qp; replace H := Option.bind_eq_some_iff.mp H; obtain ⟨⟨qq, qr⟩, qs, H⟩ := H; replace H : (some (qq, qr)) = some (r1, r2) := H; have A31 := Aside0.mk qs; clear qs
     simp only [Option.some.injEq, Prod.mk.injEq] at H
     obtain ⟨rfl, rfl⟩ := H
     go_wp2_with (first | ((with_reducible refine gate_callee (f := 51) rfl ?_); refine goesL_ (some 38) rfl rfl Try.func51 (by kernel_rfl) rfl #[.int .u64 a0, .int .u64 a1] rfl LMq ?_; (with_reducible refine (prod_exact.calls a0 a1 qc qd qe qf qg qh qi _ A30.out).mono ?_); rintro e w32 ⟨rfl, hb⟩; refine ⟨_, rfl, ?_⟩; replace HB := Aside0.mk (below_step (kH HB) hb); (try clear hb); (try clear hb2); (try clear hk); (try clear hi)) | ((with_reducible refine gate_callee (f := 30) rfl ?_); refine goesL_ (some 40) rfl rfl Try.func30 (by kernel_rfl) rfl #[.agg #[.bool qc, .int .i64 qd, .int .u64 qe, .int .u64 qf, .int .u64 qg, .int .u64 qh, .bool qi], .int .i64 a2] rfl LMq ?_; (with_reducible refine (rnd_Round.calls qc qd qe qf qg qh qi a2 qq qr _ A31.out).mono ?_); rintro e w33 ⟨rfl, hb⟩; refine ⟨_, rfl, ?_⟩; replace HB := Aside0.mk (below_step (kH HB) hb); (try clear hb); (try clear hb2); (try clear hk); (try clear hi)))
     go_ret2
     exact ⟨by first | rfl | (simp [errW_none, errW_some] <;> rfl) | (simp [*, errW_none, errW_some] <;> rfl), kH HB⟩
end Go.Proofs.Ytbgefpeicmbgiaa.X
end
section
namespace Go.Proofs.Ytbgefpeicmbgiaa
set_option linter.unusedVariables false
set_option linter.unusedSimpArgs false
open Go.RowKit X
theorem nil_w {r : Nat} (h : r < T256) : (l0 r == 0 && (l1 r == 0 && (l2 r == 0 && l3 r == 0))) = decide (r = 0) := by
  have := l_eq_zero h
  rw [Bool.eq_iff_iff]
  simp only [Bool.and_eq_true, beq_iff_eq, decide_eq_true_eq]
  rw [← this]
def NumOut (mi : Bool) (e : Int) (s : Nat) (o : Bool) (t : Bool × Int × Nat) : Prop := s < 2 ^ 254 ∧ -131072 ≤ e ∧ e ≤ 131072 ∧ ∀ m, rNum mi e s o m = rRound t.1 t.2.1 t.2.2 m
theorem numOut_self {mi : Bool} {e : Int} {s : Nat} (hs : s < 2 ^ 254) (h0 : -131072 ≤ e) (h1 : e ≤ 131072) : NumOut mi e s false (mi, e, s) := ⟨hs, h0, h1, fun _ => rfl⟩
theorem lt_T {s : Nat} (h : s < 2 ^ 254) : s < T256 := by rw [T256_eq]; exact Nat.lt_trans h (by decide)
def dSum (mx : Bool) (A : Nat) (my : Bool) (e : Int) (sy : Nat) (m : Int) : Bool × Int × Nat :=
  if mx = my then (my, e, A + sy) else if A = sy then (decide (m = 4), e, 0) else if sy < A then (mx, e, A - sy) else (my, e, sy - A)
theorem aligned_eq {mx my : Bool} {ex ey : Int} {sx sy A : Nat} (m : Int) (hA : sx * 2 ^ (ex - ey).toNat = A) (hA2 : A < 2 ^ 250) (hx : sx < T256) (hy : sy < 2 ^ 128) (h0 : -5000 ≤ ex) (h1 : ex ≤ 5000) (g0 : -5000 ≤ ey) (g1 : ey ≤ 5000) :
    ∃ mi e s, NumOut mi e s false (dSum mx A my ey sy m) ∧ sums_aligned.f mx ex (l0 sx) (l1 sx) (l2 sx) (l3 sx) false my ey (l0 sy) (l1 sy) (l2 sy) (l3 sy) false m = some (mi, e, l0 s, l1 s, l2 s, l3 s, false) := by
  have hyT : sy < T256 := by rw [T256_eq]; exact Nat.lt_trans hy (by decide)
  have hAT : A < T256 := by rw [T256_eq]; exact Nat.lt_trans hA2 (by decide)
  have hsum : A + sy < 2 ^ 254 := by
    have h250 : (2 : Nat) ^ 250 + 2 ^ 128 ≤ 2 ^ 254 := by decide
    omega
  have eS := wide_Shl.eq hx (ex - ey)
  rw [hA, Nat.mod_eq_of_lt hAT] at eS
  have ew : wrap64 (ex - ey) = ex - ey := by unfold wrap64; omega
  unfold sums_aligned.f dSum
  rw [ew, eS]
  simp only [Option.bind_some]
  by_cases c : mx = my
  · have eA := wide_Add.eq hAT hyT
    rw [Nat.mod_eq_of_lt (lt_T hsum)] at eA
    have c1 : (mx == my) = true := by rw [c]; simp
    rw [if_pos c1, eA, if_pos c]
    exact ⟨_, _, A + sy, numOut_self hsum (by omega) (by omega), rfl⟩
  · have eC := wide_Cmp.eq hAT hyT
    have c1 : ¬ (mx == my) = true := by simpa using c
    rw [if_neg c1, eC, if_neg c]
    simp only [Option.bind_some]
    by_cases z : A = sy
    · have : cmpI A sy = 0 := by unfold cmpI; rw [z]; simp
      rw [if_pos z, this, if_pos rfl]
      unfold sums_nought.f
      rw [if_neg (by decide)]
      refine ⟨(m == 4), 0, 0, ⟨by decide, by omega, by omega, fun m' => ?_⟩, ?_⟩
      · unfold rNum rRound
        rw [if_pos (by rfl), if_pos rfl]
        congr 2
      · simp only [Option.bind_some]
        obtain ⟨n0, n1, n2, n3⟩ := l_nil
        rw [n0, n1, n2, n3]
    · by_cases g : sy < A
      · have : cmpI A sy = 1 := by unfold cmpI; rw [if_neg (by omega), if_pos (by omega)]
        have eB := wide_Sub.eq hAT hyT
        have es : (A + T256 - sy) % T256 = A - sy := by
          rw [show A + T256 - sy = A - sy + T256 by omega, Nat.add_mod_right]
          exact Nat.mod_eq_of_lt (by omega)
        rw [es] at eB
        rw [if_neg z, if_pos g, this, if_neg (show ¬ (1 : Int) = 0 by decide), if_pos rfl, eB]
        have hl : A - sy < 2 ^ 254 := by omega
        exact ⟨_, _, A - sy, numOut_self hl (by omega) (by omega), rfl⟩
      · have : cmpI A sy = -1 := by unfold cmpI; rw [if_pos (by omega)]
        have eB := wide_Sub.eq hyT hAT
        have es : (sy + T256 - A) % T256 = sy - A := by
          rw [show sy + T256 - A = sy - A + T256 by omega, Nat.add_mod_right]
          exact Nat.mod_eq_of_lt (by omega)
        rw [es] at eB
        rw [if_neg z, if_neg g, this, if_neg (show ¬ (-1 : Int) = 0 by decide), if_neg (show ¬ (-1 : Int) = 1 by decide), eB]
        have hl : sy - A < 2 ^ 254 := by omega
        exact ⟨_, _, sy - A, numOut_self hl (by omega) (by omega), rfl⟩
theorem beside_eq {mx my : Bool} {ex ey : Int} {sx sy sh by_ : Nat} (m : Int) (hb : blen sx + by_ = 250) (hsh : ex - (by_ : Int) - ey = (sh : Int)) (hx0 : sx ≠ 0) (hx : sx < T256) (hy : sy < 2 ^ 128) (h0 : -5000 ≤ ex) (h1 : ex ≤ 5000) (g0 : -5000 ≤ ey) (g1 : ey ≤ 5000) :
    ∃ mi e s o, NumOut mi e s o (dSum mx (sx * 2 ^ (ex - ey).toNat) my ey sy m) ∧ sums_beside.f mx ex (l0 sx) (l1 sx) (l2 sx) (l3 sx) false my ey (l0 sy) (l1 sy) (l2 sy) (l3 sy) false = some (mi, e, l0 s, l1 s, l2 s, l3 s, o) := by
  have hyT : sy < T256 := by rw [T256_eq]; exact Nat.lt_trans hy (by decide)
  obtain ⟨S, hS⟩ : ∃ S, sx * 2 ^ by_ = S := ⟨_, rfl⟩
  have hbS : blen S = 250 := by rw [← hS, blen_mul_pow hx0, hb]
  have hS1 : S < 2 ^ 250 := blen_le_iff.1 (by omega)
  have hS2 : 2 ^ 249 ≤ S := by
    have := blen_le (n := S) (by intro z; rw [z, blen_zero] at hbS; omega)
    rw [hbS] at this
    exact this
  have hA : sx * 2 ^ (ex - ey).toNat = S * 2 ^ sh := by
    rw [← hS, Nat.mul_assoc, ← Nat.pow_add]
    congr 2
    omega
  have hST : S < T256 := by rw [T256_eq]; exact Nat.lt_trans hS1 (by decide)
  obtain ⟨q, hq⟩ : ∃ q, sy / 2 ^ sh = q := ⟨_, rfl⟩
  have hq2 : q < 2 ^ 128 := by rw [← hq]; exact Nat.lt_of_le_of_lt (Nat.div_le_self _ _) hy
  have hqT : q < T256 := by rw [T256_eq]; exact Nat.lt_trans hq2 (by decide)
  have k1 : (2 : Nat) ^ 250 + 2 ^ 128 ≤ 2 ^ 254 := by decide
  have k2 : (2 : Nat) ^ 54 + 2 ^ 128 + 1 ≤ 2 ^ 249 := by decide
  have eL := wide_Len.eq hx
  have w1 : wrap64 (250 - (blen sx : Int)) = (by_ : Int) := by unfold wrap64; omega
  have w2 : wrap64 (ex - (by_ : Int)) = ex - by_ := by unfold wrap64; omega
  have w3 : wrap64 (ex - (by_ : Int) - ey) = (sh : Int) := by unfold wrap64; omega
  have eR := wide_Shr.eq hyT (sh : Int)
  have eS := wide_Shl.eq hx (by_ : Int)
  rw [show ((sh : Int)).toNat = sh from rfl, hq] at eR
  rw [show ((by_ : Int)).toNat = by_ from rfl, hS, Nat.mod_eq_of_lt hST] at eS
  have he0 : -131072 ≤ ex - (by_ : Int) ∧ ex - (by_ : Int) ≤ 131072 := by omega
  have hee : ey + (sh : Int) = ex - by_ := by omega
  rw [hA]
  unfold sums_beside.f dSum
  rw [eL]
  simp only [Option.bind_some]
  rw [w1, w2, w3, eR]
  simp only [Option.bind_some]
  rw [eS]
  simp only [Option.bind_some]
  by_cases c : mx = my
  · have hl : S + q < 2 ^ 254 := by omega
    have eA := wide_Add.eq hST hqT
    rw [Nat.mod_eq_of_lt (lt_T hl)] at eA
    obtain ⟨b1, b2⟩ := beside_add (S := S) (y := sy) (sh := sh)
    rw [hq] at b1
    have c1 : (mx == my) = true := by rw [c]; simp
    rw [if_pos c1, eA, if_pos c]
    refine ⟨mx, _, S + q, _, ⟨hl, he0.1, he0.2, fun m' => ?_⟩, rfl⟩
    have h := rNum_cut my ey (S * 2 ^ sh + sy) sh m' (by rw [b1]; omega)
    rw [b1, b2, hee] at h
    rw [c]
    exact h
  · have hlt : q < S := by omega
    obtain ⟨b1, b2⟩ := beside_sub (S := S) (y := sy) (sh := sh) (by rw [hq]; exact hlt)
    rw [hq] at b1
    have hAy : sy < S * 2 ^ sh := by
      have h3 := Nat.lt_of_lt_of_le (Nat.lt_of_lt_of_le hy (show 2 ^ 128 ≤ S by omega)) (Nat.le_mul_of_pos_right S (Nat.two_pow_pos sh))
      exact h3
    have eB := wide_Sub.eq hST hqT
    have es : (S + T256 - q) % T256 = S - q := by
      rw [show S + T256 - q = S - q + T256 by omega, Nat.add_mod_right]
      exact Nat.mod_eq_of_lt (by omega)
    rw [es] at eB
    have c1 : ¬ (mx == my) = true := by simpa using c
    rw [if_neg c1, eB, if_neg c, if_neg (by omega), if_pos hAy]
    simp only [Option.bind_some]
    have key : ∀ m', rNum mx (ex - by_) (S - q - (if sy % 2 ^ sh ≠ 0 then 1 else 0)) (decide (sy % 2 ^ sh ≠ 0)) m' = rRound mx ey (S * 2 ^ sh - sy) m' := fun m' => by
      have h := rNum_cut mx ey (S * 2 ^ sh - sy) sh m' (by rw [b1]; split <;> omega)
      have e : decide ((S * 2 ^ sh - sy) % 2 ^ sh ≠ 0) = decide (sy % 2 ^ sh ≠ 0) := by rw [Bool.eq_iff_iff, decide_eq_true_iff, decide_eq_true_iff]; exact b2
      rw [b1, e, hee] at h
      exact h
    by_cases z : sy % 2 ^ sh = 0
    · rw [decide_eq_false (by omega), if_neg (by decide)]
      rw [decide_eq_false (by omega), if_neg (by omega), Nat.sub_zero] at key
      have hl : S - q < 2 ^ 254 := by omega
      exact ⟨mx, _, S - q, _, ⟨hl, he0.1, he0.2, key⟩, rfl⟩
    · rw [decide_eq_true z, if_pos rfl]
      rw [decide_eq_true z, if_pos z] at key
      have hl : S - q - 1 < 2 ^ 254 := by omega
      have hqS : S - q < T256 := by omega
      have eO := wide_Of.eq 1 (by decide)
      have eD := wide_Sub.eq hqS (show Int.toNat 1 < T256 by decide)
      have es2 : (S - q + T256 - Int.toNat 1) % T256 = S - q - 1 := by
        rw [show Int.toNat 1 = 1 from rfl, show S - q + T256 - 1 = S - q - 1 + T256 by omega, Nat.add_mod_right]
        exact Nat.mod_eq_of_lt (by omega)
      rw [es2] at eD
      rw [eO]
      simp only [Option.bind_some]
      rw [eD]
      simp only [Option.bind_some]
      exact ⟨mx, _, S - q - 1, _, ⟨hl, he0.1, he0.2, key⟩, rfl⟩
theorem join_j1 (k : Nat) {mx my : Bool} {ex ey : Int} {sx sy : Nat} (m : Int) (hle : ey ≤ ex) (hx0 : sx ≠ 0) (hx : sx < 2 ^ 128) (hy : sy < 2 ^ 128) (h0 : -5000 ≤ ex) (h1 : ex ≤ 5000) (g0 : -5000 ≤ ey) (g1 : ey ≤ 5000) :
    ∃ mi e s o, NumOut mi e s o (dSum mx (sx * 2 ^ (ex - ey).toNat) my ey sy m) ∧ sums_join.j1 (k + 1) m mx ex (l0 sx) (l1 sx) (l2 sx) (l3 sx) false my ey (l0 sy) (l1 sy) (l2 sy) (l3 sy) false = some (mi, e, l0 s, l1 s, l2 s, l3 s, o) := by
  have hxT : sx < T256 := by rw [T256_eq]; exact Nat.lt_trans hx (by decide)
  have hb : blen sx ≤ 128 := blen_le_iff.2 hx
  have eL := wide_Len.eq hxT
  have ew : wrap64 (wrap64 ((blen sx : Int) + ex) - ey) = (blen sx : Int) + ex - ey := by unfold wrap64; omega
  simp only [sums_join.j1]
  rw [eL, Option.bind_some, ew]
  by_cases c : (blen sx : Int) + ex - ey < 250
  · have hA2 : sx * 2 ^ (ex - ey).toNat < 2 ^ 250 := by
      refine Nat.lt_of_lt_of_le (Nat.mul_lt_mul_of_pos_right (blen_lt sx) (Nat.two_pow_pos _)) ?_
      rw [← Nat.pow_add]
      exact Nat.pow_le_pow_right (by omega) (by omega)
    obtain ⟨mi, e, s, hN, hE⟩ := aligned_eq (mx := mx) (my := my) (sx := sx) (sy := sy) m rfl hA2 hxT hy h0 h1 g0 g1
    rw [if_pos c, hE]
    exact ⟨mi, e, s, false, hN, rfl⟩
  · obtain ⟨b, hbb⟩ : ∃ b, blen sx + b = 250 := ⟨250 - blen sx, by omega⟩
    obtain ⟨sh, hsh⟩ : ∃ sh : Nat, ex - (b : Int) - ey = sh := ⟨(ex - (b : Int) - ey).toNat, by omega⟩
    obtain ⟨mi, e, s, o, hN, hE⟩ := beside_eq (mx := mx) (my := my) (sx := sx) (sy := sy) m hbb hsh hx0 hxT hy h0 h1 g0 g1
    rw [if_neg c, hE]
    exact ⟨mi, e, s, o, hN, rfl⟩
theorem join_eq (k : Nat) {mx my : Bool} {ex ey : Int} {sx sy : Nat} (m : Int) (hx : sx < 2 ^ 128) (hy : sy < 2 ^ 128) (h0 : -5000 ≤ ex) (h1 : ex ≤ 5000) (g0 : -5000 ≤ ey) (g1 : ey ≤ 5000) :
    ∃ mi e s o, NumOut mi e s o (sSum mx ex sx my ey sy m) ∧ sums_join.f (k + 2) mx ex (l0 sx) (l1 sx) (l2 sx) (l3 sx) false my ey (l0 sy) (l1 sy) (l2 sy) (l3 sy) false m = some (mi, e, l0 s, l1 s, l2 s, l3 s, o) := by
  have hxT : sx < T256 := by rw [T256_eq]; exact Nat.lt_trans hx (by decide)
  have hyT : sy < T256 := by rw [T256_eq]; exact Nat.lt_trans hy (by decide)
  have nx := nil_w hxT
  have ny := nil_w hyT
  unfold sums_join.f
  rw [nx, ny]
  by_cases zx : sx = 0
  · by_cases zy : sy = 0
    · rw [decide_eq_true zx, decide_eq_true zy, if_pos rfl]
      simp only [sums_join.j0]
      rw [if_pos trivial]
      unfold sums_nought.f sSum
      rw [if_pos zx, if_pos zy]
      have z0 : ∀ c : Bool, NumOut c 0 0 false (c, ex, 0) := fun c => ⟨by decide, by omega, by omega, fun m' => by unfold rNum rRound; rw [if_pos (by rfl), if_pos rfl]⟩
      obtain ⟨n0, n1, n2, n3⟩ := l_nil
      by_cases c : mx = my
      · have c1 : (mx == my) = true := by rw [c]; simp
        rw [if_pos c1, if_pos c]
        refine ⟨mx, 0, 0, false, z0 mx, ?_⟩
        rw [n0, n1, n2, n3]
        rfl
      · have c1 : ¬ (mx == my) = true := by simpa using c
        rw [if_neg c1, if_neg c]
        refine ⟨decide (m = 4), 0, 0, false, z0 _, ?_⟩
        rw [n0, n1, n2, n3, show (m == 4) = decide (m = 4) by rw [Bool.eq_iff_iff]; simp]
        rfl
    · rw [decide_eq_true zx, decide_eq_false zy, if_pos rfl]
      simp only [sums_join.j0]
      rw [if_neg (by decide), nx, decide_eq_true zx, if_pos rfl]
      unfold sSum
      rw [if_pos zx, if_neg zy]
      exact ⟨_, _, sy, _, numOut_self (Nat.lt_trans hy (by decide)) (by omega) (by omega), rfl⟩
  · rw [decide_eq_false zx, if_neg (by decide)]
    simp only [sums_join.j0]
    rw [if_neg (by decide), nx, ny, decide_eq_false zx, if_neg (by decide)]
    by_cases zy : sy = 0
    · rw [decide_eq_true zy, if_pos rfl]
      unfold sSum
      rw [if_neg zx, if_pos zy]
      exact ⟨_, _, sx, _, numOut_self (Nat.lt_trans hx (by decide)) (by omega) (by omega), rfl⟩
    · rw [decide_eq_false zy, if_neg (by decide)]
      unfold sSum
      rw [if_neg zx, if_neg zy]
      by_cases c : ex < ey
      · obtain ⟨mi, e, s, o, hN, hE⟩ := join_j1 k (mx := my) (my := mx) (ex := ey) (ey := ex) (sx := sy) (sy := sx) m (by omega) zy hy hx g0 g1 h0 h1
        have ed : dSum my (sy * 2 ^ (ey - ex).toNat) mx ex sx m = (if mx = my then (mx, ex, sy * 2 ^ (ey - ex).toNat + sx) else if sy * 2 ^ (ey - ex).toNat = sx then (decide (m = 4), ex, 0) else if sx < sy * 2 ^ (ey - ex).toNat then (my, ex, sy * 2 ^ (ey - ex).toNat - sx) else (mx, ex, sx - sy * 2 ^ (ey - ex).toNat)) := by
          unfold dSum
          by_cases g : mx = my
          · rw [if_pos g, if_pos g.symm]
          · rw [if_neg g, if_neg (fun h => g h.symm)]
        rw [if_pos c, if_neg (by omega), ← ed]
        exact ⟨mi, e, s, o, hN, hE⟩
      · obtain ⟨mi, e, s, o, hN, hE⟩ := join_j1 k (mx := mx) (my := my) (ex := ex) (ey := ey) (sx := sx) (sy := sy) m (by omega) zx hx hy h0 h1 g0 g1
        rw [if_neg c, if_pos (by omega)]
        exact ⟨mi, e, s, o, hN, hE⟩
end Go.Proofs.Ytbgefpeicmbgiaa
end
