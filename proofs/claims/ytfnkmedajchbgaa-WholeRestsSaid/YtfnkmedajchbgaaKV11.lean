import Derived.Test.YtfnkmedajchbgaaKV4
import Derived.Test.YtfnkmedajchbgaaKVXwholeMod
import Derived.Test.YtfnkmedajchbgaaKVXwholeRem
import Derived.Test.YtfnkmedajchbgaaKVXrndWhole
set_option linter.unusedVariables false
set_option linter.unusedSimpArgs false
section
namespace Go.Proofs.Ytfnkmedajchbgaa.X
open Go.RowKit Go.Proofs.YtfnkmedajchbgaaW.PrintWords Go.Proofs.YtfnkmedajchbgaaW.PrintLast Go.Proofs.YtfnkmedajchbgaaW.PrintMore
attribute [local go_sem] max2_int min2_int max_two min_two max_three min_three max_four min_four
def whole_Round.f (k : Nat) (a0 : Int) (a1 : Int) (a2 : Bool) : Option (Int × Int) := (rnd_Of.f a0).bind fun qc => ((pat_IsNaN.f a0).bind fun qn => (if qn = true then (none) else (if qc.2.2.2.2.2.2.2.isNone = true then ((rnd_Whole.f k qc.1 qc.2.1 qc.2.2.1 qc.2.2.2.1 qc.2.2.2.2.1 qc.2.2.2.2.2.1 qc.2.2.2.2.2.2.1 a1).bind fun q0 => ((rnd_Round.f q0.1 q0.2.1 q0.2.2.1 q0.2.2.2.1 q0.2.2.2.2.1 q0.2.2.2.2.2.1 q0.2.2.2.2.2.2.1 0).bind fun qa => (if q0.2.2.2.2.2.2.2 = true then (if a2 = true then (some (qa.1, 16)) else (some (qa.1, 0))) else (some (qa.1, 0))))) else (some (a0, 0)))))
theorem whole_Round.mono : ∀ a0 a1 a2 k, LeO (whole_Round.f k a0 a1 a2) (whole_Round.f (k + 1) a0 a1 a2) := by
 intro a0 a1 a2 k
 unfold whole_Round.f
 repeat' (with_reducible first | exact rnd_Whole.mono _ _ _ _ _ _ _ _ _ | exact LeO.refl _ | exact LeO.none _ | refine LeO.ite ?_ ?_ | refine LeO.bind ?_ (fun _ => ?_))
set_option maxHeartbeats 8000000 in
set_option maxRecDepth 100000 in
theorem whole_Round.calls (k : Nat) (a0 : Int) (a1 : Int) (a2 : Bool) (r1 : Int) (r2 : Int) (w : World) (h : whole_Round.f k a0 a1 a2 = some (r1, r2)) :
 Calls Try.prog 21 #[.int .u64 a0, .int .i64 a1, .bool a2] w fun e w' => e = .returned (.tuple #[.int .u64 r1, .int .u8 r2]) ∧ Below w.heap.size w w' := by
 have hu51 := Try.underlying51; have hu53 := Try.underlying53; have hu97 := Try.underlying97; have HB := aK (Below.refl w.heap.size w); have H : ((rnd_Of.f a0).bind fun qc => ((pat_IsNaN.f a0).bind fun qn => (if qn = true then (none) else (if qc.2.2.2.2.2.2.2.isNone = true then ((rnd_Whole.f k qc.1 qc.2.1 qc.2.2.1 qc.2.2.2.1 qc.2.2.2.2.1 qc.2.2.2.2.2.1 qc.2.2.2.2.2.2.1 a1).bind fun q0 => ((rnd_Round.f q0.1 q0.2.1 q0.2.2.1 q0.2.2.2.1 q0.2.2.2.2.1 q0.2.2.2.2.2.1 q0.2.2.2.2.2.2.1 0).bind fun qa => (if q0.2.2.2.2.2.2.2 = true then (if a2 = true then (some (qa.1, 16)) else (some (qa.1, 0))) else (some (qa.1, 0))))) else (some (a0, 0)))))) = some (r1, r2) := h; clear h; replace H := Option.bind_eq_some_iff.mp H; obtain ⟨⟨q3, q4, q5, q6, q7, q8, q9, qr⟩, A40, H⟩ := H; replace H : ((pat_IsNaN.f a0).bind fun qn => (if qn = true then (none) else (if qr.isNone = true then ((rnd_Whole.f k q3 q4 q5 q6 q7 q8 q9 a1).bind fun q0 => ((rnd_Round.f q0.1 q0.2.1 q0.2.2.1 q0.2.2.2.1 q0.2.2.2.2.1 q0.2.2.2.2.2.1 q0.2.2.2.2.2.2.1 0).bind fun qa => (if q0.2.2.2.2.2.2.2 = true then (if a2 = true then (some (qa.1, 16)) else (some (qa.1, 0))) else (some (qa.1, 0))))) else (some (a0, 0))))) = some (r1, r2) := H; have A4 := aK A40; clear A40; replace H := Option.bind_eq_some_iff.mp H; obtain ⟨qn, A50, H⟩ := H; replace H : (if qn = true then (none) else (if qr.isNone = true then ((rnd_Whole.f k q3 q4 q5 q6 q7 q8 q9 a1).bind fun q0 => ((rnd_Round.f q0.1 q0.2.1 q0.2.2.1 q0.2.2.2.1 q0.2.2.2.2.1 q0.2.2.2.2.2.1 q0.2.2.2.2.2.2.1 0).bind fun qa => (if q0.2.2.2.2.2.2.2 = true then (if a2 = true then (some (qa.1, 16)) else (some (qa.1, 0))) else (some (qa.1, 0))))) else (some (a0, 0)))) = some (r1, r2) := H; have A5 := aK A50; clear A50
 by_cases c6 : qn = true
 · subst c6
   have H1 : (none) = some (r1, r2) := by rw [if_pos rfl] at H; exact H
   clear H; have H := H1; clear H1; exact absurd H (by simp)
 replace c6 := Bool.eq_false_iff.mpr c6; subst c6
 have H1 : (if qr.isNone = true then ((rnd_Whole.f k q3 q4 q5 q6 q7 q8 q9 a1).bind fun q0 => ((rnd_Round.f q0.1 q0.2.1 q0.2.2.1 q0.2.2.2.1 q0.2.2.2.2.1 q0.2.2.2.2.2.1 q0.2.2.2.2.2.2.1 0).bind fun qa => (if q0.2.2.2.2.2.2.2 = true then (if a2 = true then (some (qa.1, 16)) else (some (qa.1, 0))) else (some (qa.1, 0))))) else (some (a0, 0))) = some (r1, r2) := by rw [if_neg (show ¬ (false = true) by decide)] at H; exact H
 clear H; have H := H1; clear H1
 rcases qr with _ | q500
 · have H1 : ((rnd_Whole.f k q3 q4 q5 q6 q7 q8 q9 a1).bind fun q0 => ((rnd_Round.f q0.1 q0.2.1 q0.2.2.1 q0.2.2.2.1 q0.2.2.2.2.1 q0.2.2.2.2.2.1 q0.2.2.2.2.2.2.1 0).bind fun qa => (if q0.2.2.2.2.2.2.2 = true then (if a2 = true then (some (qa.1, 16)) else (some (qa.1, 0))) else (some (qa.1, 0))))) = some (r1, r2) := by rw [if_pos (show (none : Option Int).isNone = true by rfl)] at H; exact H
   clear H; have H := H1; clear H1
   try simp only [errW_none, errW_some]
   replace H := Option.bind_eq_some_iff.mp H; obtain ⟨⟨qe, qf, qg, qh, qi, qj, qk, qs⟩, A70, H⟩ := H; replace H : ((rnd_Round.f qe qf qg qh qi qj qk 0).bind fun qa => (if qs = true then (if a2 = true then (some (qa.1, 16)) else (some (qa.1, 0))) else (some (qa.1, 0)))) = some (r1, r2) := H; have A7 := aK A70; clear A70; replace H := Option.bind_eq_some_iff.mp H; obtain ⟨⟨ql, qt⟩, A80, H⟩ := H; replace H : (if qs = true then (if a2 = true then (some (ql, 16)) else (some (ql, 0))) else (some (ql, 0))) = some (r1, r2) := H; have A8 := aK A80; clear A80
   by_cases c9 : qs = true
   · subst c9
     have H1 : (if a2 = true then (some (ql, 16)) else (some (ql, 0))) = some (r1, r2) := by rw [if_pos rfl] at H; exact H
     clear H; have H := H1; clear H1
     by_cases c10 : a2 = true
     · subst c10
       have H1 : (some (ql, 16)) = some (r1, r2) := by rw [if_pos rfl] at H; exact H
       clear H; have H := H1; clear H1
       simp only [Option.some.injEq, Prod.mk.injEq] at H
       obtain ⟨rfl, rfl⟩ := H
       go_enter Try.func21, Try.ntmps21
       go_wp2_with (first | ((with_reducible refine gate_callee (f := 25) rfl ?_); refine goesL_ (some 16) rfl rfl Try.func25 (by kernel_rfl) rfl #[.int .u64 a0] rfl LMq ?_; (with_reducible refine (rnd_Of.calls a0 q3 q4 q5 q6 q7 q8 q9 none _ A4.out).mono ?_); rintro e w11 ⟨rfl, hb⟩; refine ⟨_, rfl, ?_⟩; replace HB := aK (below_step (kH HB) hb); (try clear hb); (try clear hb2); (try clear hk); (try clear hi); (try simp only [errW_none, errW_some])) | ((with_reducible refine gate_dst (N := 8) rfl ?_); refine box_event ?hg (N := 8) ?hd (cs := #[.bool false, .int .i64 0, .int .u64 0, .int .u64 0, .int .u64 0, .int .u64 0, .bool false]) (t := 51) ?hr ?_; (case hd => rfl); (case hg => rfl); (case hr => first | (go_simp; done) | (go_simp; rfl)); intro q2 hg w12 hbox hb; have q1 := aK (hbox); have qu := aK ((by rw [hg]; exact (below_size (kH HB)) : w.heap.size ≤ q2)); have qb := aK ((by rw [hg]; exact (below_size (kH HB)) : w.heap.size ≤ q2)); replace HB := aK (below_step (kH HB) hb); clear hb hbox hg; obtain ⟨_, _, _, _, _, _, _, _, _, _, _, _, _, _⟩ := W7q q1) | ((with_reducible refine gate_callee (f := 27) rfl ?_); refine goesL_ (some 21) rfl rfl Try.func27 (by kernel_rfl) rfl #[.int .u64 a0] rfl LMq ?_; (with_reducible refine (pat_IsNaN.calls a0 false _ A5.out).mono ?_); rintro e w14 ⟨rfl, hb⟩; refine ⟨_, rfl, ?_⟩; replace q1 := aK (blk_below (g := q2) (o := .cells #[.bool q3, .int .i64 q4, .int .u64 q5, .int .u64 q6, .int .u64 q7, .int .u64 q8, .bool q9] 51 (0, 0)) (kF q1) hb); replace HB := aK (below_step (kHs HB qb) hb); (try clear hb); (try clear hb2); (try clear hk); (try clear hi); obtain ⟨_, _, _, _, _, _, _, _, _, _, _, _, _, _⟩ := W7q q1) | ((with_reducible refine gate_callee (f := 56) rfl ?_); refine goesL_ (some 34) rfl rfl Try.func56 (by kernel_rfl) rfl #[.agg #[.bool q3, .int .i64 q4, .int .u64 q5, .int .u64 q6, .int .u64 q7, .int .u64 q8, .bool q9], .int .i64 a1] rfl LMq ?_; (with_reducible refine (rnd_Whole.calls k q3 q4 q5 q6 q7 q8 q9 a1 qe qf qg qh qi qj qk true _ A7.out).mono ?_); rintro e w16 ⟨rfl, hb⟩; refine ⟨_, rfl, ?_⟩; replace q1 := aK (blk_below (g := q2) (o := .cells #[.bool q3, .int .i64 q4, .int .u64 q5, .int .u64 q6, .int .u64 q7, .int .u64 q8, .bool q9] 51 (0, 0)) (kB q1) hb); replace HB := aK (below_step (kHs HB qb) hb); (try clear hb); (try clear hb2); (try clear hk); (try clear hi)) | ((with_reducible refine gate_dst (N := 10) rfl ?_); refine box_event ?hg (N := 10) ?hd (cs := #[.bool false, .int .i64 0, .int .u64 0, .int .u64 0, .int .u64 0, .int .u64 0, .bool false]) (t := 51) ?hr ?_; (case hd => rfl); (case hg => rfl); (case hr => first | (go_simp; done) | (go_simp; rfl)); intro qd hg w17 hbox hb; have qm := aK (hbox); have qv := aK ((by rw [hg]; exact (below_size (kHs HB qb)) : w.heap.size ≤ qd)); have qo := aK ((by rw [hg]; exact (below_size (kHs HB qb)) : w.heap.size ≤ qd)); replace HB := aK (below_step (kHs HB qb) hb); have qp := aK ((by rw [hg]; exact Nat.ne_of_lt (blk_lt (g := q2) (o := .cells #[.bool q3, .int .i64 q4, .int .u64 q5, .int .u64 q6, .int .u64 q7, .int .u64 q8, .bool q9] 51 (0, 0)) (kB q1)) : q2 ≠ qd)); have qq := aK ((by rw [hg]; exact Nat.ne_of_gt (blk_lt (g := q2) (o := .cells #[.bool q3, .int .i64 q4, .int .u64 q5, .int .u64 q6, .int .u64 q7, .int .u64 q8, .bool q9] 51 (0, 0)) (kB q1)) : qd ≠ q2)); replace q1 := aK (blk_below (g := q2) (o := .cells #[.bool q3, .int .i64 q4, .int .u64 q5, .int .u64 q6, .int .u64 q7, .int .u64 q8, .bool q9] 51 (0, 0)) (kB q1) hb); clear hb hbox hg; have hnb18 := qq.out; have hnc18 := qp.out; obtain ⟨_, _, _, _, _, _, _, _, _, _, _, _, _, _⟩ := W7q qm) | ((with_reducible refine gate_callee (f := 41) rfl ?_); refine goesL_ (some 39) rfl rfl Try.func41 (by kernel_rfl) rfl #[.agg #[.bool qe, .int .i64 qf, .int .u64 qg, .int .u64 qh, .int .u64 qi, .int .u64 qj, .bool qk], .int .i64 0] rfl LMq ?_; (with_reducible refine (rnd_Round.calls qe qf qg qh qi qj qk 0 ql qt _ A8.out).mono ?_); rintro e w20 ⟨rfl, hb⟩; refine ⟨_, rfl, ?_⟩; replace q1 := aK (blk_below (g := q2) (o := .cells #[.bool q3, .int .i64 q4, .int .u64 q5, .int .u64 q6, .int .u64 q7, .int .u64 q8, .bool q9] 51 (0, 0)) (kF q1) hb); replace qm := aK (blk_below (g := qd) (o := .cells #[.bool qe, .int .i64 qf, .int .u64 qg, .int .u64 qh, .int .u64 qi, .int .u64 qj, .bool qk] 51 (0, 0)) (kF qm) hb); replace HB := aK (below_step (kHt HB qb qo) hb); (try clear hb); (try clear hb2); (try clear hk); (try clear hi)))
       go_ret2
       exact ⟨by first | rfl | (simp [errW_none, errW_some] <;> rfl) | (simp [*, errW_none, errW_some] <;> rfl), kHt HB qb qo⟩
     replace c10 := Bool.eq_false_iff.mpr c10; subst c10
     have H1 : (some (ql, 0)) = some (r1, r2) := by rw [if_neg (show ¬ (false = true) by decide)] at H; exact H
     clear H; have H := H1; clear H1
     simp only [Option.some.injEq, Prod.mk.injEq] at H
     obtain ⟨rfl, rfl⟩ := H
     go_enter Try.func21, Try.ntmps21
     go_wp2_with (first | ((with_reducible refine gate_callee (f := 25) rfl ?_); refine goesL_ (some 16) rfl rfl Try.func25 (by kernel_rfl) rfl #[.int .u64 a0] rfl LMq ?_; (with_reducible refine (rnd_Of.calls a0 q3 q4 q5 q6 q7 q8 q9 none _ A4.out).mono ?_); rintro e w21 ⟨rfl, hb⟩; refine ⟨_, rfl, ?_⟩; replace HB := aK (below_step (kH HB) hb); (try clear hb); (try clear hb2); (try clear hk); (try clear hi); (try simp only [errW_none, errW_some])) | ((with_reducible refine gate_dst (N := 8) rfl ?_); refine box_event ?hg (N := 8) ?hd (cs := #[.bool false, .int .i64 0, .int .u64 0, .int .u64 0, .int .u64 0, .int .u64 0, .bool false]) (t := 51) ?hr ?_; (case hd => rfl); (case hg => rfl); (case hr => first | (go_simp; done) | (go_simp; rfl)); intro q2 hg w22 hbox hb; have q1 := aK (hbox); have qu := aK ((by rw [hg]; exact (below_size (kH HB)) : w.heap.size ≤ q2)); have qb := aK ((by rw [hg]; exact (below_size (kH HB)) : w.heap.size ≤ q2)); replace HB := aK (below_step (kH HB) hb); clear hb hbox hg; obtain ⟨_, _, _, _, _, _, _, _, _, _, _, _, _, _⟩ := W7q q1) | ((with_reducible refine gate_callee (f := 27) rfl ?_); refine goesL_ (some 21) rfl rfl Try.func27 (by kernel_rfl) rfl #[.int .u64 a0] rfl LMq ?_; (with_reducible refine (pat_IsNaN.calls a0 false _ A5.out).mono ?_); rintro e w24 ⟨rfl, hb⟩; refine ⟨_, rfl, ?_⟩; replace q1 := aK (blk_below (g := q2) (o := .cells #[.bool q3, .int .i64 q4, .int .u64 q5, .int .u64 q6, .int .u64 q7, .int .u64 q8, .bool q9] 51 (0, 0)) (kF q1) hb); replace HB := aK (below_step (kHs HB qb) hb); (try clear hb); (try clear hb2); (try clear hk); (try clear hi); obtain ⟨_, _, _, _, _, _, _, _, _, _, _, _, _, _⟩ := W7q q1) | ((with_reducible refine gate_callee (f := 56) rfl ?_); refine goesL_ (some 34) rfl rfl Try.func56 (by kernel_rfl) rfl #[.agg #[.bool q3, .int .i64 q4, .int .u64 q5, .int .u64 q6, .int .u64 q7, .int .u64 q8, .bool q9], .int .i64 a1] rfl LMq ?_; (with_reducible refine (rnd_Whole.calls k q3 q4 q5 q6 q7 q8 q9 a1 qe qf qg qh qi qj qk true _ A7.out).mono ?_); rintro e w26 ⟨rfl, hb⟩; refine ⟨_, rfl, ?_⟩; replace q1 := aK (blk_below (g := q2) (o := .cells #[.bool q3, .int .i64 q4, .int .u64 q5, .int .u64 q6, .int .u64 q7, .int .u64 q8, .bool q9] 51 (0, 0)) (kB q1) hb); replace HB := aK (below_step (kHs HB qb) hb); (try clear hb); (try clear hb2); (try clear hk); (try clear hi)) | ((with_reducible refine gate_dst (N := 10) rfl ?_); refine box_event ?hg (N := 10) ?hd (cs := #[.bool false, .int .i64 0, .int .u64 0, .int .u64 0, .int .u64 0, .int .u64 0, .bool false]) (t := 51) ?hr ?_; (case hd => rfl); (case hg => rfl); (case hr => first | (go_simp; done) | (go_simp; rfl)); intro qd hg w27 hbox hb; have qm := aK (hbox); have qv := aK ((by rw [hg]; exact (below_size (kHs HB qb)) : w.heap.size ≤ qd)); have qo := aK ((by rw [hg]; exact (below_size (kHs HB qb)) : w.heap.size ≤ qd)); replace HB := aK (below_step (kHs HB qb) hb); have qp := aK ((by rw [hg]; exact Nat.ne_of_lt (blk_lt (g := q2) (o := .cells #[.bool q3, .int .i64 q4, .int .u64 q5, .int .u64 q6, .int .u64 q7, .int .u64 q8, .bool q9] 51 (0, 0)) (kB q1)) : q2 ≠ qd)); have qq := aK ((by rw [hg]; exact Nat.ne_of_gt (blk_lt (g := q2) (o := .cells #[.bool q3, .int .i64 q4, .int .u64 q5, .int .u64 q6, .int .u64 q7, .int .u64 q8, .bool q9] 51 (0, 0)) (kB q1)) : qd ≠ q2)); replace q1 := aK (blk_below (g := q2) (o := .cells #[.bool q3, .int .i64 q4, .int .u64 q5, .int .u64 q6, .int .u64 q7, .int .u64 q8, .bool q9] 51 (0, 0)) (kB q1) hb); clear hb hbox hg; have hnb28 := qq.out; have hnc28 := qp.out; obtain ⟨_, _, _, _, _, _, _, _, _, _, _, _, _, _⟩ := W7q qm) | ((with_reducible refine gate_callee (f := 41) rfl ?_); refine goesL_ (some 39) rfl rfl Try.func41 (by kernel_rfl) rfl #[.agg #[.bool qe, .int .i64 qf, .int .u64 qg, .int .u64 qh, .int .u64 qi, .int .u64 qj, .bool qk], .int .i64 0] rfl LMq ?_; (with_reducible refine (rnd_Round.calls qe qf qg qh qi qj qk 0 ql qt _ A8.out).mono ?_); rintro e w30 ⟨rfl, hb⟩; refine ⟨_, rfl, ?_⟩; replace q1 := aK (blk_below (g := q2) (o := .cells #[.bool q3, .int .i64 q4, .int .u64 q5, .int .u64 q6, .int .u64 q7, .int .u64 q8, .bool q9] 51 (0, 0)) (kF q1) hb); replace qm := aK (blk_below (g := qd) (o := .cells #[.bool qe, .int .i64 qf, .int .u64 qg, .int .u64 qh, .int .u64 qi, .int .u64 qj, .bool qk] 51 (0, 0)) (kF qm) hb); replace HB := aK (below_step (kHt HB qb qo) hb); (try clear hb); (try clear hb2); (try clear hk); (try clear hi)))
     go_ret2
     exact ⟨by first | rfl | (simp [errW_none, errW_some] <;> rfl) | (simp [*, errW_none, errW_some] <;> rfl), kHt HB qb qo⟩
   replace c9 := Bool.eq_false_iff.mpr c9; subst c9
   have H1 : (some (ql, 0)) = some (r1, r2) := by rw [if_neg (show ¬ (false = true) by decide)] at H; exact H
   clear H; have H := H1; clear H1
   simp only [Option.some.injEq, Prod.mk.injEq] at H
   obtain ⟨rfl, rfl⟩ := H
   go_enter Try.func21, Try.ntmps21
   go_wp2_with (first | ((with_reducible refine gate_callee (f := 25) rfl ?_); refine goesL_ (some 16) rfl rfl Try.func25 (by kernel_rfl) rfl #[.int .u64 a0] rfl LMq ?_; (with_reducible refine (rnd_Of.calls a0 q3 q4 q5 q6 q7 q8 q9 none _ A4.out).mono ?_); rintro e w31 ⟨rfl, hb⟩; refine ⟨_, rfl, ?_⟩; replace HB := aK (below_step (kH HB) hb); (try clear hb); (try clear hb2); (try clear hk); (try clear hi); (try simp only [errW_none, errW_some])) | ((with_reducible refine gate_dst (N := 8) rfl ?_); refine box_event ?hg (N := 8) ?hd (cs := #[.bool false, .int .i64 0, .int .u64 0, .int .u64 0, .int .u64 0, .int .u64 0, .bool false]) (t := 51) ?hr ?_; (case hd => rfl); (case hg => rfl); (case hr => first | (go_simp; done) | (go_simp; rfl)); intro q2 hg w32 hbox hb; have q1 := aK (hbox); have qu := aK ((by rw [hg]; exact (below_size (kH HB)) : w.heap.size ≤ q2)); have qb := aK ((by rw [hg]; exact (below_size (kH HB)) : w.heap.size ≤ q2)); replace HB := aK (below_step (kH HB) hb); clear hb hbox hg; obtain ⟨_, _, _, _, _, _, _, _, _, _, _, _, _, _⟩ := W7q q1) | ((with_reducible refine gate_callee (f := 27) rfl ?_); refine goesL_ (some 21) rfl rfl Try.func27 (by kernel_rfl) rfl #[.int .u64 a0] rfl LMq ?_; (with_reducible refine (pat_IsNaN.calls a0 false _ A5.out).mono ?_); rintro e w34 ⟨rfl, hb⟩; refine ⟨_, rfl, ?_⟩; replace q1 := aK (blk_below (g := q2) (o := .cells #[.bool q3, .int .i64 q4, .int .u64 q5, .int .u64 q6, .int .u64 q7, .int .u64 q8, .bool q9] 51 (0, 0)) (kF q1) hb); replace HB := aK (below_step (kHs HB qb) hb); (try clear hb); (try clear hb2); (try clear hk); (try clear hi); obtain ⟨_, _, _, _, _, _, _, _, _, _, _, _, _, _⟩ := W7q q1) | ((with_reducible refine gate_callee (f := 56) rfl ?_); refine goesL_ (some 34) rfl rfl Try.func56 (by kernel_rfl) rfl #[.agg #[.bool q3, .int .i64 q4, .int .u64 q5, .int .u64 q6, .int .u64 q7, .int .u64 q8, .bool q9], .int .i64 a1] rfl LMq ?_; (with_reducible refine (rnd_Whole.calls k q3 q4 q5 q6 q7 q8 q9 a1 qe qf qg qh qi qj qk false _ A7.out).mono ?_); rintro e w36 ⟨rfl, hb⟩; refine ⟨_, rfl, ?_⟩; replace q1 := aK (blk_below (g := q2) (o := .cells #[.bool q3, .int .i64 q4, .int .u64 q5, .int .u64 q6, .int .u64 q7, .int .u64 q8, .bool q9] 51 (0, 0)) (kB q1) hb); replace HB := aK (below_step (kHs HB qb) hb); (try clear hb); (try clear hb2); (try clear hk); (try clear hi)) | ((with_reducible refine gate_dst (N := 10) rfl ?_); refine box_event ?hg (N := 10) ?hd (cs := #[.bool false, .int .i64 0, .int .u64 0, .int .u64 0, .int .u64 0, .int .u64 0, .bool false]) (t := 51) ?hr ?_; (case hd => rfl); (case hg => rfl); (case hr => first | (go_simp; done) | (go_simp; rfl)); intro qd hg w37 hbox hb; have qm := aK (hbox); have qv := aK ((by rw [hg]; exact (below_size (kHs HB qb)) : w.heap.size ≤ qd)); have qo := aK ((by rw [hg]; exact (below_size (kHs HB qb)) : w.heap.size ≤ qd)); replace HB := aK (below_step (kHs HB qb) hb); have qp := aK ((by rw [hg]; exact Nat.ne_of_lt (blk_lt (g := q2) (o := .cells #[.bool q3, .int .i64 q4, .int .u64 q5, .int .u64 q6, .int .u64 q7, .int .u64 q8, .bool q9] 51 (0, 0)) (kB q1)) : q2 ≠ qd)); have qq := aK ((by rw [hg]; exact Nat.ne_of_gt (blk_lt (g := q2) (o := .cells #[.bool q3, .int .i64 q4, .int .u64 q5, .int .u64 q6, .int .u64 q7, .int .u64 q8, .bool q9] 51 (0, 0)) (kB q1)) : qd ≠ q2)); replace q1 := aK (blk_below (g := q2) (o := .cells #[.bool q3, .int .i64 q4, .int .u64 q5, .int .u64 q6, .int .u64 q7, .int .u64 q8, .bool q9] 51 (0, 0)) (kB q1) hb); clear hb hbox hg; have hnb38 := qq.out; have hnc38 := qp.out; obtain ⟨_, _, _, _, _, _, _, _, _, _, _, _, _, _⟩ := W7q qm) | ((with_reducible refine gate_callee (f := 41) rfl ?_); refine goesL_ (some 39) rfl rfl Try.func41 (by kernel_rfl) rfl #[.agg #[.bool qe, .int .i64 qf, .int .u64 qg, .int .u64 qh, .int .u64 qi, .int .u64 qj, .bool qk], .int .i64 0] rfl LMq ?_; (with_reducible refine (rnd_Round.calls qe qf qg qh qi qj qk 0 ql qt _ A8.out).mono ?_); rintro e w40 ⟨rfl, hb⟩; refine ⟨_, rfl, ?_⟩; replace q1 := aK (blk_below (g := q2) (o := .cells #[.bool q3, .int .i64 q4, .int .u64 q5, .int .u64 q6, .int .u64 q7, .int .u64 q8, .bool q9] 51 (0, 0)) (kF q1) hb); replace qm := aK (blk_below (g := qd) (o := .cells #[.bool qe, .int .i64 qf, .int .u64 qg, .int .u64 qh, .int .u64 qi, .int .u64 qj, .bool qk] 51 (0, 0)) (kF qm) hb); replace HB := aK (below_step (kHt HB qb qo) hb); (try clear hb); (try clear hb2); (try clear hk); (try clear hi)))
   go_ret2
   exact ⟨by first | rfl | (simp [errW_none, errW_some] <;> rfl) | (simp [*, errW_none, errW_some] <;> rfl), kHt HB qb qo⟩
 have H1 : (some (a0, 0)) = some (r1, r2) := by rw [if_neg (show ¬ (some q500).isNone = true by simp)] at H; exact H
 clear H; have H := H1; clear H1
 try simp only [errW_none, errW_some]
 simp only [Option.some.injEq, Prod.mk.injEq] at H
 obtain ⟨rfl, rfl⟩ := H
 go_enter Try.func21, Try.ntmps21
 go_wp2_with (first | ((with_reducible refine gate_callee (f := 25) rfl ?_); refine goesL_ (some 16) rfl rfl Try.func25 (by kernel_rfl) rfl #[.int .u64 a0] rfl LMq ?_; (with_reducible refine (rnd_Of.calls a0 q3 q4 q5 q6 q7 q8 q9 (some q500) _ A4.out).mono ?_); rintro e w41 ⟨rfl, hb⟩; refine ⟨_, rfl, ?_⟩; replace HB := aK (below_step (kH HB) hb); (try clear hb); (try clear hb2); (try clear hk); (try clear hi); (try simp only [errW_none, errW_some])) | ((with_reducible refine gate_dst (N := 8) rfl ?_); refine box_event ?hg (N := 8) ?hd (cs := #[.bool false, .int .i64 0, .int .u64 0, .int .u64 0, .int .u64 0, .int .u64 0, .bool false]) (t := 51) ?hr ?_; (case hd => rfl); (case hg => rfl); (case hr => first | (go_simp; done) | (go_simp; rfl)); intro q2 hg w42 hbox hb; have q1 := aK (hbox); have qu := aK ((by rw [hg]; exact (below_size (kH HB)) : w.heap.size ≤ q2)); have qb := aK ((by rw [hg]; exact (below_size (kH HB)) : w.heap.size ≤ q2)); replace HB := aK (below_step (kH HB) hb); clear hb hbox hg; obtain ⟨_, _, _, _, _, _, _, _, _, _, _, _, _, _⟩ := W7q q1) | ((with_reducible refine gate_callee (f := 27) rfl ?_); refine goesL_ (some 21) rfl rfl Try.func27 (by kernel_rfl) rfl #[.int .u64 a0] rfl LMq ?_; (with_reducible refine (pat_IsNaN.calls a0 false _ A5.out).mono ?_); rintro e w44 ⟨rfl, hb⟩; refine ⟨_, rfl, ?_⟩; replace q1 := aK (blk_below (g := q2) (o := .cells #[.bool q3, .int .i64 q4, .int .u64 q5, .int .u64 q6, .int .u64 q7, .int .u64 q8, .bool q9] 51 (0, 0)) (kF q1) hb); replace HB := aK (below_step (kHs HB qb) hb); (try clear hb); (try clear hb2); (try clear hk); (try clear hi)))
 go_ret2
 exact ⟨by first | rfl | (simp [errW_none, errW_some] <;> rfl) | (simp [*, errW_none, errW_some] <;> rfl), kHs HB qb⟩
def tillerlaw08_sure.f (k : Nat)  : Option (Bool) := (whole_Rem.f k 4617315517961601024 4613937818241073152).bind fun q8 => ((whole_Mod.f k 4617315517961601024 4613937818241073152).bind fun q6 => ((whole_Round.f k 4612811918334230528 0 true).bind fun q5 => (if q8.1 = 13830554455654793216 then (if q8.2 = 0 then (if q6.1 = 4611686018427387904 then (if q6.2 = 0 then (if q5.1 = 4611686018427387904 then (some (q5.2 == 16)) else (some false)) else (some false)) else (some false)) else (some false)) else (some false))))
theorem tillerlaw08_sure.mono : ∀ k, LeO (tillerlaw08_sure.f k ) (tillerlaw08_sure.f (k + 1) ) := by
 intro  k
 unfold tillerlaw08_sure.f
 repeat' (with_reducible first | exact whole_Mod.mono _ _ _ | exact whole_Rem.mono _ _ _ | exact whole_Round.mono _ _ _ _ | exact LeO.refl _ | exact LeO.none _ | refine LeO.ite ?_ ?_ | refine LeO.bind ?_ (fun _ => ?_))
set_option maxHeartbeats 8000000 in
set_option maxRecDepth 100000 in
theorem tillerlaw08_sure.calls (k : Nat)  (r : Bool) (w : World) (h : tillerlaw08_sure.f k  = some r) :
 Calls Try.prog 20 #[] w fun e w' => e = .returned (.bool r) ∧ Below w.heap.size w w' := by
 have HB := aK (Below.refl w.heap.size w); have H : ((whole_Rem.f k 4617315517961601024 4613937818241073152).bind fun q8 => ((whole_Mod.f k 4617315517961601024 4613937818241073152).bind fun q6 => ((whole_Round.f k 4612811918334230528 0 true).bind fun q5 => (if q8.1 = 13830554455654793216 then (if q8.2 = 0 then (if q6.1 = 4611686018427387904 then (if q6.2 = 0 then (if q5.1 = 4611686018427387904 then (some (q5.2 == 16)) else (some false)) else (some false)) else (some false)) else (some false)) else (some false))))) = some r := h; clear h; replace H := Option.bind_eq_some_iff.mp H; obtain ⟨⟨q0, q1⟩, A10, H⟩ := H; replace H : ((whole_Mod.f k 4617315517961601024 4613937818241073152).bind fun q6 => ((whole_Round.f k 4612811918334230528 0 true).bind fun q5 => (if q0 = 13830554455654793216 then (if q1 = 0 then (if q6.1 = 4611686018427387904 then (if q6.2 = 0 then (if q5.1 = 4611686018427387904 then (some (q5.2 == 16)) else (some false)) else (some false)) else (some false)) else (some false)) else (some false)))) = some r := H; have A1 := aK A10; clear A10; replace H := Option.bind_eq_some_iff.mp H; obtain ⟨⟨q2, q3⟩, A20, H⟩ := H; replace H : ((whole_Round.f k 4612811918334230528 0 true).bind fun q5 => (if q0 = 13830554455654793216 then (if q1 = 0 then (if q2 = 4611686018427387904 then (if q3 = 0 then (if q5.1 = 4611686018427387904 then (some (q5.2 == 16)) else (some false)) else (some false)) else (some false)) else (some false)) else (some false))) = some r := H; have A2 := aK A20; clear A20; replace H := Option.bind_eq_some_iff.mp H; obtain ⟨⟨q4, q7⟩, A30, H⟩ := H; replace H : (if q0 = 13830554455654793216 then (if q1 = 0 then (if q2 = 4611686018427387904 then (if q3 = 0 then (if q4 = 4611686018427387904 then (some (q7 == 16)) else (some false)) else (some false)) else (some false)) else (some false)) else (some false)) = some r := H; have A3 := aK A30; clear A30
 by_cases c4 : q0 = 13830554455654793216
 · rw [if_pos c4] at H
   have q9 : (q0 == 13830554455654793216) = true := beq_iff_eq.mpr c4; have qa : (q0 != 13830554455654793216) = false := bne_eq_false_iff_eq.mpr c4; clear c4
   by_cases c5 : q1 = 0
   · rw [if_pos c5] at H
     have qb : (q1 == 0) = true := beq_iff_eq.mpr c5; have qc : (q1 != 0) = false := bne_eq_false_iff_eq.mpr c5; clear c5
     by_cases c6 : q2 = 4611686018427387904
     · rw [if_pos c6] at H
       have qd : (q2 == 4611686018427387904) = true := beq_iff_eq.mpr c6; have qe : (q2 != 4611686018427387904) = false := bne_eq_false_iff_eq.mpr c6; clear c6
       by_cases c7 : q3 = 0
       · rw [if_pos c7] at H
         have qf : (q3 == 0) = true := beq_iff_eq.mpr c7; have qg : (q3 != 0) = false := bne_eq_false_iff_eq.mpr c7; clear c7
         by_cases c8 : q4 = 4611686018427387904
         · rw [if_pos c8] at H
           have qh : (q4 == 4611686018427387904) = true := beq_iff_eq.mpr c8; have qi : (q4 != 4611686018427387904) = false := bne_eq_false_iff_eq.mpr c8; clear c8; obtain rfl := Option.some.inj H
           go_enter Try.func20, Try.ntmps20
           go_wp2_with (first | ((with_reducible refine gate_callee (f := 17) rfl ?_); refine goesL_ (some 8) rfl rfl Try.func17 (by kernel_rfl) rfl #[.int .u64 4617315517961601024, .int .u64 4613937818241073152] rfl LMq ?_; (with_reducible refine (whole_Rem.calls k 4617315517961601024 4613937818241073152 q0 q1 _ A1.out).mono ?_); rintro e w9 ⟨rfl, hb⟩; refine ⟨_, rfl, ?_⟩; replace HB := aK (below_step (kH HB) hb); (try clear hb); (try clear hb2); (try clear hk); (try clear hi)) | ((with_reducible refine gate_callee (f := 19) rfl ?_); refine goesL_ (some 12) rfl rfl Try.func19 (by kernel_rfl) rfl #[.int .u64 4617315517961601024, .int .u64 4613937818241073152] rfl LMq ?_; (with_reducible refine (whole_Mod.calls k 4617315517961601024 4613937818241073152 q2 q3 _ A2.out).mono ?_); rintro e w10 ⟨rfl, hb⟩; refine ⟨_, rfl, ?_⟩; replace HB := aK (below_step (kH HB) hb); (try clear hb); (try clear hb2); (try clear hk); (try clear hi)) | ((with_reducible refine gate_callee (f := 21) rfl ?_); refine goesL_ (some 16) rfl rfl Try.func21 (by kernel_rfl) rfl #[.int .u64 4612811918334230528, .int .i64 0, .bool true] rfl LMq ?_; (with_reducible refine (whole_Round.calls k 4612811918334230528 0 true q4 q7 _ A3.out).mono ?_); rintro e w11 ⟨rfl, hb⟩; refine ⟨_, rfl, ?_⟩; replace HB := aK (below_step (kH HB) hb); (try clear hb); (try clear hb2); (try clear hk); (try clear hi)))
           go_ret
           exact ⟨by first | rfl | (simp [errW_none, errW_some] <;> rfl) | (simp [*, errW_none, errW_some] <;> rfl), kH HB⟩
         rw [if_neg c8] at H
         have qh : (q4 == 4611686018427387904) = false := beq_eq_false_iff_ne.mpr c8; have qi : (q4 != 4611686018427387904) = true := bne_iff_ne.mpr c8; obtain rfl := Option.some.inj H
         go_enter Try.func20, Try.ntmps20
         go_wp2_with (first | ((with_reducible refine gate_callee (f := 17) rfl ?_); refine goesL_ (some 8) rfl rfl Try.func17 (by kernel_rfl) rfl #[.int .u64 4617315517961601024, .int .u64 4613937818241073152] rfl LMq ?_; (with_reducible refine (whole_Rem.calls k 4617315517961601024 4613937818241073152 q0 q1 _ A1.out).mono ?_); rintro e w12 ⟨rfl, hb⟩; refine ⟨_, rfl, ?_⟩; replace HB := aK (below_step (kH HB) hb); (try clear hb); (try clear hb2); (try clear hk); (try clear hi)) | ((with_reducible refine gate_callee (f := 19) rfl ?_); refine goesL_ (some 12) rfl rfl Try.func19 (by kernel_rfl) rfl #[.int .u64 4617315517961601024, .int .u64 4613937818241073152] rfl LMq ?_; (with_reducible refine (whole_Mod.calls k 4617315517961601024 4613937818241073152 q2 q3 _ A2.out).mono ?_); rintro e w13 ⟨rfl, hb⟩; refine ⟨_, rfl, ?_⟩; replace HB := aK (below_step (kH HB) hb); (try clear hb); (try clear hb2); (try clear hk); (try clear hi)) | ((with_reducible refine gate_callee (f := 21) rfl ?_); refine goesL_ (some 16) rfl rfl Try.func21 (by kernel_rfl) rfl #[.int .u64 4612811918334230528, .int .i64 0, .bool true] rfl LMq ?_; (with_reducible refine (whole_Round.calls k 4612811918334230528 0 true q4 q7 _ A3.out).mono ?_); rintro e w14 ⟨rfl, hb⟩; refine ⟨_, rfl, ?_⟩; replace HB := aK (below_step (kH HB) hb); (try clear hb); (try clear hb2); (try clear hk); (try clear hi)))
         go_ret
         exact ⟨by first | rfl | (simp [errW_none, errW_some] <;> rfl) | (simp [*, errW_none, errW_some] <;> rfl), kH HB⟩
       rw [if_neg c7] at H
       have qf : (q3 == 0) = false := beq_eq_false_iff_ne.mpr c7; have qg : (q3 != 0) = true := bne_iff_ne.mpr c7; obtain rfl := Option.some.inj H
       go_enter Try.func20, Try.ntmps20
       go_wp2_with (first | ((with_reducible refine gate_callee (f := 17) rfl ?_); refine goesL_ (some 8) rfl rfl Try.func17 (by kernel_rfl) rfl #[.int .u64 4617315517961601024, .int .u64 4613937818241073152] rfl LMq ?_; (with_reducible refine (whole_Rem.calls k 4617315517961601024 4613937818241073152 q0 q1 _ A1.out).mono ?_); rintro e w15 ⟨rfl, hb⟩; refine ⟨_, rfl, ?_⟩; replace HB := aK (below_step (kH HB) hb); (try clear hb); (try clear hb2); (try clear hk); (try clear hi)) | ((with_reducible refine gate_callee (f := 19) rfl ?_); refine goesL_ (some 12) rfl rfl Try.func19 (by kernel_rfl) rfl #[.int .u64 4617315517961601024, .int .u64 4613937818241073152] rfl LMq ?_; (with_reducible refine (whole_Mod.calls k 4617315517961601024 4613937818241073152 q2 q3 _ A2.out).mono ?_); rintro e w16 ⟨rfl, hb⟩; refine ⟨_, rfl, ?_⟩; replace HB := aK (below_step (kH HB) hb); (try clear hb); (try clear hb2); (try clear hk); (try clear hi)) | ((with_reducible refine gate_callee (f := 21) rfl ?_); refine goesL_ (some 16) rfl rfl Try.func21 (by kernel_rfl) rfl #[.int .u64 4612811918334230528, .int .i64 0, .bool true] rfl LMq ?_; (with_reducible refine (whole_Round.calls k 4612811918334230528 0 true q4 q7 _ A3.out).mono ?_); rintro e w17 ⟨rfl, hb⟩; refine ⟨_, rfl, ?_⟩; replace HB := aK (below_step (kH HB) hb); (try clear hb); (try clear hb2); (try clear hk); (try clear hi)))
       go_ret
       exact ⟨by first | rfl | (simp [errW_none, errW_some] <;> rfl) | (simp [*, errW_none, errW_some] <;> rfl), kH HB⟩
     rw [if_neg c6] at H
     have qd : (q2 == 4611686018427387904) = false := beq_eq_false_iff_ne.mpr c6; have qe : (q2 != 4611686018427387904) = true := bne_iff_ne.mpr c6; obtain rfl := Option.some.inj H
     go_enter Try.func20, Try.ntmps20
     go_wp2_with (first | ((with_reducible refine gate_callee (f := 17) rfl ?_); refine goesL_ (some 8) rfl rfl Try.func17 (by kernel_rfl) rfl #[.int .u64 4617315517961601024, .int .u64 4613937818241073152] rfl LMq ?_; (with_reducible refine (whole_Rem.calls k 4617315517961601024 4613937818241073152 q0 q1 _ A1.out).mono ?_); rintro e w18 ⟨rfl, hb⟩; refine ⟨_, rfl, ?_⟩; replace HB := aK (below_step (kH HB) hb); (try clear hb); (try clear hb2); (try clear hk); (try clear hi)) | ((with_reducible refine gate_callee (f := 19) rfl ?_); refine goesL_ (some 12) rfl rfl Try.func19 (by kernel_rfl) rfl #[.int .u64 4617315517961601024, .int .u64 4613937818241073152] rfl LMq ?_; (with_reducible refine (whole_Mod.calls k 4617315517961601024 4613937818241073152 q2 q3 _ A2.out).mono ?_); rintro e w19 ⟨rfl, hb⟩; refine ⟨_, rfl, ?_⟩; replace HB := aK (below_step (kH HB) hb); (try clear hb); (try clear hb2); (try clear hk); (try clear hi)) | ((with_reducible refine gate_callee (f := 21) rfl ?_); refine goesL_ (some 16) rfl rfl Try.func21 (by kernel_rfl) rfl #[.int .u64 4612811918334230528, .int .i64 0, .bool true] rfl LMq ?_; (with_reducible refine (whole_Round.calls k 4612811918334230528 0 true q4 q7 _ A3.out).mono ?_); rintro e w20 ⟨rfl, hb⟩; refine ⟨_, rfl, ?_⟩; replace HB := aK (below_step (kH HB) hb); (try clear hb); (try clear hb2); (try clear hk); (try clear hi)))
     go_ret
     exact ⟨by first | rfl | (simp [errW_none, errW_some] <;> rfl) | (simp [*, errW_none, errW_some] <;> rfl), kH HB⟩
   rw [if_neg c5] at H
   have qb : (q1 == 0) = false := beq_eq_false_iff_ne.mpr c5; have qc : (q1 != 0) = true := bne_iff_ne.mpr c5; obtain rfl := Option.some.inj H
   go_enter Try.func20, Try.ntmps20
   go_wp2_with (first | ((with_reducible refine gate_callee (f := 17) rfl ?_); refine goesL_ (some 8) rfl rfl Try.func17 (by kernel_rfl) rfl #[.int .u64 4617315517961601024, .int .u64 4613937818241073152] rfl LMq ?_; (with_reducible refine (whole_Rem.calls k 4617315517961601024 4613937818241073152 q0 q1 _ A1.out).mono ?_); rintro e w21 ⟨rfl, hb⟩; refine ⟨_, rfl, ?_⟩; replace HB := aK (below_step (kH HB) hb); (try clear hb); (try clear hb2); (try clear hk); (try clear hi)) | ((with_reducible refine gate_callee (f := 19) rfl ?_); refine goesL_ (some 12) rfl rfl Try.func19 (by kernel_rfl) rfl #[.int .u64 4617315517961601024, .int .u64 4613937818241073152] rfl LMq ?_; (with_reducible refine (whole_Mod.calls k 4617315517961601024 4613937818241073152 q2 q3 _ A2.out).mono ?_); rintro e w22 ⟨rfl, hb⟩; refine ⟨_, rfl, ?_⟩; replace HB := aK (below_step (kH HB) hb); (try clear hb); (try clear hb2); (try clear hk); (try clear hi)) | ((with_reducible refine gate_callee (f := 21) rfl ?_); refine goesL_ (some 16) rfl rfl Try.func21 (by kernel_rfl) rfl #[.int .u64 4612811918334230528, .int .i64 0, .bool true] rfl LMq ?_; (with_reducible refine (whole_Round.calls k 4612811918334230528 0 true q4 q7 _ A3.out).mono ?_); rintro e w23 ⟨rfl, hb⟩; refine ⟨_, rfl, ?_⟩; replace HB := aK (below_step (kH HB) hb); (try clear hb); (try clear hb2); (try clear hk); (try clear hi)))
   go_ret
   exact ⟨by first | rfl | (simp [errW_none, errW_some] <;> rfl) | (simp [*, errW_none, errW_some] <;> rfl), kH HB⟩
 rw [if_neg c4] at H
 have q9 : (q0 == 13830554455654793216) = false := beq_eq_false_iff_ne.mpr c4; have qa : (q0 != 13830554455654793216) = true := bne_iff_ne.mpr c4; obtain rfl := Option.some.inj H
 go_enter Try.func20, Try.ntmps20
 go_wp2_with (first | ((with_reducible refine gate_callee (f := 17) rfl ?_); refine goesL_ (some 8) rfl rfl Try.func17 (by kernel_rfl) rfl #[.int .u64 4617315517961601024, .int .u64 4613937818241073152] rfl LMq ?_; (with_reducible refine (whole_Rem.calls k 4617315517961601024 4613937818241073152 q0 q1 _ A1.out).mono ?_); rintro e w24 ⟨rfl, hb⟩; refine ⟨_, rfl, ?_⟩; replace HB := aK (below_step (kH HB) hb); (try clear hb); (try clear hb2); (try clear hk); (try clear hi)) | ((with_reducible refine gate_callee (f := 19) rfl ?_); refine goesL_ (some 12) rfl rfl Try.func19 (by kernel_rfl) rfl #[.int .u64 4617315517961601024, .int .u64 4613937818241073152] rfl LMq ?_; (with_reducible refine (whole_Mod.calls k 4617315517961601024 4613937818241073152 q2 q3 _ A2.out).mono ?_); rintro e w25 ⟨rfl, hb⟩; refine ⟨_, rfl, ?_⟩; replace HB := aK (below_step (kH HB) hb); (try clear hb); (try clear hb2); (try clear hk); (try clear hi)) | ((with_reducible refine gate_callee (f := 21) rfl ?_); refine goesL_ (some 16) rfl rfl Try.func21 (by kernel_rfl) rfl #[.int .u64 4612811918334230528, .int .i64 0, .bool true] rfl LMq ?_; (with_reducible refine (whole_Round.calls k 4612811918334230528 0 true q4 q7 _ A3.out).mono ?_); rintro e w26 ⟨rfl, hb⟩; refine ⟨_, rfl, ?_⟩; replace HB := aK (below_step (kH HB) hb); (try clear hb); (try clear hb2); (try clear hk); (try clear hi)))
 go_ret
 exact ⟨by first | rfl | (simp [errW_none, errW_some] <;> rfl) | (simp [*, errW_none, errW_some] <;> rfl), kH HB⟩
end Go.Proofs.Ytfnkmedajchbgaa.X
end
section
namespace Go.Proofs.Ytfnkmedajchbgaa
open Go.RowKit X
theorem dl_T {y : Nat} (hy2 : y < 2 ^ 53) : y < T256 := by rw [T256_eq]; exact Nat.lt_trans hy2 (by decide)
theorem dl_big {y r n : Nat} (hy2 : y < 2 ^ 53) (hr : r < y) (hn : n ≤ 64) : r * 2 ^ n < T256 := by
  rw [T256_eq]
  have h1 : r * 2 ^ n < 2 ^ 53 * 2 ^ 64 :=
    Nat.lt_of_lt_of_le (Nat.mul_lt_mul_of_pos_right (Nat.lt_trans hr hy2) (Nat.two_pow_pos n)) (Nat.mul_le_mul_left _ (Nat.pow_le_pow_right (by omega) hn))
  exact Nat.lt_trans h1 (by decide)
theorem dl_stop (k : Nat) (w0 w1 w2 w3 e : Int) (a0 a1 a2 a3 b0 b1 b2 b3 : Int) (od : Bool) :
    whole_divide.l0 (k + 1) 0 w0 w1 w2 w3 a0 a1 a2 a3 e od b0 b1 b2 b3 = some (b0, b1, b2, b3, a0, a1, a2, a3, e, od) := by
  simp only [whole_divide.l0]
  rw [if_neg (by omega)]
theorem dl_step1 {y : Nat} (hy : 0 < y) (hyT : y < T256) (w0 w1 w2 w3 e : Int) (q : Nat) {N : Int} {r R : Nat} (od : Bool) (hN : 64 < N) (hN0 : N ≤ 1000000) (hrT : r < T256) (hR : r * 2 ^ (64 : Int).toNat = R) (hb : R < T256) :
    whole_divide.l0 (q + 1) N w0 w1 w2 w3 (l0 y) (l1 y) (l2 y) (l3 y) e od (l0 r) (l1 r) (l2 r) (l3 r) =
    whole_divide.l0 q (N - 64) w0 w1 w2 w3 (l0 y) (l1 y) (l2 y) (l3 y) e (decide (R / y % 2 = 1)) (l0 (R % y)) (l1 (R % y)) (l2 (R % y)) (l3 (R % y)) := by
  have eS := wide_Shl.eq hrT 64
  rw [hR, Nat.mod_eq_of_lt hb] at eS
  have eD := wide_DivMod.eq hb hyT (by omega)
  have ew : wrap64 (N - 64) = N - 64 := by unfold wrap64; omega
  simp only [whole_divide.l0]
  rw [if_pos (by omega), show Go.Proofs.YtfnkmedajchbgaaW.PrintWords.mn N 64 = 64 from if_pos hN, eS]
  simp only [Option.bind_some]
  rw [eD]
  simp only [Option.bind_some]
  rw [low_bit, ew]
theorem dl_step2 {y : Nat} (hy : 0 < y) (hyT : y < T256) (w0 w1 w2 w3 e : Int) (q : Nat) {N : Int} {r R : Nat} (od : Bool) (hN : 0 < N) (hN0 : N ≤ 64) (hrT : r < T256) (hR : r * 2 ^ N.toNat = R) (hb : R < T256) :
    whole_divide.l0 (q + 2) N w0 w1 w2 w3 (l0 y) (l1 y) (l2 y) (l3 y) e od (l0 r) (l1 r) (l2 r) (l3 r) =
    some (l0 (R % y), l1 (R % y), l2 (R % y), l3 (R % y), l0 y, l1 y, l2 y, l3 y, e, decide (R / y % 2 = 1)) := by
  have eS := wide_Shl.eq hrT N
  rw [hR, Nat.mod_eq_of_lt hb] at eS
  have eD := wide_DivMod.eq hb hyT (by omega)
  have ew : wrap64 (N - N) = 0 := by unfold wrap64; omega
  have hs := dl_stop q w0 w1 w2 w3 e (l0 y) (l1 y) (l2 y) (l3 y) (l0 (R % y)) (l1 (R % y)) (l2 (R % y)) (l3 (R % y)) (decide (R / y % 2 = 1))
  obtain ⟨k, hk⟩ : ∃ k, k = q + 1 := ⟨_, rfl⟩
  rw [← hk] at hs
  rw [show q + 2 = k + 1 by omega]
  simp only [whole_divide.l0]
  rw [if_pos (by omega), show Go.Proofs.YtfnkmedajchbgaaW.PrintWords.mn N 64 = N from if_neg (by omega), eS]
  simp only [Option.bind_some]
  rw [eD]
  simp only [Option.bind_some]
  rw [low_bit, ew, hs]
theorem divide_l0 {y : Nat} (hy : 0 < y) (hy2 : y < 2 ^ 53) (w0 w1 w2 w3 e : Int) : ∀ (j N : Nat) (r : Nat) (od : Bool) (k : Nat), N ≤ 1000000 → N ≤ 64 * j → r < y →
    whole_divide.l0 (k + j + 1) (N : Int) w0 w1 w2 w3 (l0 y) (l1 y) (l2 y) (l3 y) e od (l0 r) (l1 r) (l2 r) (l3 r) =
    some (l0 (r * 2 ^ N % y), l1 (r * 2 ^ N % y), l2 (r * 2 ^ N % y), l3 (r * 2 ^ N % y), l0 y, l1 y, l2 y, l3 y, e, if N = 0 then od else decide (r * 2 ^ N / y % 2 = 1))
  | j, 0, r, od, k, _, _, hr => by
    have h := dl_stop (k + j) w0 w1 w2 w3 e (l0 y) (l1 y) (l2 y) (l3 y) (l0 r) (l1 r) (l2 r) (l3 r) od
    rw [if_pos rfl, Nat.pow_zero, Nat.mul_one, Nat.mod_eq_of_lt hr]
    exact h
  | 0, N + 1, _, _, _, _, hN, _ => by omega
  | j + 1, N + 1, r, od, k, hN0, hN, hr => by
    have hyT := dl_T hy2
    have hrT : r < T256 := Nat.lt_trans hr hyT
    rw [if_neg (by omega)]
    by_cases c : 64 < N + 1
    · obtain ⟨M, hM⟩ : ∃ M, N + 1 = M + 1 + 64 := ⟨N - 64, by omega⟩
      obtain ⟨k64, hk⟩ : ∃ k64 : Nat, k64 = 64 := ⟨_, rfl⟩
      have hR : r * 2 ^ (64 : Int).toNat = r * 2 ^ k64 := by rw [show (64 : Int).toNat = k64 by rw [hk]; rfl]
      have hb := dl_big hy2 hr (show k64 ≤ 64 by omega)
      have h := divide_l0 hy hy2 w0 w1 w2 w3 e j (M + 1) (r * 2 ^ k64 % y) (decide (r * 2 ^ k64 / y % 2 = 1)) k (by omega) (by omega) (Nat.mod_lt _ hy)
      have hs := dl_step1 hy hyT w0 w1 w2 w3 e (k + j + 1) (N := ((N + 1 : Nat) : Int)) (r := r) od (by omega) (by omega) hrT hR hb
      rw [show ((N + 1 : Nat) : Int) - 64 = ((M + 1 : Nat) : Int) by omega, h, if_neg (by omega), step_mod, step_odd hy, Nat.mul_assoc, ← Nat.pow_add, show k64 + (M + 1) = N + 1 by omega] at hs
      exact hs
    · exact dl_step2 hy hyT w0 w1 w2 w3 e (k + j) (N := ((N + 1 : Nat) : Int)) od (by omega) (by omega) hrT rfl (dl_big hy2 hr (by omega))
def DivOut (a b : Int) (V : Nat) (odd : Bool) : Prop := V < T256 ∧ ((V < 2 * (wU a b % wV a b) ∨ V = 2 * (wU a b % wV a b) ∧ odd = true) ↔ wFlip a b = true) ∧ (wFlip a b = true → V = wV a b)
theorem divOut_self {a b : Int} (hT : wV a b < T256) : DivOut a b (wV a b) (decide (wU a b / wV a b % 2 = 1)) := by
  refine ⟨hT, ?_, fun _ => rfl⟩
  unfold wFlip
  simp only [Bool.or_eq_true, Bool.and_eq_true, decide_eq_true_eq]
theorem under_eq {a b : Int} (hb : 0 < pS b) (c : pX a < pX b) (c1 c2 : Int) : ∃ V odd, DivOut a b V odd ∧
    whole_under.f (pM a) c1 (pX a) (pS a) (pM b) c2 (pX b) (pS b) = some (l0 (wU a b % wV a b), l1 (wU a b % wV a b), l2 (wU a b % wV a b), l3 (wU a b % wV a b), l0 V, l1 V, l2 V, l3 V, wLow a b, odd) := by
  have ba := pX_bd a
  have bb := pX_bd b
  have sa := pS_53 a
  have sb := pS_53 b
  have hlow : wLow a b = pX a := by unfold wLow; rw [if_pos c]
  have eU : wU a b = (pS a).toNat := by
    unfold wU
    rw [hlow, show (pX a - pX a).toNat = 0 by omega, Nat.pow_zero, Nat.mul_one]
  have eV : wV a b = (pS b).toNat * 2 ^ (pX b - pX a).toNat := by unfold wV; rw [hlow]
  have ew : wrap64 (pX b - pX a) = pX b - pX a := by unfold wrap64; omega
  have hv := wV_pos (a := a) hb
  have oA := wide_Of.eq (pS a) (inU_of (U_pS a))
  have oB := wide_Of.eq (pS b) (inU_of (U_pS b))
  unfold whole_under.f
  rw [oA, Option.bind_some, ew, hlow]
  by_cases g : pX b - pX a > 100
  · have hbig : (pS a).toNat * 2 < wV a b := by
      rw [eV]
      have h1 : 2 ^ 54 ≤ 2 ^ (pX b - pX a).toNat := Nat.pow_le_pow_right (by omega) (by omega)
      have h2 : 2 ^ (pX b - pX a).toNat ≤ (pS b).toNat * 2 ^ (pX b - pX a).toNat := Nat.le_mul_of_pos_left _ (by omega)
      rw [show (2 : Nat) ^ 54 = 18014398509481984 from rfl] at h1
      rw [show (2 : Nat) ^ 53 = 9007199254740992 from rfl] at sa
      omega
    have hr : wU a b % wV a b = (pS a).toNat := by rw [eU]; exact Nat.mod_eq_of_lt (by omega)
    have hf : wFlip a b = false := by
      unfold wFlip
      rw [hr, decide_eq_false (by omega), decide_eq_false (show ¬ wV a b = 2 * (pS a).toNat by omega)]
      rfl
    obtain ⟨W, hW⟩ : ∃ W : Nat, Int.toNat 1 * 2 ^ (200 : Int).toNat = W := ⟨_, rfl⟩
    have hW2 : W = 2 ^ 200 := by rw [← hW, show Int.toNat 1 = 1 from rfl, Nat.one_mul]; rfl
    have hWT : W < T256 := by rw [hW2, T256_eq]; decide
    have oS := wide_Shl.eq (show Int.toNat 1 < T256 by decide) 200
    rw [hW, Nat.mod_eq_of_lt hWT] at oS
    have hW3 : (pS a).toNat * 2 < W := by
      have : (2 : Nat) ^ 54 ≤ 2 ^ 200 := Nat.pow_le_pow_right (by omega) (by omega)
      rw [← hW2, show (2 : Nat) ^ 54 = 18014398509481984 from rfl] at this
      rw [show (2 : Nat) ^ 53 = 9007199254740992 from rfl] at sa
      omega
    refine ⟨W, false, ⟨hWT, ?_, fun h => by rw [hf] at h; exact absurd h (by decide)⟩, ?_⟩
    · rw [hf, hr]
      constructor
      · rintro (h | ⟨h, _⟩) <;> omega
      · intro h; exact absurd h (by decide)
    · rw [if_pos g, wide_Of.eq 1 (by decide), Option.bind_some]
      dsimp only
      rw [oS, Option.bind_some, hr]
  · have hVT : wV a b < T256 := by
      rw [eV, T256_eq]
      have h1 : (pS b).toNat * 2 ^ (pX b - pX a).toNat < 2 ^ 53 * 2 ^ 100 := by
        refine Nat.lt_of_lt_of_le (Nat.mul_lt_mul_of_pos_right sb (Nat.two_pow_pos _)) (Nat.mul_le_mul_left _ (Nat.pow_le_pow_right (by omega) (by omega)))
      rw [← Nat.pow_add] at h1
      exact Nat.lt_trans h1 (by decide)
    have oS := wide_Shl.eq (pS_T b) (pX b - pX a)
    rw [← eV, Nat.mod_eq_of_lt hVT] at oS
    have oD := wide_DivMod.eq (pS_T a) hVT (by omega)
    refine ⟨wV a b, decide (wU a b / wV a b % 2 = 1), divOut_self hVT, ?_⟩
    rw [if_neg g, oB, Option.bind_some]
    dsimp only
    rw [oS, Option.bind_some]
    dsimp only
    rw [oD, Option.bind_some]
    dsimp only
    rw [low_bit, eU]
theorem divide_eq (k : Nat) {a b : Int} (hb : 0 < pS b) (c1 c2 : Int) : ∃ V odd, DivOut a b V odd ∧
    whole_divide.f (k + 34) (pM a) c1 (pX a) (pS a) (pM b) c2 (pX b) (pS b) = some (l0 (wU a b % wV a b), l1 (wU a b % wV a b), l2 (wU a b % wV a b), l3 (wU a b % wV a b), l0 V, l1 V, l2 V, l3 V, wLow a b, odd) := by
  have ba := pX_bd a
  have bb := pX_bd b
  have sa := pS_53 a
  have sb := pS_53 b
  unfold whole_divide.f
  by_cases c : pX a < pX b
  · obtain ⟨V, odd, h1, h2⟩ := under_eq (a := a) hb c c1 c2
    refine ⟨V, odd, h1, ?_⟩
    rw [if_pos c, h2]
    rfl
  · have hlow : wLow a b = pX b := by unfold wLow; rw [if_neg c]
    have eV : wV a b = (pS b).toNat := by
      unfold wV
      rw [hlow, show (pX b - pX b).toNat = 0 by omega, Nat.pow_zero, Nat.mul_one]
    obtain ⟨M, hM⟩ : ∃ M : Nat, pX a - pX b = M := ⟨(pX a - pX b).toNat, by omega⟩
    have eU : wU a b = (pS a).toNat * 2 ^ M := by unfold wU; rw [hlow, hM]; rfl
    have hVT : wV a b < T256 := by rw [eV]; exact pS_T b
    have hv := wV_pos (a := a) hb
    have ew : wrap64 (pX a - pX b) = (M : Int) := by unfold wrap64; omega
    have oA := wide_Of.eq (pS a) (inU_of (U_pS a))
    have oB := wide_Of.eq (pS b) (inU_of (U_pS b))
    have oD := wide_DivMod.eq (pS_T a) (pS_T b) (by omega)
    have hL := divide_l0 (y := (pS b).toNat) (by omega) sb 0 0 0 0 (pX b) 33 M ((pS a).toNat % (pS b).toNat) (decide ((pS a).toNat / (pS b).toNat % 2 = 1)) k (by omega) (by omega) (Nat.mod_lt _ (by omega))
    refine ⟨wV a b, decide (wU a b / wV a b % 2 = 1), divOut_self hVT, ?_⟩
    rw [if_neg c, oB, Option.bind_some, oA, Option.bind_some]
    dsimp only
    rw [oD, Option.bind_some]
    dsimp only
    rw [low_bit, ew, show k + 34 = k + 33 + 1 by omega, hL, step_mod, eU, eV, hlow]
    have ho : (if M = 0 then decide ((pS a).toNat / (pS b).toNat % 2 = 1) else decide ((pS a).toNat % (pS b).toNat * 2 ^ M / (pS b).toNat % 2 = 1)) = decide ((pS a).toNat * 2 ^ M / (pS b).toNat % 2 = 1) := by
      cases M with
      | zero => rw [if_pos rfl, Nat.pow_zero, Nat.mul_one]
      | succ M => rw [if_neg (by omega), step_odd (by omega)]
    rw [ho]
theorem rests_other (k : Nat) {a b : Int} (ha : U a) (hb : U b) (h : 3 < pC a ∨ 3 < pC b ∨ pC a = 3 ∨ pC b = 0 ∨ pC b = 3 ∨ pC a = 0) (main : Int × Int) :
    whole_rests.f (k + 36) a b = some (0, 0, 0, 0, 0, 0, 0, 0, 0, false, false, (qRests a b main).1, (qRests a b main).2) := by
  unfold whole_rests.f
  rw [pat_Take.eq a (inU_of ha), Option.bind_some, pat_Take.eq b (inU_of hb), Option.bind_some, pat_IsNaN.eq a (inU_of ha), Option.bind_some]
  dsimp only
  have nanj : 3 < pC a ∨ 3 < pC b → whole_rests.j0 (k + 36) a b true (pM a) (pC a) (pX a) (pS a) (pM b) (pC b) (pX b) (pS b) = some (0, 0, 0, 0, 0, 0, 0, 0, 0, false, false, (qRests a b main).1, (qRests a b main).2) := fun g => by
    simp only [whole_rests.j0]
    rw [if_pos trivial, whole_none_eq ha hb, Option.bind_some]
    unfold qRests
    rw [if_pos g]
  by_cases n1 : 3 < pC a
  · rw [decide_eq_true n1, if_pos rfl]
    exact nanj (.inl n1)
  · rw [decide_eq_false n1, if_neg (by decide), pat_IsNaN.eq b (inU_of hb), Option.bind_some]
    by_cases n2 : 3 < pC b
    · rw [decide_eq_true n2]
      exact nanj (.inr n2)
    · rw [decide_eq_false n2]
      unfold qRests
      rw [if_neg (fun g => g.elim n1 n2)]
      simp only [whole_rests.j0]
      rw [if_neg (by decide)]
      by_cases n3 : pC a = 3 ∨ pC b = 0
      · rw [if_pos n3]
        have t : whole_rests.j1 (k + 35) a true (pM a) (pC a) (pX a) (pS a) (pM b) (pC b) (pX b) (pS b) = some (0, 0, 0, 0, 0, 0, 0, 0, 0, false, false, 9221120237041090560, 1) := by
          simp only [whole_rests.j1]
          rw [if_pos trivial]
        by_cases n4 : pC a = 3
        · rw [if_pos n4]; exact t
        · rw [if_neg n4, beq_iff_eq.mpr (by omega : pC b = 0)]; exact t
      · rw [if_neg n3, if_neg (by omega), beq_eq_false_iff_ne.mpr (by omega : pC b ≠ 0)]
        simp only [whole_rests.j1]
        rw [if_neg (by decide)]
        by_cases n5 : pC b = 3
        · rw [if_pos n5, if_pos (.inl n5)]
        · rw [if_neg n5, if_pos (by omega), if_pos (by omega)]
theorem rests_main (k : Nat) {a b : Int} (ha : U a) (hb : U b) (h1 : pC a < 3) (h2 : pC b < 3) (h3 : pC a ≠ 0) (h4 : pC b ≠ 0) : ∃ V odd, DivOut a b V odd ∧
    whole_rests.f (k + 36) a b = some (l0 (wU a b % wV a b), l1 (wU a b % wV a b), l2 (wU a b % wV a b), l3 (wU a b % wV a b), l0 V, l1 V, l2 V, l3 V, wLow a b, odd, true, 0, 0) := by
  have hs := pS_pos b h4 (by omega)
  obtain ⟨V, odd, d1, d2⟩ := divide_eq k (a := a) hs (pC a) (pC b)
  refine ⟨V, odd, d1, ?_⟩
  unfold whole_rests.f
  rw [pat_Take.eq a (inU_of ha), Option.bind_some, pat_Take.eq b (inU_of hb), Option.bind_some, pat_IsNaN.eq a (inU_of ha), Option.bind_some]
  dsimp only
  rw [decide_eq_false (by omega), if_neg (by decide), pat_IsNaN.eq b (inU_of hb), Option.bind_some, decide_eq_false (by omega)]
  simp only [whole_rests.j0]
  rw [if_neg (by decide), if_neg (by omega), beq_eq_false_iff_ne.mpr h4]
  simp only [whole_rests.j1]
  rw [if_neg (by decide), if_neg (by omega), if_neg h3, d2]
  rfl
theorem mod_spec (k : Nat) {a b : Int} (ha : U a) (hb : U b) : whole_Mod.f (k + 36) a b = some (qRests a b (wMod a b)) := by
  have eM := band_M a ha
  unfold whole_Mod.f
  by_cases h : 3 < pC a ∨ 3 < pC b ∨ pC a = 3 ∨ pC b = 0 ∨ pC b = 3 ∨ pC a = 0
  · rw [rests_other k ha hb h (wMod a b), Option.bind_some]
    dsimp only
    rw [if_neg (by decide)]
  · have ca := pC_bd a
    have cb := pC_bd b
    obtain ⟨V, odd, d1, d2⟩ := rests_main k ha hb (by omega) (by omega) (by omega) (by omega)
    have hs := pS_pos b (by omega) (by omega)
    obtain ⟨l1', l2', _, _⟩ := wLow_bd a b
    have hr := (w_fit (a := a) hs).1
    rw [d2, Option.bind_some]
    dsimp only
    unfold whole_rest_made.f
    rw [if_pos rfl, eM, rnd_eq (pM a) 0 (Nat.lt_trans hr (by decide)) (by omega) (by omega)]
    unfold qRests
    rw [if_neg (by omega), if_neg (by omega), if_neg (by omega)]
    rfl
theorem cmp_gt {x y : Nat} : cmpI x y > 0 ↔ y < x := by unfold cmpI; split <;> (try split) <;> omega
theorem cmp_eq0 {x y : Nat} : cmpI x y = 0 ↔ x = y := by unfold cmpI; split <;> (try split) <;> omega
theorem rem_spec (k : Nat) {a b : Int} (ha : U a) (hb : U b) : whole_Rem.f (k + 36) a b = some (qRests a b (wRem a b)) := by
  have eM := band_M a ha
  unfold whole_Rem.f
  by_cases h : 3 < pC a ∨ 3 < pC b ∨ pC a = 3 ∨ pC b = 0 ∨ pC b = 3 ∨ pC a = 0
  · rw [rests_other k ha hb h (wRem a b), Option.bind_some]
    dsimp only
    rw [if_neg (by decide)]
  · have ca := pC_bd a
    have cb := pC_bd b
    obtain ⟨V, odd, ⟨hVT, hiff, hVf⟩, d2⟩ := rests_main k ha hb (by omega) (by omega) (by omega) (by omega)
    have hs := pS_pos b (by omega) (by omega)
    obtain ⟨l1', l2', _, _⟩ := wLow_bd a b
    obtain ⟨hr, hfit⟩ := w_fit (a := a) hs
    have hv := wV_pos (a := a) hs
    have hml := Nat.mod_lt (wU a b) hv
    have hrT : wU a b % wV a b < T256 := by rw [T256_eq]; exact Nat.lt_trans hr (by decide)
    have oS := wide_Shl.eq hrT 1
    have e2 : (wU a b % wV a b) * 2 ^ (1 : Int).toNat % T256 = 2 * (wU a b % wV a b) := by
      rw [show (1 : Int).toNat = 1 from rfl, Nat.pow_one, Nat.mul_comm]
      refine Nat.mod_eq_of_lt ?_
      rw [T256_eq]
      have : (2 : Nat) ^ 53 * 2 ≤ 2 ^ 256 := by decide
      omega
    have h2T : 2 * (wU a b % wV a b) < T256 := by rw [← e2]; exact Nat.mod_lt _ (by decide)
    rw [e2] at oS
    have oC := wide_Cmp.eq h2T hVT
    have e : qRests a b (wRem a b) = wRem a b := by
      unfold qRests
      rw [if_neg (by omega), if_neg (by omega), if_neg (by omega)]
    rw [d2, Option.bind_some, e]
    dsimp only
    rw [if_pos rfl, oS, Option.bind_some]
    dsimp only
    rw [oC, Option.bind_some, eM]
    have yes : wFlip a b = true → whole_Rem.j0 (k + 36) (pM a) true (l0 (wU a b % wV a b)) (l1 (wU a b % wV a b)) (l2 (wU a b % wV a b)) (l3 (wU a b % wV a b)) (l0 V) (l1 V) (l2 V) (l3 V) (wLow a b) odd = some (wRem a b) := fun hf => by
      have hV := hVf hf
      have hge : wV a b ≤ 2 * (wU a b % wV a b) := by have := hiff.2 hf; omega
      have hd := hfit hge
      have oB := wide_Sub.eq hVT hrT
      have es : (V + T256 - wU a b % wV a b) % T256 = wV a b - wU a b % wV a b := by
        rw [hV, show wV a b + T256 - wU a b % wV a b = wV a b - wU a b % wV a b + T256 by omega, Nat.add_mod_right]
        exact Nat.mod_eq_of_lt (by rw [T256_eq]; exact Nat.lt_trans hd (by decide))
      rw [es] at oB
      simp only [whole_Rem.j0]
      rw [if_pos trivial, oB, Option.bind_some]
      dsimp only
      unfold whole_rest_made.f
      rw [rnd_eq (!pM a) 0 (Nat.lt_trans hd (by decide)) (by omega) (by omega)]
      unfold wRem
      rw [if_pos hf]
      rfl
    have no : wFlip a b = false → whole_Rem.j0 (k + 36) (pM a) false (l0 (wU a b % wV a b)) (l1 (wU a b % wV a b)) (l2 (wU a b % wV a b)) (l3 (wU a b % wV a b)) (l0 V) (l1 V) (l2 V) (l3 V) (wLow a b) odd = some (wRem a b) := fun hf => by
      simp only [whole_Rem.j0]
      rw [if_neg (by decide)]
      unfold whole_rest_made.f
      rw [rnd_eq (pM a) 0 (Nat.lt_trans hr (by decide)) (by omega) (by omega)]
      unfold wRem
      rw [hf, if_neg (by decide)]
      rfl
    by_cases g : cmpI (2 * (wU a b % wV a b)) V > 0
    · rw [if_pos g]
      exact yes (hiff.1 (.inl (cmp_gt.1 g)))
    · rw [if_neg g]
      have g2 := mt cmp_gt.2 g
      by_cases z : cmpI (2 * (wU a b % wV a b)) V = 0
      · rw [if_pos z]
        have z2 := cmp_eq0.1 z
        cases odd
        · refine no ?_
          cases hf : wFlip a b
          · rfl
          · rcases hiff.2 hf with h | ⟨_, h⟩
            · omega
            · exact absurd h (by decide)
        · exact yes (hiff.1 (.inr ⟨z2.symm, rfl⟩))
      · rw [if_neg z]
        refine no ?_
        cases hf : wFlip a b
        · rfl
        · have := hiff.2 hf
          have z3 := mt cmp_eq0.2 z
          omega
end Go.Proofs.Ytfnkmedajchbgaa
end
section
namespace Go.Proofs.Ytfnkmedajchbgaa
open Go.RowKit X Go.Proofs.YtfnkmedajchbgaaW.PrintWords
theorem sure8 (k : Nat) : tillerlaw08_sure.f (k + 12) = some true := by
  have h : tillerlaw08_sure.f 12 = some true := by decide +kernel
  exact at_rounds (fun k => tillerlaw08_sure.mono k) (by omega) h
end Go.Proofs.Ytfnkmedajchbgaa
end
