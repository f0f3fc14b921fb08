import Derived.Test.YtbgefpeicmbgiaaKJ4
import Derived.Test.YtbgefpeicmbgiaaKJXprodexact
import Derived.Test.YtbgefpeicmbgiaaKJXsumsExact
namespace Go.Proofs.Ytbgefpeicmbgiaa.X
open Go.RowKit Go.Proofs.YtbgefpeicmbgiaaW.PrintWords Go.Proofs.YtbgefpeicmbgiaaW.PrintLast Go.Proofs.YtbgefpeicmbgiaaW.PrintMore
attribute [local go_sem] max2_int min2_int max_two min_two max_three min_three max_four min_four   
set_option linter.unusedVariables false
set_option linter.unusedSimpArgs false
mutual
def prod_Fma.j0 : Nat → Int → Int → Int → Int → Bool → Option (Int × Int)
 | 0, _, _, _, _, _ => none
 | k + 1, x0, x1, x2, x3, x22 => if x22 = true then ((prod_loud.f k (([x0, x1, x2] : List Int))).bind fun q02 => (some (9221120237041090560, q02))) else ((pat_Finite.f x0).bind fun q05 => (if q05 = true then ((pat_Finite.f x1).bind fun q01 => (prod_Fma.j1 k x0 x1 x2 x3 (!q01))) else (prod_Fma.j1 k x0 x1 x2 x3 true)))
def prod_Fma.j1 : Nat → Int → Int → Int → Int → Bool → Option (Int × Int)
 | 0, _, _, _, _, _ => none
 | k + 1, x0, x1, x2, x3, x38 => if x38 = true then (none) else ((pat_Finite.f x2).bind fun q06 => (if q06 = true then ((rnd_Of.f x2).bind fun qe => (if qe.2.2.2.2.2.2.2.isNone = true then ((prod_exact.f x0 x1).bind fun q7 => ((sums_Exact.f k q7.1 q7.2.1 q7.2.2.1 q7.2.2.2.1 q7.2.2.2.2.1 q7.2.2.2.2.2.1 q7.2.2.2.2.2.2 qe.1 qe.2.1 qe.2.2.1 qe.2.2.2.1 qe.2.2.2.2.1 qe.2.2.2.2.2.1 qe.2.2.2.2.2.2.1 x3).bind fun q4 => (if q4.2.2.2.2.2.2.2.isNone = true then ((rnd_Round.f q4.1 q4.2.1 q4.2.2.1 q4.2.2.2.1 q4.2.2.2.2.1 q4.2.2.2.2.2.1 q4.2.2.2.2.2.2.1 x3).bind fun qg => (some (qg.1, qg.2))) else (some (9221120237041090560, 1))))) else (some (9221120237041090560, 1)))) else (some (x2, 0))))
end
def prod_Fma.f (k : Nat) (a0 : Int) (a1 : Int) (a2 : Int) (a3 : Int) : Option (Int × Int) := (prod_sign.f a0 a1).bind fun q08 => ((prod_nothing.f a0 a1).bind fun q03 => (if q03 = true then (some (9221120237041090560, 1)) else ((pat_IsNaN.f a0).bind fun qz => (if qz = true then (prod_Fma.j0 k a0 a1 a2 a3 true) else ((pat_IsNaN.f a1).bind fun qw => (if qw = true then (prod_Fma.j0 k a0 a1 a2 a3 true) else ((pat_IsNaN.f a2).bind fun qj => (prod_Fma.j0 k a0 a1 a2 a3 qj))))))))
theorem prod_Fma.mono_l : ∀ k, (∀ y0 y1 y2 y3 y4, LeO (prod_Fma.j0 k y0 y1 y2 y3 y4) (prod_Fma.j0 (k + 1) y0 y1 y2 y3 y4)) ∧ (∀ y0 y1 y2 y3 y4, LeO (prod_Fma.j1 k y0 y1 y2 y3 y4) (prod_Fma.j1 (k + 1) y0 y1 y2 y3 y4))
 | 0 => ⟨fun _ _ _ _ _ r h => by simp [prod_Fma.j0] at h, fun _ _ _ _ _ r h => by simp [prod_Fma.j1] at h⟩
 | k + 1 => by
  obtain ⟨ih0, ih1⟩ := prod_Fma.mono_l k; refine ⟨?_, ?_⟩
  · intro y0 y1 y2 y3 y4
    unfold prod_Fma.j0
    repeat' first
    | (with_reducible exact ih0 _ _ _ _ _)
    | (with_reducible exact ih1 _ _ _ _ _)
    | (with_reducible exact prod_loud.mono _ _)
    | (with_reducible exact sums_Exact.mono _ _ _ _ _ _ _ _ _ _ _ _ _ _ _ _)
    | (with_reducible exact LeO.refl _)
    | (with_reducible exact LeO.none _)
    | (with_reducible refine LeO.ite ?_ ?_)
    | (with_reducible refine LeO.bind ?_ (fun _ => ?_))
    | exact ih0 _ _ _ _ _
    | exact ih1 _ _ _ _ _
    | exact prod_loud.mono _ _
    | exact sums_Exact.mono _ _ _ _ _ _ _ _ _ _ _ _ _ _ _ _
    | exact LeO.none _
    | refine LeO.ite ?_ ?_
    | refine LeO.bind ?_ (fun _ => ?_)
  intro y0 y1 y2 y3 y4
  unfold prod_Fma.j1
  repeat' first
  | (with_reducible exact ih0 _ _ _ _ _)
  | (with_reducible exact ih1 _ _ _ _ _)
  | (with_reducible exact prod_loud.mono _ _)
  | (with_reducible exact sums_Exact.mono _ _ _ _ _ _ _ _ _ _ _ _ _ _ _ _)
  | (with_reducible exact LeO.refl _)
  | (with_reducible exact LeO.none _)
  | (with_reducible refine LeO.ite ?_ ?_)
  | (with_reducible refine LeO.bind ?_ (fun _ => ?_))
  | exact ih0 _ _ _ _ _
  | exact ih1 _ _ _ _ _
  | exact prod_loud.mono _ _
  | exact sums_Exact.mono _ _ _ _ _ _ _ _ _ _ _ _ _ _ _ _
  | exact LeO.none _
  | refine LeO.ite ?_ ?_
  | refine LeO.bind ?_ (fun _ => ?_)
theorem prod_Fma.mono : ∀ a0 a1 a2 a3 k, LeO (prod_Fma.f k a0 a1 a2 a3) (prod_Fma.f (k + 1) a0 a1 a2 a3) := by
 intro a0 a1 a2 a3 k; obtain ⟨ih0, ih1⟩ := prod_Fma.mono_l k
 unfold prod_Fma.f
 repeat' first
  | (with_reducible exact ih0 _ _ _ _ _)
  | (with_reducible exact ih1 _ _ _ _ _)
  | (with_reducible exact prod_loud.mono _ _)
  | (with_reducible exact sums_Exact.mono _ _ _ _ _ _ _ _ _ _ _ _ _ _ _ _)
  | (with_reducible exact LeO.refl _)
  | (with_reducible exact LeO.none _)
  | (with_reducible refine LeO.ite ?_ ?_)
  | (with_reducible refine LeO.bind ?_ (fun _ => ?_))
  | exact ih0 _ _ _ _ _
  | exact ih1 _ _ _ _ _
  | exact prod_loud.mono _ _
  | exact sums_Exact.mono _ _ _ _ _ _ _ _ _ _ _ _ _ _ _ _
  | exact LeO.none _
  | refine LeO.ite ?_ ?_
  | refine LeO.bind ?_ (fun _ => ?_)
def prod_Fma.T13 : Bool × List (List Nat × List Nat) := (true, [([], []), ([], []), ([0, 1], [0, 1]), ([], []), ([], []), ([2, 3, 4, 2], [2, 3, 4]), ([5], [5]), ([6], [6]), ([6], [6]), ([], []), ([9, 7, 5, 0, 1, 2, 3, 4, 5, 6, 7, 9], [7, 9]), ([8, 10, 0, 1, 2, 3, 4, 5, 6, 7, 8, 9, 10], [8])])
def prod_Fma.B13 : List Nat := [0, 0, 3, 0, 0, 31, 63, 127, 127, 0, 767, 2047]
theorem prod_Fma.tab13 : rtab .any (opsOf Try.f23 13) = prod_Fma.T13 := by kernel_rfl
theorem prod_Fma.bits13 : waitsOk prod_Fma.T13.2 prod_Fma.B13 = true := by kernel_rfl
set_option maxHeartbeats 8000000 in
set_option maxRecDepth 100000 in
theorem prod_Fma.calls (k : Nat) (a0 : Int) (a1 : Int) (a2 : Int) (a3 : Int) (r1 : Int) (r2 : Int) (w : World) (h : prod_Fma.f k a0 a1 a2 a3 = some (r1, r2)) :
 Calls Try.prog 23 #[.int .u64 a0, .int .u64 a1, .int .u64 a2, .int .i64 a3] w fun e w' => e = .returned (.tuple #[.int .u64 r1, .int .u8 r2]) ∧ Below w.heap.size w w' := by
 have hu61 := Try.underlying61; have hu80 := Try.underlying80; have herN := errW_none; have herS := errW_some; have hu119 := Try.underlying119; have HB := Aside0.mk (Below.refl w.heap.size w); have H : ((prod_sign.f a0 a1).bind fun q08 => ((prod_nothing.f a0 a1).bind fun q03 => (if q03 = true then (some (9221120237041090560, 1)) else ((pat_IsNaN.f a0).bind fun qz => (if qz = true then (prod_Fma.j0 k a0 a1 a2 a3 true) else ((pat_IsNaN.f a1).bind fun qw => (if qw = true then (prod_Fma.j0 k a0 a1 a2 a3 true) else ((pat_IsNaN.f a2).bind fun qj => (prod_Fma.j0 k a0 a1 a2 a3 qj))))))))) = some (r1, r2) := h; clear h; replace H := Option.bind_eq_some_iff.mp H; obtain ⟨q08, A50, H⟩ := H; replace H : ((prod_nothing.f a0 a1).bind fun q03 => (if q03 = true then (some (9221120237041090560, 1)) else ((pat_IsNaN.f a0).bind fun qz => (if qz = true then (prod_Fma.j0 k a0 a1 a2 a3 true) else ((pat_IsNaN.f a1).bind fun qw => (if qw = true then (prod_Fma.j0 k a0 a1 a2 a3 true) else ((pat_IsNaN.f a2).bind fun qj => (prod_Fma.j0 k a0 a1 a2 a3 qj)))))))) = some (r1, r2) := H; have A5 := Aside0.mk A50; clear A50; replace H := Option.bind_eq_some_iff.mp H; obtain ⟨q03, A60, H⟩ := H; replace H : (if q03 = true then (some (9221120237041090560, 1)) else ((pat_IsNaN.f a0).bind fun qz => (if qz = true then (prod_Fma.j0 k a0 a1 a2 a3 true) else ((pat_IsNaN.f a1).bind fun qw => (if qw = true then (prod_Fma.j0 k a0 a1 a2 a3 true) else ((pat_IsNaN.f a2).bind fun qj => (prod_Fma.j0 k a0 a1 a2 a3 qj))))))) = some (r1, r2) := H; have A6 := Aside0.mk A60; clear A60
 by_cases c7 : q03 = true
 · subst c7
   have H1 : (some (9221120237041090560, 1)) = some (r1, r2) := by rw [if_pos rfl] at H; exact H
   clear H; have H := H1; clear H1
   simp only [Option.some.injEq, Prod.mk.injEq] at H
   obtain ⟨rfl, rfl⟩ := H
   go_enter Try.func23, Try.ntmps23
   go_wp2_with (first | ((with_reducible refine gate_callee (f := 43) rfl ?_); refine goesL_ (some 16) rfl rfl Try.func43 (by kernel_rfl) rfl #[.int .u64 a0, .int .u64 a1] rfl LMq ?_; (with_reducible refine (prod_sign.calls a0 a1 q08 _ A5.out).mono ?_); rintro e w' ⟨rfl, ⟨nd, rfl⟩⟩; refine ⟨_, rfl, ?_⟩) | ((with_reducible refine gate_callee (f := 44) rfl ?_); refine goesL_ (some 21) rfl rfl Try.func44 (by kernel_rfl) rfl #[.int .u64 a0, .int .u64 a1] rfl LMq ?_; (with_reducible refine (prod_nothing.calls a0 a1 true _ A6.out).mono ?_); rintro e w8 ⟨rfl, hb⟩; refine ⟨_, rfl, ?_⟩; replace HB := Aside0.mk (below_step (kH HB) hb); (try clear hb); (try clear hb2); (try clear hk); (try clear hi)))
   go_ret2
   exact ⟨by first | rfl | (simp [errW_none, errW_some] <;> rfl) | (simp [*, errW_none, errW_some] <;> rfl), kH HB⟩
 replace c7 := Bool.eq_false_iff.mpr c7; subst c7
 have H1 : ((pat_IsNaN.f a0).bind fun qz => (if qz = true then (prod_Fma.j0 k a0 a1 a2 a3 true) else ((pat_IsNaN.f a1).bind fun qw => (if qw = true then (prod_Fma.j0 k a0 a1 a2 a3 true) else ((pat_IsNaN.f a2).bind fun qj => (prod_Fma.j0 k a0 a1 a2 a3 qj)))))) = some (r1, r2) := by rw [if_neg (show ¬ (false = true) by decide)] at H; exact H
 clear H; have H := H1; clear H1; have HC9 := Aside0.mk H; clear H
 go_enter Try.func23, Try.ntmps23
 go_upto_region 4 with (first | ((with_reducible refine gate_callee (f := 43) rfl ?_); refine goesL_ (some 16) rfl rfl Try.func43 (by kernel_rfl) rfl #[.int .u64 a0, .int .u64 a1] rfl LMq ?_; (with_reducible refine (prod_sign.calls a0 a1 q08 _ A5.out).mono ?_); rintro e w' ⟨rfl, ⟨nd, rfl⟩⟩; refine ⟨_, rfl, ?_⟩) | ((with_reducible refine gate_callee (f := 44) rfl ?_); refine goesL_ (some 21) rfl rfl Try.func44 (by kernel_rfl) rfl #[.int .u64 a0, .int .u64 a1] rfl LMq ?_; (with_reducible refine (prod_nothing.calls a0 a1 false _ A6.out).mono ?_); rintro e w10 ⟨rfl, hb⟩; refine ⟨_, rfl, ?_⟩; replace HB := Aside0.mk (below_step (kH HB) hb); (try clear hb); (try clear hb2); (try clear hk); (try clear hi)))
 (try simp only [Act.put, List.setIfInBounds_toArray, List.set_cons_zero, List.set_cons_succ])
 go_cut [22] (fun v22 wc => ∃ (kq : Nat) (q09 : Bool), v22 = .bool q09 ∧ Aside0 (prod_Fma.j0 kq a0 a1 a2 a3 q09 = some (r1, r2)) ∧ Aside0 (kq ≤ k) ∧ Aside0 (Below w.heap.size w wc))
 case first =>
  have H := HC9.out; clear HC9; replace H := Option.bind_eq_some_iff.mp H; obtain ⟨qz, q0c, H⟩ := H; replace H : (if qz = true then (prod_Fma.j0 k a0 a1 a2 a3 true) else ((pat_IsNaN.f a1).bind fun qw => (if qw = true then (prod_Fma.j0 k a0 a1 a2 a3 true) else ((pat_IsNaN.f a2).bind fun qj => (prod_Fma.j0 k a0 a1 a2 a3 qj))))) = some (r1, r2) := H; have A11 := Aside0.mk q0c; clear q0c
  by_cases c12 : qz = true
  · subst c12
    have H1 : (prod_Fma.j0 k a0 a1 a2 a3 true) = some (r1, r2) := by rw [if_pos rfl] at H; exact H
    clear H; have H := H1; clear H1; have H' := Aside0.mk H; clear H
    go_wp2_with (first | ((with_reducible refine gate_callee (f := 45) rfl ?_); refine goesL_ (some 24) rfl rfl Try.func45 (by kernel_rfl) rfl #[.int .u64 a0] rfl LMq ?_; (with_reducible refine (pat_IsNaN.calls a0 true _ A11.out).mono ?_); rintro e w13 ⟨rfl, hb⟩; refine ⟨_, rfl, ?_⟩; replace HB := Aside0.mk (below_step (kH HB) hb); (try clear hb); (try clear hb2); (try clear hk); (try clear hi)))
    go_meet
    case rel => exact ⟨_, (true), RSq, (by first | exact H' | (subst_vars; exact H')), ⟨by first | omega | exact Nat.le_refl _⟩, ⟨kH HB⟩⟩
  replace c12 := Bool.eq_false_iff.mpr c12; subst c12
  have H1 : ((pat_IsNaN.f a1).bind fun qw => (if qw = true then (prod_Fma.j0 k a0 a1 a2 a3 true) else ((pat_IsNaN.f a2).bind fun qj => (prod_Fma.j0 k a0 a1 a2 a3 qj)))) = some (r1, r2) := by rw [if_neg (show ¬ (false = true) by decide)] at H; exact H
  clear H; have H := H1; clear H1; replace H := Option.bind_eq_some_iff.mp H; obtain ⟨qw, q0d, H⟩ := H; replace H : (if qw = true then (prod_Fma.j0 k a0 a1 a2 a3 true) else ((pat_IsNaN.f a2).bind fun qj => (prod_Fma.j0 k a0 a1 a2 a3 qj))) = some (r1, r2) := H; have A14 := Aside0.mk q0d; clear q0d
  by_cases c15 : qw = true
  · subst c15
    have H1 : (prod_Fma.j0 k a0 a1 a2 a3 true) = some (r1, r2) := by rw [if_pos rfl] at H; exact H
    clear H; have H := H1; clear H1; have H' := Aside0.mk H; clear H
    go_wp2_with (first | ((with_reducible refine gate_callee (f := 45) rfl ?_); refine goesL_ (some 24) rfl rfl Try.func45 (by kernel_rfl) rfl #[.int .u64 a0] rfl LMq ?_; (with_reducible refine (pat_IsNaN.calls a0 false _ A11.out).mono ?_); rintro e w16 ⟨rfl, hb⟩; refine ⟨_, rfl, ?_⟩; replace HB := Aside0.mk (below_step (kH HB) hb); (try clear hb); (try clear hb2); (try clear hk); (try clear hi)) | (go_at_call 45; (with_reducible refine (pat_IsNaN.calls a1 true _ A14.out).mono ?_); rintro e w17 ⟨rfl, hb⟩; replace HB := Aside0.mk (below_step (kH HB) hb); (try clear hb); (try clear hb2); (try clear hk); (try clear hi)))
    go_meet
    case rel => exact ⟨_, (true), RSq, (by first | exact H' | (subst_vars; exact H')), ⟨by first | omega | exact Nat.le_refl _⟩, ⟨kH HB⟩⟩
  replace c15 := Bool.eq_false_iff.mpr c15; subst c15
  have H1 : ((pat_IsNaN.f a2).bind fun qj => (prod_Fma.j0 k a0 a1 a2 a3 qj)) = some (r1, r2) := by rw [if_neg (show ¬ (false = true) by decide)] at H; exact H
  clear H; have H := H1; clear H1; replace H := Option.bind_eq_some_iff.mp H; obtain ⟨qj, q0e, H⟩ := H; replace H : (prod_Fma.j0 k a0 a1 a2 a3 qj) = some (r1, r2) := H; have A18 := Aside0.mk q0e; clear q0e; have H' := Aside0.mk H; clear H
  go_wp2_with (first | ((with_reducible refine gate_callee (f := 45) rfl ?_); refine goesL_ (some 24) rfl rfl Try.func45 (by kernel_rfl) rfl #[.int .u64 a0] rfl LMq ?_; (with_reducible refine (pat_IsNaN.calls a0 false _ A11.out).mono ?_); rintro e w19 ⟨rfl, hb⟩; refine ⟨_, rfl, ?_⟩; replace HB := Aside0.mk (below_step (kH HB) hb); (try clear hb); (try clear hb2); (try clear hk); (try clear hi)) | (go_at_call 45; (with_reducible refine (pat_IsNaN.calls a1 false _ A14.out).mono ?_); rintro e w20 ⟨rfl, hb⟩; replace HB := Aside0.mk (below_step (kH HB) hb); (try clear hb); (try clear hb2); (try clear hk); (try clear hi)) | (go_at_call 45; (with_reducible refine (pat_IsNaN.calls a2 qj _ A18.out).mono ?_); rintro e w21 ⟨rfl, hb⟩; replace HB := Aside0.mk (below_step (kH HB) hb); (try clear hb); (try clear hb2); (try clear hk); (try clear hi)))
  go_meet
  case rel => exact ⟨_, (qj), RSq, (by first | exact H' | (subst_vars; exact H')), ⟨by first | omega | exact Nat.le_refl _⟩, ⟨kH HB⟩⟩
 case rest =>
  clear HC9; (try clear c1); (try clear c2); (try clear p2); (try clear c4); (try clear p6); (try clear c7); (try clear c12); (try clear c15); obtain ⟨kq, q09, rfl, HA, HJ8, HB⟩ := hcut
  cases kq with
  | zero => exact absurd HA.out (by simp [prod_Fma.j0])
  | succ kj8 =>
   have H := HA.out; clear HA
   simp only [prod_Fma.j0] at H
   by_cases c22 : q09 = true
   · subst c22
     have H1 : ((prod_loud.f kj8 (([a0, a1, a2] : List Int))).bind fun q02 => (some (9221120237041090560, q02))) = some (r1, r2) := by rw [if_pos rfl] at H; exact H
     clear H; have H := H1; clear H1; obtain ⟨y283, hy283⟩ : ∃ y_ : List Int, y_ = (([a0, a1, a2] : List Int)) := ⟨_, rfl⟩
     replace H : ((prod_loud.f kj8 y283).bind fun q02 => (some (9221120237041090560, q02))) = some (r1, r2) := by first | (rw [hy283]; with_reducible exact H) | (have H2_ := (Option.bind_some _ _).symm.trans H; rw [hy283]; with_reducible exact H2_) | (have H2_ := (Option.bind_some _ _).symm.trans H; with_reducible exact H2_) | with_reducible exact H | (rw [hy283]; exact H) | exact H
     have Ny283 := Aside0.mk hy283; clear hy283; replace H := Option.bind_eq_some_iff.mp H; obtain ⟨q02, q0f, H⟩ := H; replace H : (some (9221120237041090560, q02)) = some (r1, r2) := H; have A23 := Aside0.mk q0f; clear q0f
     simp only [Option.some.injEq, Prod.mk.injEq] at H
     obtain ⟨rfl, rfl⟩ := H
     go_wp2_with (first | ((with_reducible refine gate_dst (N := 36) rfl ?_); refine Kd.R_lit (Kd.int .u64) _ 22 ?hg (N := 36) ?hd (xs := ([a0, a1, a2] : List Int)) (inner := [.int .u64 a0, .int .u64 a1, .int .u64 a2]) (ok := fun _ => True) (okp := fun _ => True) ?hr ?hp (fun _ hk => hk) trivial (Below.refl _ _) (Nat.le_refl _) (by simp) ?_; (case hd => rfl); (case hg => rfl); (case hr => first | (go_simp; done) | (go_simp; rfl)); (case hp => exact (Reps.one (show Kd.M (Kd.int .u64) _ _ _ a0 [.int .u64 a0] from rfl) (Reps.one (show Kd.M (Kd.int .u64) _ _ _ a1 [.int .u64 a1] from rfl) (Reps.one (show Kd.M (Kd.int .u64) _ _ _ a2 [.int .u64 a2] from rfl) (Reps.none _ _))))); intro v284 w24 ho25 hb hg_ hnew_; clear hg_ hnew_; (first | rw [← Ny283.out] at ho25 | (simp only [Int.reduceToNat] at ho25; rw [← Ny283.out] at ho25)); have q07 := Aside0.mk (Kd.R_lower ho25 (below_size (kH HB))); replace HB := Aside0.mk (below_step (kH HB) hb); clear hb ho25; obtain ⟨q0s, q0t, eo26⟩ := Kd.R_slice q07.out; subst eo26) | ((with_reducible refine gate_callee (f := 46) rfl ?_); refine goesL_ (some 37) rfl rfl Try.func46 (by kernel_rfl) rfl #[.slice q0s y283.length q0t] rfl LMq ?_; (with_reducible refine (prod_loud.calls kj8 _ _ y283 q02 _ ?side1 ?side2 A23.out).mono ?_); (case side1 => repeat (first | exact (Kd.R_reads' q07.out).2.2 | (with_reducible refine Kd.C_alloc ?_ _) | (with_reducible refine Kd.C_drewN ?_ _) | (with_reducible refine Kd.C_drew ?_))); (case side2 => exact (Kd.R_reads' q07.out).2.1); rintro e w27 ⟨rfl, hb⟩; refine ⟨_, rfl, ?_⟩; replace q07 := Aside0.mk (Kd.R_below (kR q07) hb); replace HB := Aside0.mk (below_step (kH HB) hb); (try clear hb); (try clear hb2); (try clear hk); (try clear hi)))
     go_ret2
     exact ⟨by first | rfl | (simp [errW_none, errW_some] <;> rfl) | (simp [*, errW_none, errW_some] <;> rfl), kH HB⟩
   replace c22 := Bool.eq_false_iff.mpr c22; subst c22
   have H1 : ((pat_Finite.f a0).bind fun q05 => (if q05 = true then ((pat_Finite.f a1).bind fun q01 => (prod_Fma.j1 kj8 a0 a1 a2 a3 (!q01))) else (prod_Fma.j1 kj8 a0 a1 a2 a3 true))) = some (r1, r2) := by rw [if_neg (show ¬ (false = true) by decide)] at H; exact H
   clear H; have H := H1; clear H1; have q0b := Aside0.mk H; clear H
   go_upto_region 6 with (fail)
   go_cut [38] (fun v38 wc => ∃ (kq : Nat) (q0a : Bool), v38 = .bool q0a ∧ Aside0 (prod_Fma.j1 kq a0 a1 a2 a3 q0a = some (r1, r2)) ∧ Aside0 (kq ≤ kj8) ∧ Aside0 (Below w.heap.size w wc))
   case first =>
    have H := q0b.out; clear q0b; replace H := Option.bind_eq_some_iff.mp H; obtain ⟨q05, q0g, H⟩ := H; replace H : (if q05 = true then ((pat_Finite.f a1).bind fun q01 => (prod_Fma.j1 kj8 a0 a1 a2 a3 (!q01))) else (prod_Fma.j1 kj8 a0 a1 a2 a3 true)) = some (r1, r2) := H; have A29 := Aside0.mk q0g; clear q0g
    by_cases c30 : q05 = true
    · subst c30
      have H1 : ((pat_Finite.f a1).bind fun q01 => (prod_Fma.j1 kj8 a0 a1 a2 a3 (!q01))) = some (r1, r2) := by rw [if_pos rfl] at H; exact H
      clear H; have H := H1; clear H1; replace H := Option.bind_eq_some_iff.mp H; obtain ⟨q01, q0h, H⟩ := H; replace H : (prod_Fma.j1 kj8 a0 a1 a2 a3 (!q01)) = some (r1, r2) := H; have A31 := Aside0.mk q0h; clear q0h; have H' := Aside0.mk H; clear H
      go_wp2_with (first | ((with_reducible refine gate_callee (f := 47) rfl ?_); refine goesL_ (some 40) rfl rfl Try.func47 (by kernel_rfl) rfl #[.int .u64 a0] rfl LMq ?_; (with_reducible refine (pat_Finite.calls a0 true _ A29.out).mono ?_); rintro e w32 ⟨rfl, hb⟩; refine ⟨_, rfl, ?_⟩; replace HB := Aside0.mk (below_step (kH HB) hb); (try clear hb); (try clear hb2); (try clear hk); (try clear hi)) | (go_at_call 47; (with_reducible refine (pat_Finite.calls a1 q01 _ A31.out).mono ?_); rintro e w33 ⟨rfl, hb⟩; replace HB := Aside0.mk (below_step (kH HB) hb); (try clear hb); (try clear hb2); (try clear hk); (try clear hi)))
      go_meet
      case rel => exact ⟨_, (!q01), RSq, (by first | exact H' | (subst_vars; exact H')), ⟨by have := HJ8.out; first | omega | exact Nat.le_refl _⟩, ⟨kH HB⟩⟩
    replace c30 := Bool.eq_false_iff.mpr c30; subst c30
    have H1 : (prod_Fma.j1 kj8 a0 a1 a2 a3 true) = some (r1, r2) := by rw [if_neg (show ¬ (false = true) by decide)] at H; exact H
    clear H; have H := H1; clear H1; have H' := Aside0.mk H; clear H
    go_wp2_with (first | ((with_reducible refine gate_callee (f := 47) rfl ?_); refine goesL_ (some 40) rfl rfl Try.func47 (by kernel_rfl) rfl #[.int .u64 a0] rfl LMq ?_; (with_reducible refine (pat_Finite.calls a0 false _ A29.out).mono ?_); rintro e w34 ⟨rfl, hb⟩; refine ⟨_, rfl, ?_⟩; replace HB := Aside0.mk (below_step (kH HB) hb); (try clear hb); (try clear hb2); (try clear hk); (try clear hi)))
    go_meet
    case rel => exact ⟨_, (true), RSq, (by first | exact H' | (subst_vars; exact H')), ⟨by have := HJ8.out; first | omega | exact Nat.le_refl _⟩, ⟨kH HB⟩⟩
   case rest =>
    clear q0b; (try clear c1); (try clear c2); (try clear p2); (try clear c3); (try clear c4); (try clear p6); (try clear c7); (try clear c12); (try clear c15); (try clear c22); (try clear c23); (try clear c30); (try clear p2); (try clear p6); obtain ⟨kq, q0a, rfl, HA, HJ27, HB⟩ := hcut
    cases kq with
    | zero => exact absurd HA.out (by simp [prod_Fma.j1])
    | succ q00 =>
     have H := HA.out; clear HA
     simp only [prod_Fma.j1] at H
     by_cases c35 : q0a = true
     · subst c35
       have H1 : (none) = some (r1, r2) := by rw [if_pos rfl] at H; exact H
       clear H; have H := H1; clear H1; exact absurd H (by simp)
     replace c35 := Bool.eq_false_iff.mpr c35; subst c35
     have H1 : ((pat_Finite.f a2).bind fun q06 => (if q06 = true then ((rnd_Of.f a2).bind fun qe => (if qe.2.2.2.2.2.2.2.isNone = true then ((prod_exact.f a0 a1).bind fun q7 => ((sums_Exact.f q00 q7.1 q7.2.1 q7.2.2.1 q7.2.2.2.1 q7.2.2.2.2.1 q7.2.2.2.2.2.1 q7.2.2.2.2.2.2 qe.1 qe.2.1 qe.2.2.1 qe.2.2.2.1 qe.2.2.2.2.1 qe.2.2.2.2.2.1 qe.2.2.2.2.2.2.1 a3).bind fun q4 => (if q4.2.2.2.2.2.2.2.isNone = true then ((rnd_Round.f q4.1 q4.2.1 q4.2.2.1 q4.2.2.2.1 q4.2.2.2.2.1 q4.2.2.2.2.2.1 q4.2.2.2.2.2.2.1 a3).bind fun qg => (some (qg.1, qg.2))) else (some (9221120237041090560, 1))))) else (some (9221120237041090560, 1)))) else (some (a2, 0)))) = some (r1, r2) := by rw [if_neg (show ¬ (false = true) by decide)] at H; exact H
     clear H; have H := H1; clear H1; replace H := Option.bind_eq_some_iff.mp H; obtain ⟨q06, q0i, H⟩ := H; replace H : (if q06 = true then ((rnd_Of.f a2).bind fun qe => (if qe.2.2.2.2.2.2.2.isNone = true then ((prod_exact.f a0 a1).bind fun q7 => ((sums_Exact.f q00 q7.1 q7.2.1 q7.2.2.1 q7.2.2.2.1 q7.2.2.2.2.1 q7.2.2.2.2.2.1 q7.2.2.2.2.2.2 qe.1 qe.2.1 qe.2.2.1 qe.2.2.2.1 qe.2.2.2.2.1 qe.2.2.2.2.2.1 qe.2.2.2.2.2.2.1 a3).bind fun q4 => (if q4.2.2.2.2.2.2.2.isNone = true then ((rnd_Round.f q4.1 q4.2.1 q4.2.2.1 q4.2.2.2.1 q4.2.2.2.2.1 q4.2.2.2.2.2.1 q4.2.2.2.2.2.2.1 a3).bind fun qg => (some (qg.1, qg.2))) else (some (9221120237041090560, 1))))) else (some (9221120237041090560, 1)))) else (some (a2, 0))) = some (r1, r2) := H; have A36 := Aside0.mk q0i; clear q0i
     by_cases c37 : q06 = true
     · subst c37
       have H1 : ((rnd_Of.f a2).bind fun qe => (if qe.2.2.2.2.2.2.2.isNone = true then ((prod_exact.f a0 a1).bind fun q7 => ((sums_Exact.f q00 q7.1 q7.2.1 q7.2.2.1 q7.2.2.2.1 q7.2.2.2.2.1 q7.2.2.2.2.2.1 q7.2.2.2.2.2.2 qe.1 qe.2.1 qe.2.2.1 qe.2.2.2.1 qe.2.2.2.2.1 qe.2.2.2.2.2.1 qe.2.2.2.2.2.2.1 a3).bind fun q4 => (if q4.2.2.2.2.2.2.2.isNone = true then ((rnd_Round.f q4.1 q4.2.1 q4.2.2.1 q4.2.2.2.1 q4.2.2.2.2.1 q4.2.2.2.2.2.1 q4.2.2.2.2.2.2.1 a3).bind fun qg => (some (qg.1, qg.2))) else (some (9221120237041090560, 1))))) else (some (9221120237041090560, 1)))) = some (r1, r2) := by rw [if_pos rfl] at H; exact H
       clear H; have H := H1; clear H1; replace H := Option.bind_eq_some_iff.mp H; obtain ⟨⟨q6, q8, q9, qa, qb, qc, qd, q0j⟩, q0k, H⟩ := H; replace H : (if q0j.isNone = true then ((prod_exact.f a0 a1).bind fun q7 => ((sums_Exact.f q00 q7.1 q7.2.1 q7.2.2.1 q7.2.2.2.1 q7.2.2.2.2.1 q7.2.2.2.2.2.1 q7.2.2.2.2.2.2 q6 q8 q9 qa qb qc qd a3).bind fun q4 => (if q4.2.2.2.2.2.2.2.isNone = true then ((rnd_Round.f q4.1 q4.2.1 q4.2.2.1 q4.2.2.2.1 q4.2.2.2.2.1 q4.2.2.2.2.2.1 q4.2.2.2.2.2.2.1 a3).bind fun qg => (some (qg.1, qg.2))) else (some (9221120237041090560, 1))))) else (some (9221120237041090560, 1))) = some (r1, r2) := H; have A38 := Aside0.mk q0k; clear q0k
       rcases q0j with _ | q299
       · have H1 : ((prod_exact.f a0 a1).bind fun q7 => ((sums_Exact.f q00 q7.1 q7.2.1 q7.2.2.1 q7.2.2.2.1 q7.2.2.2.2.1 q7.2.2.2.2.2.1 q7.2.2.2.2.2.2 q6 q8 q9 qa qb qc qd a3).bind fun q4 => (if q4.2.2.2.2.2.2.2.isNone = true then ((rnd_Round.f q4.1 q4.2.1 q4.2.2.1 q4.2.2.2.1 q4.2.2.2.2.1 q4.2.2.2.2.2.1 q4.2.2.2.2.2.2.1 a3).bind fun qg => (some (qg.1, qg.2))) else (some (9221120237041090560, 1))))) = some (r1, r2) := by rw [if_pos (show (none : Option Int).isNone = true by rfl)] at H; exact H
         clear H; have H := H1; clear H1
         try simp only [errW_none, errW_some]
         replace H := Option.bind_eq_some_iff.mp H; obtain ⟨⟨qm, qn, qo, qp, qq, qr, qs⟩, q0l, H⟩ := H; replace H : ((sums_Exact.f q00 qm qn qo qp qq qr qs q6 q8 q9 qa qb qc qd a3).bind fun q4 => (if q4.2.2.2.2.2.2.2.isNone = true then ((rnd_Round.f q4.1 q4.2.1 q4.2.2.1 q4.2.2.2.1 q4.2.2.2.2.1 q4.2.2.2.2.2.1 q4.2.2.2.2.2.2.1 a3).bind fun qg => (some (qg.1, qg.2))) else (some (9221120237041090560, 1)))) = some (r1, r2) := H; have A39 := Aside0.mk q0l; clear q0l; replace H := Option.bind_eq_some_iff.mp H; obtain ⟨⟨qh, qi, qk, ql, qt, qu, qv, q0m⟩, q0n, H⟩ := H; replace H : (if q0m.isNone = true then ((rnd_Round.f qh qi qk ql qt qu qv a3).bind fun qg => (some (qg.1, qg.2))) else (some (9221120237041090560, 1))) = some (r1, r2) := H; have A40 := Aside0.mk q0n; clear q0n
         rcases q0m with _ | q316
         · have H1 : ((rnd_Round.f qh qi qk ql qt qu qv a3).bind fun qg => (some (qg.1, qg.2))) = some (r1, r2) := by rw [if_pos (show (none : Option Int).isNone = true by rfl)] at H; exact H
           clear H; have H := H1; clear H1
           try simp only [errW_none, errW_some]
           replace H := Option.bind_eq_some_iff.mp H; obtain ⟨⟨q0o, q0p⟩, q0q, H⟩ := H; replace H : (some (q0o, q0p)) = some (r1, r2) := H; have A41 := Aside0.mk q0q; clear q0q
           simp only [Option.some.injEq, Prod.mk.injEq] at H
           obtain ⟨rfl, rfl⟩ := H
           try go_wp2_with (first | ((with_reducible refine gate_callee (f := 47) rfl ?_); refine goesL_ (some 55) rfl rfl Try.func47 (by kernel_rfl) rfl #[.int .u64 a2] rfl LMq ?_; (with_reducible refine (pat_Finite.calls a2 true _ A36.out).mono ?_); rintro e w42 ⟨rfl, hb⟩; refine ⟨_, rfl, ?_⟩; replace HB := Aside0.mk (below_step (kH HB) hb); (try clear hb); (try clear hb2); (try clear hk); (try clear hi)) | ((with_reducible refine gate_callee (f := 49) rfl ?_); refine goesL_ (some 60) rfl rfl Try.func49 (by kernel_rfl) rfl #[.int .u64 a2] rfl LMq ?_; (with_reducible refine (rnd_Of.calls a2 q6 q8 q9 qa qb qc qd none _ A38.out).mono ?_); rintro e w43 ⟨rfl, hb⟩; refine ⟨_, rfl, ?_⟩; replace HB := Aside0.mk (below_step (kH HB) hb); (try clear hb); (try clear hb2); (try clear hk); (try clear hi); (try simp only [errW_none, errW_some])) | ((with_reducible refine gate_dst (N := 11) rfl ?_); refine box_event ?hg (N := 11) ?hd (cs := #[.bool false, .int .i64 0, .int .u64 0, .int .u64 0, .int .u64 0, .int .u64 0, .bool false]) (t := 61) ?hr ?_; (case hd => rfl); (case hg => rfl); (case hr => first | (go_simp; done) | (go_simp; rfl)); intro q3 hg w44 hbox hb; have q0 := Aside0.mk (hbox); have q0r := Aside0.mk ((by rw [hg]; exact (below_size (kH HB)) : w.heap.size ≤ q3)); have q04 := Aside0.mk ((by rw [hg]; exact (below_size (kH HB)) : w.heap.size ≤ q3)); replace HB := Aside0.mk (below_step (kH HB) hb); clear hb hbox hg; obtain ⟨_, _, _, _, _, _, _, _, _, _, _, _, _, _⟩ := W7q q0))
           have n0_ : Aside0 ((((((((w44.setCell ⟨q3, 0, none⟩ (.bool q6)).setCell ⟨q3, 1, none⟩ (.int .i64 q8)).setCell ⟨q3, 2, none⟩ (.int .u64 q9)).setCell ⟨q3, 3, none⟩ (.int .u64 qa)).setCell ⟨q3, 4, none⟩ (.int .u64 qb)).setCell ⟨q3, 5, none⟩ (.int .u64 qc)).setCell ⟨q3, 6, none⟩ (.bool qd)).heap[q3]? = some (.cells #[.bool q6, .int .i64 q8, .int .u64 q9, .int .u64 qa, .int .u64 qb, .int .u64 qc, .bool qd] 61 (0, 0))) := ⟨by (with_reducible repeat (first | refine blk_drewN ?_ _ | refine blk_drew ?_ | refine blk_alloc ?_ _)); refine blk_put (cs := #[.bool q6, .int .i64 q8, .int .u64 q9, .int .u64 qa, .int .u64 qb, .int .u64 qc, .bool false]) ?_ 6 _ rfl; refine blk_put (cs := #[.bool q6, .int .i64 q8, .int .u64 q9, .int .u64 qa, .int .u64 qb, .int .u64 0, .bool false]) ?_ 5 _ rfl; refine blk_put (cs := #[.bool q6, .int .i64 q8, .int .u64 q9, .int .u64 qa, .int .u64 0, .int .u64 0, .bool false]) ?_ 4 _ rfl; refine blk_put (cs := #[.bool q6, .int .i64 q8, .int .u64 q9, .int .u64 0, .int .u64 0, .int .u64 0, .bool false]) ?_ 3 _ rfl; refine blk_put (cs := #[.bool q6, .int .i64 q8, .int .u64 0, .int .u64 0, .int .u64 0, .int .u64 0, .bool false]) ?_ 2 _ rfl; refine blk_put (cs := #[.bool q6, .int .i64 0, .int .u64 0, .int .u64 0, .int .u64 0, .int .u64 0, .bool false]) ?_ 1 _ rfl; refine blk_put (cs := #[.bool false, .int .i64 0, .int .u64 0, .int .u64 0, .int .u64 0, .int .u64 0, .bool false]) ?_ 0 _ rfl; (with_reducible repeat (first | refine blk_drewN ?_ _ | refine blk_drew ?_ | refine blk_alloc ?_ _)); exact q0.out⟩; have n1_ : Aside0 (Below w.heap.size w (((((((w44.setCell ⟨q3, 0, none⟩ (.bool q6)).setCell ⟨q3, 1, none⟩ (.int .i64 q8)).setCell ⟨q3, 2, none⟩ (.int .u64 q9)).setCell ⟨q3, 3, none⟩ (.int .u64 qa)).setCell ⟨q3, 4, none⟩ (.int .u64 qb)).setCell ⟨q3, 5, none⟩ (.int .u64 qc)).setCell ⟨q3, 6, none⟩ (.bool qd))) := ⟨kHs HB q04⟩
           (try clear q0)
           (try clear HB)
           generalize (((((((w44.setCell ⟨q3, 0, none⟩ (.bool q6)).setCell ⟨q3, 1, none⟩ (.int .i64 q8)).setCell ⟨q3, 2, none⟩ (.int .u64 q9)).setCell ⟨q3, 3, none⟩ (.int .u64 qa)).setCell ⟨q3, 4, none⟩ (.int .u64 qb)).setCell ⟨q3, 5, none⟩ (.int .u64 qc)).setCell ⟨q3, 6, none⟩ (.bool qd)) = w46 at n0_ n1_ ⊢
           have q0 := n0_; have HB := n1_; clear n0_ n1_; replace q0 := Aside0.mk (blk_drew q0.out); replace HB := Aside0.mk (below_drew1 HB.out); refine start_ (n := 12) (S := fun w' => w'.cell? ⟨q3, 0, none⟩ = some (.bool q6) ∧ w'.cell? ⟨q3, 1, none⟩ = some (.int .i64 q8) ∧ w'.cell? ⟨q3, 2, none⟩ = some (.int .u64 q9) ∧ w'.cell? ⟨q3, 3, none⟩ = some (.int .u64 qa) ∧ w'.cell? ⟨q3, 4, none⟩ = some (.int .u64 qb) ∧ w'.cell? ⟨q3, 5, none⟩ = some (.int .u64 qc) ∧ w'.cell? ⟨q3, 6, none⟩ = some (.bool qd)) (ds := []) #[false, false, false, false, false, false, false, false, false, false, false, false] (by kernel_rfl) rfl rfl ⟨bc q0 0, bc q0 1, bc q0 2, bc q0 3, bc q0 4, bc q0 5, bc q0 6⟩ (fun hHeld => ?_); refine with_tabW prod_Fma.tab13 prod_Fma.bits13 (fun HT_ HW_ => ?_)
           generalize w46.drew = w47 at q0 HB hHeld ⊢
           refine pure_ (i := 0) (N := some 66) (v := ?_) (a' := ?_) #[true, false, false, false, false, false, false, false, false, false, false, false] rfl rfl (any_of HT_.out (by kernel_rfl)) (fun _ _ _ h => h) (Or.inl ⟨by rfl, ?_⟩) ?_ ?_; rotate_left
           · intro w'
             go_simp
             with_reducible rfl
           rotate_left
           · exact APq
           refine pure_ (i := 1) (N := some 67) (v := ?_) (a' := ?_) #[true, true, false, false, false, false, false, false, false, false, false, false] rfl rfl (any_of HT_.out (by kernel_rfl)) (fun _ _ _ h => h) (Or.inl ⟨by rfl, ?_⟩) ?_ ?_; rotate_left
           · intro w'
             go_simp
             with_reducible rfl
           rotate_left
           · exact APq
           refine pure_ (i := 4) (N := some 70) (v := ?_) (a' := ?_) #[true, true, false, false, true, false, false, false, false, false, false, false] rfl rfl (any_of HT_.out (by kernel_rfl)) (fun _ _ _ h => h) (Or.inl ⟨by rfl, ?_⟩) ?_ ?_; rotate_left
           · intro w'
             go_simp
             with_reducible rfl
           rotate_left
           · exact APq
           refine take_ (i := 3) (N := some 69) (v := ?_) (a' := ?_) #[true, true, false, true, true, false, false, false, false, false, false, false] rfl rfl (take_ofW HT_.out HW_.out (by kernel_rfl)) (fun _ _ _ h => h) (Or.inl ⟨by rfl, ?_⟩) hHeld ?_ ?_; rotate_left
           · rintro w' ⟨s0, s1, s2, s3, s4, s5, s6⟩
             go_simp
             with_reducible rfl
           rotate_left
           · exact APq
           refine join_ (σ := Nat) 2 #[true, true, true, true, true, true, true, true, true, true, false, false] (fun s_ => [(68, .agg #[.bool qm, .int .i64 qn, .int .u64 qo, .int .u64 qp, .int .u64 qq, .int .u64 qr, .bool qs]), (71, .tuple #[.agg #[.bool qh, .int .i64 qi, .int .u64 qk, .int .u64 ql, .int .u64 qt, .int .u64 qu, .bool qv], errW none]), (13, .pointer (some ⟨s_, 0, none⟩)), (65, .tuple #[.agg #[.bool qh, .int .i64 qi, .int .u64 qk, .int .u64 ql, .int .u64 qt, .int .u64 qu, .bool qv], errW none]), (72, .agg #[.bool qh, .int .i64 qi, .int .u64 qk, .int .u64 ql, .int .u64 qt, .int .u64 qu, .bool qv]), (73, errW none)]) (fun s_ w' => (w'.cell? ⟨q3, 0, none⟩ = some (.bool q6) ∧ w'.cell? ⟨q3, 1, none⟩ = some (.int .i64 q8) ∧ w'.cell? ⟨q3, 2, none⟩ = some (.int .u64 q9) ∧ w'.cell? ⟨q3, 3, none⟩ = some (.int .u64 qa) ∧ w'.cell? ⟨q3, 4, none⟩ = some (.int .u64 qb) ∧ w'.cell? ⟨q3, 5, none⟩ = some (.int .u64 qc) ∧ w'.cell? ⟨q3, 6, none⟩ = some (.bool qd)) ∧ (w'.heap[q3]? = some (.cells #[.bool q6, .int .i64 q8, .int .u64 q9, .int .u64 qa, .int .u64 qb, .int .u64 qc, .bool qd] 61 (0, 0))) ∧ (w'.heap[s_]? = some (.cells #[.bool false, .int .i64 0, .int .u64 0, .int .u64 0, .int .u64 0, .int .u64 0, .bool false] 61 (0, 0))) ∧ (w.heap.size ≤ s_) ∧ (w.heap.size ≤ s_) ∧ (q3 ≠ s_) ∧ (s_ ≠ q3) ∧ (Below w.heap.size w w')) ?_ ?_; rotate_left
           · intro hCont
             refine two_ (i := 2) (j := 9) (Ni := some 68) (Nj := some 13) #[true, true, true, true, true, false, false, false, false, false, false, false] #[true, true, false, true, true, false, false, false, false, true, false, false] rfl rfl rfl rfl (two_of HT_.out (by kernel_rfl)) (by decide) (by decide) (fun K hK => ?_) (fun K hK => ?_)
             · skip
               refine goes_ Try.func51 (by kernel_rfl) rfl #[.int .u64 a0, .int .u64 a1] (by rfl) rfl rfl LMq ?_
               with_reducible refine (prod_exact.calls a0 a1 qm qn qo qp qq qr qs _ A39.out).mono ?_
               rintro e w48 ⟨rfl, hb⟩; refine ⟨_, rfl, ?_⟩; replace q0 := Aside0.mk (blk_below q0.out hb); replace HB := Aside0.mk (below_step HB.out hb)
               (try clear hb)
               (try clear hb2)
               (try clear hk)
               (try clear hi)
               refine hK.out _ _ ⟨bc q0 0, bc q0 1, bc q0 2, bc q0 3, bc q0 4, bc q0 5, bc q0 6⟩ (fun hHeld => ?_); clear hK K; refine norm_ (a' := ?_) ?_ ?_; rotate_left
               · show Act.put _ (some 68) _ = _
                 exact APq
               refine two_ (i := 5) (j := 9) (Ni := some 71) (Nj := some 13) #[true, true, true, true, true, true, false, false, false, false, false, false] #[true, true, true, true, true, false, false, false, false, true, false, false] rfl rfl rfl rfl (two_of HT_.out (by kernel_rfl)) (by decide) (by decide) (fun K hK => ?_) (fun K hK => ?_)
               · skip
                 refine goes_ Try.func50 (by kernel_rfl) rfl #[.agg #[.bool qm, .int .i64 qn, .int .u64 qo, .int .u64 qp, .int .u64 qq, .int .u64 qr, .bool qs], .agg #[.bool q6, .int .i64 q8, .int .u64 q9, .int .u64 qa, .int .u64 qb, .int .u64 qc, .bool qd], .int .i64 a3] (by rfl) rfl rfl LMq ?_
                 with_reducible refine (sums_Exact.calls q00 qm qn qo qp qq qr qs q6 q8 q9 qa qb qc qd a3 qh qi qk ql qt qu qv none _ A40.out).mono ?_
                 rintro e w49 ⟨rfl, hb⟩; refine ⟨_, rfl, ?_⟩; replace q0 := Aside0.mk (blk_below q0.out hb); replace HB := Aside0.mk (below_step HB.out hb)
                 (try clear hb)
                 (try clear hb2)
                 (try clear hk)
                 (try clear hi)
                 (try simp only [errW_none, errW_some])
                 refine hK.out _ _ ⟨bc q0 0, bc q0 1, bc q0 2, bc q0 3, bc q0 4, bc q0 5, bc q0 6⟩ (fun hHeld => ?_); clear hK K; refine norm_ (a' := ?_) ?_ ?_; rotate_left
                 · show Act.put _ (some 71) _ = _
                   exact APq
                 refine pure_ (i := 6) (N := some 65) (v := ?_) (a' := ?_) #[true, true, true, true, true, true, true, false, false, false, false, false] rfl rfl (any_of HT_.out (by kernel_rfl)) (fun _ _ _ h => h) (Or.inl ⟨by rfl, ?_⟩) ?_ ?_; rotate_left
                 · intro w'
                   go_simp
                   with_reducible rfl
                 rotate_left
                 · exact APq
                 refine pure_ (i := 7) (N := some 72) (v := ?_) (a' := ?_) #[true, true, true, true, true, true, true, true, false, false, false, false] rfl rfl (any_of HT_.out (by kernel_rfl)) (fun _ _ _ h => h) (Or.inl ⟨by rfl, ?_⟩) ?_ ?_; rotate_left
                 · intro w'
                   go_simp
                   with_reducible rfl
                 rotate_left
                 · exact APq
                 refine pure_ (i := 8) (N := some 73) (v := ?_) (a' := ?_) #[true, true, true, true, true, true, true, true, true, false, false, false] rfl rfl (any_of HT_.out (by kernel_rfl)) (fun _ _ _ h => h) (Or.inl ⟨by rfl, ?_⟩) ?_ ?_; rotate_left
                 · intro w'
                   go_simp
                   with_reducible rfl
                 rotate_left
                 · exact APq
                 refine one_ (i := 9) (N := some 13) #[true, true, true, true, true, true, true, true, true, true, false, false] rfl rfl (one_of HT_.out (by kernel_rfl)) (by decide) (fun K hK => ?_)
                 refine box_step ?hg (N := 13) ?hd (cs := #[.bool false, .int .i64 0, .int .u64 0, .int .u64 0, .int .u64 0, .int .u64 0, .bool false]) (t := 61) ?hr ?_; (case hd => rfl); (case hg => rfl); (case hr => first | (go_simp; done) | (go_simp; rfl))
                 intro q1 hg w50 hbox hb; have q5 := Aside0.mk (hbox); have qy := gsz hg HB; have qx := gsz hg HB; replace HB := Aside0.mk (below_step HB.out hb); have q2 := gne hg q0; have qf := gen hg q0; replace q0 := Aside0.mk (blk_below q0.out hb); clear hb hbox hg; refine hK.out _ _ ⟨bc q0 0, bc q0 1, bc q0 2, bc q0 3, bc q0 4, bc q0 5, bc q0 6⟩ (fun hHeld => ?_); clear hK K; refine norm_ (a' := ?_) ?_ ?_; rotate_left
                 · show Act.put _ (some 13) _ = _
                   exact APq
                 exact norm_ PAq (hCont (q1) _ ⟨hHeld, q0.out, q5.out, qy.out, qx.out, q2.out, qf.out, HB.out⟩)
               skip
               refine box_step ?hg (N := 13) ?hd (cs := #[.bool false, .int .i64 0, .int .u64 0, .int .u64 0, .int .u64 0, .int .u64 0, .bool false]) (t := 61) ?hr ?_; (case hd => rfl); (case hg => rfl); (case hr => first | (go_simp; done) | (go_simp; rfl))
               intro q1 hg w49 hbox hb; have q5 := Aside0.mk (hbox); have qy := gsz hg HB; have qx := gsz hg HB; replace HB := Aside0.mk (below_step HB.out hb); have q2 := gne hg q0; have qf := gen hg q0; replace q0 := Aside0.mk (blk_below q0.out hb); clear hb hbox hg; refine hK.out _ _ ⟨bc q0 0, bc q0 1, bc q0 2, bc q0 3, bc q0 4, bc q0 5, bc q0 6⟩ (fun hHeld => ?_); clear hK K; refine norm_ (a' := ?_) ?_ ?_; rotate_left
               · show Act.put _ (some 13) _ = _
                 exact APq
               refine one_ (i := 5) (N := some 71) #[true, true, true, true, true, true, false, false, false, true, false, false] rfl rfl (one_of HT_.out (by kernel_rfl)) (by decide) (fun K hK => ?_); refine goes_ Try.func50 (by kernel_rfl) rfl #[.agg #[.bool qm, .int .i64 qn, .int .u64 qo, .int .u64 qp, .int .u64 qq, .int .u64 qr, .bool qs], .agg #[.bool q6, .int .i64 q8, .int .u64 q9, .int .u64 qa, .int .u64 qb, .int .u64 qc, .bool qd], .int .i64 a3] (by rfl) rfl rfl LMq ?_
               with_reducible refine (sums_Exact.calls q00 qm qn qo qp qq qr qs q6 q8 q9 qa qb qc qd a3 qh qi qk ql qt qu qv none _ A40.out).mono ?_
               rintro e w50 ⟨rfl, hb⟩; refine ⟨_, rfl, ?_⟩; replace q0 := Aside0.mk (blk_below q0.out hb); replace q5 := Aside0.mk (blk_below q5.out hb); replace HB := Aside0.mk (below_step HB.out hb)
               (try clear hb)
               (try clear hb2)
               (try clear hk)
               (try clear hi)
               (try simp only [errW_none, errW_some])
               refine hK.out _ _ ⟨bc q0 0, bc q0 1, bc q0 2, bc q0 3, bc q0 4, bc q0 5, bc q0 6⟩ (fun hHeld => ?_); clear hK K; refine norm_ (a' := ?_) ?_ ?_; rotate_left
               · show Act.put _ (some 71) _ = _
                 exact APq
               refine pure_ (i := 6) (N := some 65) (v := ?_) (a' := ?_) #[true, true, true, true, true, true, true, false, false, true, false, false] rfl rfl (any_of HT_.out (by kernel_rfl)) (fun _ _ _ h => h) (Or.inl ⟨by rfl, ?_⟩) ?_ ?_; rotate_left
               · intro w'
                 go_simp
                 with_reducible rfl
               rotate_left
               · exact APq
               refine pure_ (i := 7) (N := some 72) (v := ?_) (a' := ?_) #[true, true, true, true, true, true, true, true, false, true, false, false] rfl rfl (any_of HT_.out (by kernel_rfl)) (fun _ _ _ h => h) (Or.inl ⟨by rfl, ?_⟩) ?_ ?_; rotate_left
               · intro w'
                 go_simp
                 with_reducible rfl
               rotate_left
               · exact APq
               refine pure_ (i := 8) (N := some 73) (v := ?_) (a' := ?_) #[true, true, true, true, true, true, true, true, true, true, false, false] rfl rfl (any_of HT_.out (by kernel_rfl)) (fun _ _ _ h => h) (Or.inl ⟨by rfl, ?_⟩) ?_ ?_; rotate_left
               · intro w'
                 go_simp
                 with_reducible rfl
               rotate_left
               · exact APq
               exact norm_ PAq (hCont (q1) _ ⟨hHeld, q0.out, q5.out, qy.out, qx.out, q2.out, qf.out, HB.out⟩)
             skip
             refine box_step ?hg (N := 13) ?hd (cs := #[.bool false, .int .i64 0, .int .u64 0, .int .u64 0, .int .u64 0, .int .u64 0, .bool false]) (t := 61) ?hr ?_; (case hd => rfl); (case hg => rfl); (case hr => first | (go_simp; done) | (go_simp; rfl))
             intro q1 hg w48 hbox hb; have q5 := Aside0.mk (hbox); have qy := gsz hg HB; have qx := gsz hg HB; replace HB := Aside0.mk (below_step HB.out hb); have q2 := gne hg q0; have qf := gen hg q0; replace q0 := Aside0.mk (blk_below q0.out hb); clear hb hbox hg; refine hK.out _ _ ⟨bc q0 0, bc q0 1, bc q0 2, bc q0 3, bc q0 4, bc q0 5, bc q0 6⟩ (fun hHeld => ?_); clear hK K; refine norm_ (a' := ?_) ?_ ?_; rotate_left
             · show Act.put _ (some 13) _ = _
               exact APq
             refine one_ (i := 2) (N := some 68) #[true, true, true, true, true, false, false, false, false, true, false, false] rfl rfl (one_of HT_.out (by kernel_rfl)) (by decide) (fun K hK => ?_); refine goes_ Try.func51 (by kernel_rfl) rfl #[.int .u64 a0, .int .u64 a1] (by rfl) rfl rfl LMq ?_
             with_reducible refine (prod_exact.calls a0 a1 qm qn qo qp qq qr qs _ A39.out).mono ?_
             rintro e w49 ⟨rfl, hb⟩; refine ⟨_, rfl, ?_⟩; replace q0 := Aside0.mk (blk_below q0.out hb); replace q5 := Aside0.mk (blk_below q5.out hb); replace HB := Aside0.mk (below_step HB.out hb)
             (try clear hb)
             (try clear hb2)
             (try clear hk)
             (try clear hi)
             refine hK.out _ _ ⟨bc q0 0, bc q0 1, bc q0 2, bc q0 3, bc q0 4, bc q0 5, bc q0 6⟩ (fun hHeld => ?_); clear hK K; refine norm_ (a' := ?_) ?_ ?_; rotate_left
             · show Act.put _ (some 68) _ = _
               exact APq
             refine one_ (i := 5) (N := some 71) #[true, true, true, true, true, true, false, false, false, true, false, false] rfl rfl (one_of HT_.out (by kernel_rfl)) (by decide) (fun K hK => ?_); refine goes_ Try.func50 (by kernel_rfl) rfl #[.agg #[.bool qm, .int .i64 qn, .int .u64 qo, .int .u64 qp, .int .u64 qq, .int .u64 qr, .bool qs], .agg #[.bool q6, .int .i64 q8, .int .u64 q9, .int .u64 qa, .int .u64 qb, .int .u64 qc, .bool qd], .int .i64 a3] (by rfl) rfl rfl LMq ?_
             with_reducible refine (sums_Exact.calls q00 qm qn qo qp qq qr qs q6 q8 q9 qa qb qc qd a3 qh qi qk ql qt qu qv none _ A40.out).mono ?_
             rintro e w50 ⟨rfl, hb⟩; refine ⟨_, rfl, ?_⟩; replace q0 := Aside0.mk (blk_below q0.out hb); replace q5 := Aside0.mk (blk_below q5.out hb); replace HB := Aside0.mk (below_step HB.out hb)
             (try clear hb)
             (try clear hb2)
             (try clear hk)
             (try clear hi)
             (try simp only [errW_none, errW_some])
             refine hK.out _ _ ⟨bc q0 0, bc q0 1, bc q0 2, bc q0 3, bc q0 4, bc q0 5, bc q0 6⟩ (fun hHeld => ?_); clear hK K; refine norm_ (a' := ?_) ?_ ?_; rotate_left
             · show Act.put _ (some 71) _ = _
               exact APq
             refine pure_ (i := 6) (N := some 65) (v := ?_) (a' := ?_) #[true, true, true, true, true, true, true, false, false, true, false, false] rfl rfl (any_of HT_.out (by kernel_rfl)) (fun _ _ _ h => h) (Or.inl ⟨by rfl, ?_⟩) ?_ ?_; rotate_left
             · intro w'
               go_simp
               with_reducible rfl
             rotate_left
             · exact APq
             refine pure_ (i := 7) (N := some 72) (v := ?_) (a' := ?_) #[true, true, true, true, true, true, true, true, false, true, false, false] rfl rfl (any_of HT_.out (by kernel_rfl)) (fun _ _ _ h => h) (Or.inl ⟨by rfl, ?_⟩) ?_ ?_; rotate_left
             · intro w'
               go_simp
               with_reducible rfl
             rotate_left
             · exact APq
             refine pure_ (i := 8) (N := some 73) (v := ?_) (a' := ?_) #[true, true, true, true, true, true, true, true, true, true, false, false] rfl rfl (any_of HT_.out (by kernel_rfl)) (fun _ _ _ h => h) (Or.inl ⟨by rfl, ?_⟩) ?_ ?_; rotate_left
             · intro w'
               go_simp
               with_reducible rfl
             rotate_left
             · exact APq
             exact norm_ PAq (hCont (q1) _ ⟨hHeld, q0.out, q5.out, qy.out, qx.out, q2.out, qf.out, HB.out⟩)
           rintro q1 w51 ⟨hS_, h0_, h1_, h2_, h3_, h4_, h5_, h6_⟩; replace q0 : Aside0 (w51.heap[q3]? = some (.cells #[.bool q6, .int .i64 q8, .int .u64 q9, .int .u64 qa, .int .u64 qb, .int .u64 qc, .bool qd] 61 (0, 0))) := ⟨h0_⟩; have q5 : Aside0 (w51.heap[q1]? = some (.cells #[.bool false, .int .i64 0, .int .u64 0, .int .u64 0, .int .u64 0, .int .u64 0, .bool false] 61 (0, 0))) := ⟨h1_⟩; have qy : Aside0 (w.heap.size ≤ q1) := ⟨h2_⟩; have qx : Aside0 (w.heap.size ≤ q1) := ⟨h3_⟩; have q2 : Aside0 (q3 ≠ q1) := ⟨h4_⟩; have qf : Aside0 (q1 ≠ q3) := ⟨h5_⟩; replace HB : Aside0 (Below w.heap.size w w51) := ⟨h6_⟩; clear h0_ h1_ h2_ h3_ h4_ h5_ h6_; have hHeld : w51.cell? ⟨q3, 0, none⟩ = some (.bool q6) ∧ w51.cell? ⟨q3, 1, none⟩ = some (.int .i64 q8) ∧ w51.cell? ⟨q3, 2, none⟩ = some (.int .u64 q9) ∧ w51.cell? ⟨q3, 3, none⟩ = some (.int .u64 qa) ∧ w51.cell? ⟨q3, 4, none⟩ = some (.int .u64 qb) ∧ w51.cell? ⟨q3, 5, none⟩ = some (.int .u64 qc) ∧ w51.cell? ⟨q3, 6, none⟩ = some (.bool qd) := hS_; refine norm_ (a' := ?_) ?_ ?_; rotate_left
           · simp only [putAll, Act.put, List.setIfInBounds_toArray, List.set_cons_zero, List.set_cons_succ]
             rfl
           refine one_ (i := 10) (N := none) #[true, true, true, true, true, true, true, true, true, true, true, false] rfl rfl (one_of HT_.out (by kernel_rfl)) (by decide) (fun K hK => ?_); have hs52 : w51.cell? ⟨q1, 0, none⟩ = some (.bool false) := bc q5 0; have hfs52 := blk_frozen q5.out 0; have hns52_0 := q2.out; have hms52_0 := qf.out; have hs53 : w51.cell? ⟨q1, 1, none⟩ = some (.int .i64 0) := bc q5 1; have hfs53 := blk_frozen q5.out 1; have hns53_0 := q2.out; have hms53_0 := qf.out; have hs54 : w51.cell? ⟨q1, 2, none⟩ = some (.int .u64 0) := bc q5 2; have hfs54 := blk_frozen q5.out 2; have hns54_0 := q2.out; have hms54_0 := qf.out; have hs55 : w51.cell? ⟨q1, 3, none⟩ = some (.int .u64 0) := bc q5 3; have hfs55 := blk_frozen q5.out 3; have hns55_0 := q2.out; have hms55_0 := qf.out; have hs56 : w51.cell? ⟨q1, 4, none⟩ = some (.int .u64 0) := bc q5 4; have hfs56 := blk_frozen q5.out 4; have hns56_0 := q2.out; have hms56_0 := qf.out; have hs57 : w51.cell? ⟨q1, 5, none⟩ = some (.int .u64 0) := bc q5 5; have hfs57 := blk_frozen q5.out 5; have hns57_0 := q2.out; have hms57_0 := qf.out; have hs58 : w51.cell? ⟨q1, 6, none⟩ = some (.bool false) := bc q5 6; have hfs58 := blk_frozen q5.out 6; have hns58_0 := q2.out; have hms58_0 := qf.out; refine skip_ (w1 := ?_) (by rfl) rfl ?_ ?_; rotate_left
           · go_simp
             rfl
           refine hK.out _ _ ⟨((cell_far (p := ⟨q1, _, none⟩) q2.out _).trans (((cell_far (p := ⟨q1, _, none⟩) q2.out _).trans (((cell_far (p := ⟨q1, _, none⟩) q2.out _).trans (((cell_far (p := ⟨q1, _, none⟩) q2.out _).trans (((cell_far (p := ⟨q1, _, none⟩) q2.out _).trans (((cell_far (p := ⟨q1, _, none⟩) q2.out _).trans (((cell_far (p := ⟨q1, _, none⟩) q2.out _).trans (hHeld.1)))))))))))))), ((cell_far (p := ⟨q1, _, none⟩) q2.out _).trans (((cell_far (p := ⟨q1, _, none⟩) q2.out _).trans (((cell_far (p := ⟨q1, _, none⟩) q2.out _).trans (((cell_far (p := ⟨q1, _, none⟩) q2.out _).trans (((cell_far (p := ⟨q1, _, none⟩) q2.out _).trans (((cell_far (p := ⟨q1, _, none⟩) q2.out _).trans (((cell_far (p := ⟨q1, _, none⟩) q2.out _).trans (hHeld.2.1)))))))))))))), ((cell_far (p := ⟨q1, _, none⟩) q2.out _).trans (((cell_far (p := ⟨q1, _, none⟩) q2.out _).trans (((cell_far (p := ⟨q1, _, none⟩) q2.out _).trans (((cell_far (p := ⟨q1, _, none⟩) q2.out _).trans (((cell_far (p := ⟨q1, _, none⟩) q2.out _).trans (((cell_far (p := ⟨q1, _, none⟩) q2.out _).trans (((cell_far (p := ⟨q1, _, none⟩) q2.out _).trans (hHeld.2.2.1)))))))))))))), ((cell_far (p := ⟨q1, _, none⟩) q2.out _).trans (((cell_far (p := ⟨q1, _, none⟩) q2.out _).trans (((cell_far (p := ⟨q1, _, none⟩) q2.out _).trans (((cell_far (p := ⟨q1, _, none⟩) q2.out _).trans (((cell_far (p := ⟨q1, _, none⟩) q2.out _).trans (((cell_far (p := ⟨q1, _, none⟩) q2.out _).trans (((cell_far (p := ⟨q1, _, none⟩) q2.out _).trans (hHeld.2.2.2.1)))))))))))))), ((cell_far (p := ⟨q1, _, none⟩) q2.out _).trans (((cell_far (p := ⟨q1, _, none⟩) q2.out _).trans (((cell_far (p := ⟨q1, _, none⟩) q2.out _).trans (((cell_far (p := ⟨q1, _, none⟩) q2.out _).trans (((cell_far (p := ⟨q1, _, none⟩) q2.out _).trans (((cell_far (p := ⟨q1, _, none⟩) q2.out _).trans (((cell_far (p := ⟨q1, _, none⟩) q2.out _).trans (hHeld.2.2.2.2.1)))))))))))))), ((cell_far (p := ⟨q1, _, none⟩) q2.out _).trans (((cell_far (p := ⟨q1, _, none⟩) q2.out _).trans (((cell_far (p := ⟨q1, _, none⟩) q2.out _).trans (((cell_far (p := ⟨q1, _, none⟩) q2.out _).trans (((cell_far (p := ⟨q1, _, none⟩) q2.out _).trans (((cell_far (p := ⟨q1, _, none⟩) q2.out _).trans (((cell_far (p := ⟨q1, _, none⟩) q2.out _).trans (hHeld.2.2.2.2.2.1)))))))))))))), ((cell_far (p := ⟨q1, _, none⟩) q2.out _).trans (((cell_far (p := ⟨q1, _, none⟩) q2.out _).trans (((cell_far (p := ⟨q1, _, none⟩) q2.out _).trans (((cell_far (p := ⟨q1, _, none⟩) q2.out _).trans (((cell_far (p := ⟨q1, _, none⟩) q2.out _).trans (((cell_far (p := ⟨q1, _, none⟩) q2.out _).trans (((cell_far (p := ⟨q1, _, none⟩) q2.out _).trans (hHeld.2.2.2.2.2.2))))))))))))))⟩ (fun hHeld => ?_); clear hK K; refine pure_ (i := 11) (N := some 12) (v := ?_) (a' := ?_) #[true, true, true, true, true, true, true, true, true, true, true, true] rfl rfl (any_of HT_.out (by kernel_rfl)) (fun _ _ _ h => h) (Or.inl ⟨by rfl, ?_⟩) ?_ ?_; rotate_left
           · intro w'
             go_simp
             with_reducible rfl
           rotate_left
           · exact APq
           refine done_ (done_of HT_.out (by kernel_rfl)) ?_; have hnb59 := qf.out; have hnc59 := q2.out; obtain ⟨_, _, _, _, _, _, _, _, _, _, _, _, _, _⟩ := W7q q5
           try go_wp2_with (first | ((with_reducible refine gate_callee (f := 30) rfl ?_); refine goesL_ (some 78) rfl rfl Try.func30 (by kernel_rfl) rfl #[.agg #[.bool qh, .int .i64 qi, .int .u64 qk, .int .u64 ql, .int .u64 qt, .int .u64 qu, .bool qv], .int .i64 a3] rfl LMq ?_; (with_reducible refine (rnd_Round.calls qh qi qk ql qt qu qv a3 q0o q0p _ A41.out).mono ?_); rintro e w61 ⟨rfl, hb⟩; refine ⟨_, rfl, ?_⟩; replace q0 := Aside0.mk (blk_below (g := q3) (o := .cells #[.bool q6, .int .i64 q8, .int .u64 q9, .int .u64 qa, .int .u64 qb, .int .u64 qc, .bool qd] 61 (0, 0)) (by (with_reducible repeat (first | refine blk_drewN ?_ _ | refine blk_drew ?_ | refine blk_alloc ?_ _)); refine blk_far ?_ q2.out _; refine blk_far ?_ q2.out _; refine blk_far ?_ q2.out _; refine blk_far ?_ q2.out _; refine blk_far ?_ q2.out _; refine blk_far ?_ q2.out _; refine blk_far ?_ q2.out _; (with_reducible repeat (first | refine blk_drewN ?_ _ | refine blk_drew ?_ | refine blk_alloc ?_ _)); exact q0.out) hb); replace q5 := Aside0.mk (blk_below (g := q1) (o := .cells #[.bool qh, .int .i64 qi, .int .u64 qk, .int .u64 ql, .int .u64 qt, .int .u64 qu, .bool qv] 61 (0, 0)) (by (with_reducible repeat (first | refine blk_drewN ?_ _ | refine blk_drew ?_ | refine blk_alloc ?_ _)); refine blk_put (cs := #[.bool qh, .int .i64 qi, .int .u64 qk, .int .u64 ql, .int .u64 qt, .int .u64 qu, .bool false]) ?_ 6 _ rfl; refine blk_put (cs := #[.bool qh, .int .i64 qi, .int .u64 qk, .int .u64 ql, .int .u64 qt, .int .u64 0, .bool false]) ?_ 5 _ rfl; refine blk_put (cs := #[.bool qh, .int .i64 qi, .int .u64 qk, .int .u64 ql, .int .u64 0, .int .u64 0, .bool false]) ?_ 4 _ rfl; refine blk_put (cs := #[.bool qh, .int .i64 qi, .int .u64 qk, .int .u64 0, .int .u64 0, .int .u64 0, .bool false]) ?_ 3 _ rfl; refine blk_put (cs := #[.bool qh, .int .i64 qi, .int .u64 0, .int .u64 0, .int .u64 0, .int .u64 0, .bool false]) ?_ 2 _ rfl; refine blk_put (cs := #[.bool qh, .int .i64 0, .int .u64 0, .int .u64 0, .int .u64 0, .int .u64 0, .bool false]) ?_ 1 _ rfl; refine blk_put (cs := #[.bool false, .int .i64 0, .int .u64 0, .int .u64 0, .int .u64 0, .int .u64 0, .bool false]) ?_ 0 _ rfl; (with_reducible repeat (first | refine blk_drewN ?_ _ | refine blk_drew ?_ | refine blk_alloc ?_ _)); exact q5.out) hb); replace HB := Aside0.mk (below_step (kHt HB q04 qx) hb); (try clear hb); (try clear hb2); (try clear hk); (try clear hi)))
           go_ret2
           exact ⟨by first | rfl | (simp [errW_none, errW_some] <;> rfl) | (simp [*, errW_none, errW_some] <;> rfl), kHt HB q04 qx⟩
         have H1 : (some (9221120237041090560, 1)) = some (r1, r2) := by rw [if_neg (show ¬ (some q316).isNone = true by simp)] at H; exact H
         clear H; have H := H1; clear H1
         try simp only [errW_none, errW_some]
         simp only [Option.some.injEq, Prod.mk.injEq] at H
         obtain ⟨rfl, rfl⟩ := H
         try go_wp2_with (first | ((with_reducible refine gate_callee (f := 47) rfl ?_); refine goesL_ (some 55) rfl rfl Try.func47 (by kernel_rfl) rfl #[.int .u64 a2] rfl LMq ?_; (with_reducible refine (pat_Finite.calls a2 true _ A36.out).mono ?_); rintro e w62 ⟨rfl, hb⟩; refine ⟨_, rfl, ?_⟩; replace HB := Aside0.mk (below_step (kH HB) hb); (try clear hb); (try clear hb2); (try clear hk); (try clear hi)) | ((with_reducible refine gate_callee (f := 49) rfl ?_); refine goesL_ (some 60) rfl rfl Try.func49 (by kernel_rfl) rfl #[.int .u64 a2] rfl LMq ?_; (with_reducible refine (rnd_Of.calls a2 q6 q8 q9 qa qb qc qd none _ A38.out).mono ?_); rintro e w63 ⟨rfl, hb⟩; refine ⟨_, rfl, ?_⟩; replace HB := Aside0.mk (below_step (kH HB) hb); (try clear hb); (try clear hb2); (try clear hk); (try clear hi); (try simp only [errW_none, errW_some])) | ((with_reducible refine gate_dst (N := 11) rfl ?_); refine box_event ?hg (N := 11) ?hd (cs := #[.bool false, .int .i64 0, .int .u64 0, .int .u64 0, .int .u64 0, .int .u64 0, .bool false]) (t := 61) ?hr ?_; (case hd => rfl); (case hg => rfl); (case hr => first | (go_simp; done) | (go_simp; rfl)); intro q3 hg w64 hbox hb; have q0 := Aside0.mk (hbox); have q0r := Aside0.mk ((by rw [hg]; exact (below_size (kH HB)) : w.heap.size ≤ q3)); have q04 := Aside0.mk ((by rw [hg]; exact (below_size (kH HB)) : w.heap.size ≤ q3)); replace HB := Aside0.mk (below_step (kH HB) hb); clear hb hbox hg; obtain ⟨_, _, _, _, _, _, _, _, _, _, _, _, _, _⟩ := W7q q0))
         have n0_ : Aside0 ((((((((w64.setCell ⟨q3, 0, none⟩ (.bool q6)).setCell ⟨q3, 1, none⟩ (.int .i64 q8)).setCell ⟨q3, 2, none⟩ (.int .u64 q9)).setCell ⟨q3, 3, none⟩ (.int .u64 qa)).setCell ⟨q3, 4, none⟩ (.int .u64 qb)).setCell ⟨q3, 5, none⟩ (.int .u64 qc)).setCell ⟨q3, 6, none⟩ (.bool qd)).heap[q3]? = some (.cells #[.bool q6, .int .i64 q8, .int .u64 q9, .int .u64 qa, .int .u64 qb, .int .u64 qc, .bool qd] 61 (0, 0))) := ⟨by (with_reducible repeat (first | refine blk_drewN ?_ _ | refine blk_drew ?_ | refine blk_alloc ?_ _)); refine blk_put (cs := #[.bool q6, .int .i64 q8, .int .u64 q9, .int .u64 qa, .int .u64 qb, .int .u64 qc, .bool false]) ?_ 6 _ rfl; refine blk_put (cs := #[.bool q6, .int .i64 q8, .int .u64 q9, .int .u64 qa, .int .u64 qb, .int .u64 0, .bool false]) ?_ 5 _ rfl; refine blk_put (cs := #[.bool q6, .int .i64 q8, .int .u64 q9, .int .u64 qa, .int .u64 0, .int .u64 0, .bool false]) ?_ 4 _ rfl; refine blk_put (cs := #[.bool q6, .int .i64 q8, .int .u64 q9, .int .u64 0, .int .u64 0, .int .u64 0, .bool false]) ?_ 3 _ rfl; refine blk_put (cs := #[.bool q6, .int .i64 q8, .int .u64 0, .int .u64 0, .int .u64 0, .int .u64 0, .bool false]) ?_ 2 _ rfl; refine blk_put (cs := #[.bool q6, .int .i64 0, .int .u64 0, .int .u64 0, .int .u64 0, .int .u64 0, .bool false]) ?_ 1 _ rfl; refine blk_put (cs := #[.bool false, .int .i64 0, .int .u64 0, .int .u64 0, .int .u64 0, .int .u64 0, .bool false]) ?_ 0 _ rfl; (with_reducible repeat (first | refine blk_drewN ?_ _ | refine blk_drew ?_ | refine blk_alloc ?_ _)); exact q0.out⟩; have n1_ : Aside0 (Below w.heap.size w (((((((w64.setCell ⟨q3, 0, none⟩ (.bool q6)).setCell ⟨q3, 1, none⟩ (.int .i64 q8)).setCell ⟨q3, 2, none⟩ (.int .u64 q9)).setCell ⟨q3, 3, none⟩ (.int .u64 qa)).setCell ⟨q3, 4, none⟩ (.int .u64 qb)).setCell ⟨q3, 5, none⟩ (.int .u64 qc)).setCell ⟨q3, 6, none⟩ (.bool qd))) := ⟨kHs HB q04⟩
         (try clear q0)
         (try clear HB)
         generalize (((((((w64.setCell ⟨q3, 0, none⟩ (.bool q6)).setCell ⟨q3, 1, none⟩ (.int .i64 q8)).setCell ⟨q3, 2, none⟩ (.int .u64 q9)).setCell ⟨q3, 3, none⟩ (.int .u64 qa)).setCell ⟨q3, 4, none⟩ (.int .u64 qb)).setCell ⟨q3, 5, none⟩ (.int .u64 qc)).setCell ⟨q3, 6, none⟩ (.bool qd)) = w66 at n0_ n1_ ⊢
         have q0 := n0_; have HB := n1_; clear n0_ n1_; replace q0 := Aside0.mk (blk_drew q0.out); replace HB := Aside0.mk (below_drew1 HB.out); refine start_ (n := 12) (S := fun w' => w'.cell? ⟨q3, 0, none⟩ = some (.bool q6) ∧ w'.cell? ⟨q3, 1, none⟩ = some (.int .i64 q8) ∧ w'.cell? ⟨q3, 2, none⟩ = some (.int .u64 q9) ∧ w'.cell? ⟨q3, 3, none⟩ = some (.int .u64 qa) ∧ w'.cell? ⟨q3, 4, none⟩ = some (.int .u64 qb) ∧ w'.cell? ⟨q3, 5, none⟩ = some (.int .u64 qc) ∧ w'.cell? ⟨q3, 6, none⟩ = some (.bool qd)) (ds := []) #[false, false, false, false, false, false, false, false, false, false, false, false] (by kernel_rfl) rfl rfl ⟨bc q0 0, bc q0 1, bc q0 2, bc q0 3, bc q0 4, bc q0 5, bc q0 6⟩ (fun hHeld => ?_); refine with_tabW prod_Fma.tab13 prod_Fma.bits13 (fun HT_ HW_ => ?_)
         generalize w66.drew = w67 at q0 HB hHeld ⊢
         refine pure_ (i := 0) (N := some 66) (v := ?_) (a' := ?_) #[true, false, false, false, false, false, false, false, false, false, false, false] rfl rfl (any_of HT_.out (by kernel_rfl)) (fun _ _ _ h => h) (Or.inl ⟨by rfl, ?_⟩) ?_ ?_; rotate_left
         · intro w'
           go_simp
           with_reducible rfl
         rotate_left
         · exact APq
         refine pure_ (i := 1) (N := some 67) (v := ?_) (a' := ?_) #[true, true, false, false, false, false, false, false, false, false, false, false] rfl rfl (any_of HT_.out (by kernel_rfl)) (fun _ _ _ h => h) (Or.inl ⟨by rfl, ?_⟩) ?_ ?_; rotate_left
         · intro w'
           go_simp
           with_reducible rfl
         rotate_left
         · exact APq
         refine pure_ (i := 4) (N := some 70) (v := ?_) (a' := ?_) #[true, true, false, false, true, false, false, false, false, false, false, false] rfl rfl (any_of HT_.out (by kernel_rfl)) (fun _ _ _ h => h) (Or.inl ⟨by rfl, ?_⟩) ?_ ?_; rotate_left
         · intro w'
           go_simp
           with_reducible rfl
         rotate_left
         · exact APq
         refine take_ (i := 3) (N := some 69) (v := ?_) (a' := ?_) #[true, true, false, true, true, false, false, false, false, false, false, false] rfl rfl (take_ofW HT_.out HW_.out (by kernel_rfl)) (fun _ _ _ h => h) (Or.inl ⟨by rfl, ?_⟩) hHeld ?_ ?_; rotate_left
         · rintro w' ⟨s0, s1, s2, s3, s4, s5, s6⟩
           go_simp
           with_reducible rfl
         rotate_left
         · exact APq
         refine join_ (σ := Nat) 2 #[true, true, true, true, true, true, true, true, true, true, false, false] (fun s_ => [(68, .agg #[.bool qm, .int .i64 qn, .int .u64 qo, .int .u64 qp, .int .u64 qq, .int .u64 qr, .bool qs]), (71, .tuple #[.agg #[.bool qh, .int .i64 qi, .int .u64 qk, .int .u64 ql, .int .u64 qt, .int .u64 qu, .bool qv], errW (some q316)]), (13, .pointer (some ⟨s_, 0, none⟩)), (65, .tuple #[.agg #[.bool qh, .int .i64 qi, .int .u64 qk, .int .u64 ql, .int .u64 qt, .int .u64 qu, .bool qv], errW (some q316)]), (72, .agg #[.bool qh, .int .i64 qi, .int .u64 qk, .int .u64 ql, .int .u64 qt, .int .u64 qu, .bool qv]), (73, errW (some q316))]) (fun s_ w' => (w'.cell? ⟨q3, 0, none⟩ = some (.bool q6) ∧ w'.cell? ⟨q3, 1, none⟩ = some (.int .i64 q8) ∧ w'.cell? ⟨q3, 2, none⟩ = some (.int .u64 q9) ∧ w'.cell? ⟨q3, 3, none⟩ = some (.int .u64 qa) ∧ w'.cell? ⟨q3, 4, none⟩ = some (.int .u64 qb) ∧ w'.cell? ⟨q3, 5, none⟩ = some (.int .u64 qc) ∧ w'.cell? ⟨q3, 6, none⟩ = some (.bool qd)) ∧ (w'.heap[q3]? = some (.cells #[.bool q6, .int .i64 q8, .int .u64 q9, .int .u64 qa, .int .u64 qb, .int .u64 qc, .bool qd] 61 (0, 0))) ∧ (w'.heap[s_]? = some (.cells #[.bool false, .int .i64 0, .int .u64 0, .int .u64 0, .int .u64 0, .int .u64 0, .bool false] 61 (0, 0))) ∧ (w.heap.size ≤ s_) ∧ (w.heap.size ≤ s_) ∧ (q3 ≠ s_) ∧ (s_ ≠ q3) ∧ (Below w.heap.size w w')) ?_ ?_; rotate_left
         · intro hCont
           refine two_ (i := 2) (j := 9) (Ni := some 68) (Nj := some 13) #[true, true, true, true, true, false, false, false, false, false, false, false] #[true, true, false, true, true, false, false, false, false, true, false, false] rfl rfl rfl rfl (two_of HT_.out (by kernel_rfl)) (by decide) (by decide) (fun K hK => ?_) (fun K hK => ?_)
           · skip
             refine goes_ Try.func51 (by kernel_rfl) rfl #[.int .u64 a0, .int .u64 a1] (by rfl) rfl rfl LMq ?_
             with_reducible refine (prod_exact.calls a0 a1 qm qn qo qp qq qr qs _ A39.out).mono ?_
             rintro e w68 ⟨rfl, hb⟩; refine ⟨_, rfl, ?_⟩; replace q0 := Aside0.mk (blk_below q0.out hb); replace HB := Aside0.mk (below_step HB.out hb)
             (try clear hb)
             (try clear hb2)
             (try clear hk)
             (try clear hi)
             refine hK.out _ _ ⟨bc q0 0, bc q0 1, bc q0 2, bc q0 3, bc q0 4, bc q0 5, bc q0 6⟩ (fun hHeld => ?_); clear hK K; refine norm_ (a' := ?_) ?_ ?_; rotate_left
             · show Act.put _ (some 68) _ = _
               exact APq
             refine two_ (i := 5) (j := 9) (Ni := some 71) (Nj := some 13) #[true, true, true, true, true, true, false, false, false, false, false, false] #[true, true, true, true, true, false, false, false, false, true, false, false] rfl rfl rfl rfl (two_of HT_.out (by kernel_rfl)) (by decide) (by decide) (fun K hK => ?_) (fun K hK => ?_)
             · skip
               refine goes_ Try.func50 (by kernel_rfl) rfl #[.agg #[.bool qm, .int .i64 qn, .int .u64 qo, .int .u64 qp, .int .u64 qq, .int .u64 qr, .bool qs], .agg #[.bool q6, .int .i64 q8, .int .u64 q9, .int .u64 qa, .int .u64 qb, .int .u64 qc, .bool qd], .int .i64 a3] (by rfl) rfl rfl LMq ?_
               with_reducible refine (sums_Exact.calls q00 qm qn qo qp qq qr qs q6 q8 q9 qa qb qc qd a3 qh qi qk ql qt qu qv (some q316) _ A40.out).mono ?_
               rintro e w69 ⟨rfl, hb⟩; refine ⟨_, rfl, ?_⟩; replace q0 := Aside0.mk (blk_below q0.out hb); replace HB := Aside0.mk (below_step HB.out hb)
               (try clear hb)
               (try clear hb2)
               (try clear hk)
               (try clear hi)
               (try simp only [errW_none, errW_some])
               refine hK.out _ _ ⟨bc q0 0, bc q0 1, bc q0 2, bc q0 3, bc q0 4, bc q0 5, bc q0 6⟩ (fun hHeld => ?_); clear hK K; refine norm_ (a' := ?_) ?_ ?_; rotate_left
               · show Act.put _ (some 71) _ = _
                 exact APq
               refine pure_ (i := 6) (N := some 65) (v := ?_) (a' := ?_) #[true, true, true, true, true, true, true, false, false, false, false, false] rfl rfl (any_of HT_.out (by kernel_rfl)) (fun _ _ _ h => h) (Or.inl ⟨by rfl, ?_⟩) ?_ ?_; rotate_left
               · intro w'
                 go_simp
                 with_reducible rfl
               rotate_left
               · exact APq
               refine pure_ (i := 7) (N := some 72) (v := ?_) (a' := ?_) #[true, true, true, true, true, true, true, true, false, false, false, false] rfl rfl (any_of HT_.out (by kernel_rfl)) (fun _ _ _ h => h) (Or.inl ⟨by rfl, ?_⟩) ?_ ?_; rotate_left
               · intro w'
                 go_simp
                 with_reducible rfl
               rotate_left
               · exact APq
               refine pure_ (i := 8) (N := some 73) (v := ?_) (a' := ?_) #[true, true, true, true, true, true, true, true, true, false, false, false] rfl rfl (any_of HT_.out (by kernel_rfl)) (fun _ _ _ h => h) (Or.inl ⟨by rfl, ?_⟩) ?_ ?_; rotate_left
               · intro w'
                 go_simp
                 with_reducible rfl
               rotate_left
               · exact APq
               refine one_ (i := 9) (N := some 13) #[true, true, true, true, true, true, true, true, true, true, false, false] rfl rfl (one_of HT_.out (by kernel_rfl)) (by decide) (fun K hK => ?_)
               refine box_step ?hg (N := 13) ?hd (cs := #[.bool false, .int .i64 0, .int .u64 0, .int .u64 0, .int .u64 0, .int .u64 0, .bool false]) (t := 61) ?hr ?_; (case hd => rfl); (case hg => rfl); (case hr => first | (go_simp; done) | (go_simp; rfl))
               intro q1 hg w70 hbox hb; have q5 := Aside0.mk (hbox); have qy := gsz hg HB; have qx := gsz hg HB; replace HB := Aside0.mk (below_step HB.out hb); have q2 := gne hg q0; have qf := gen hg q0; replace q0 := Aside0.mk (blk_below q0.out hb); clear hb hbox hg; refine hK.out _ _ ⟨bc q0 0, bc q0 1, bc q0 2, bc q0 3, bc q0 4, bc q0 5, bc q0 6⟩ (fun hHeld => ?_); clear hK K; refine norm_ (a' := ?_) ?_ ?_; rotate_left
               · show Act.put _ (some 13) _ = _
                 exact APq
               exact norm_ PAq (hCont (q1) _ ⟨hHeld, q0.out, q5.out, qy.out, qx.out, q2.out, qf.out, HB.out⟩)
             skip
             refine box_step ?hg (N := 13) ?hd (cs := #[.bool false, .int .i64 0, .int .u64 0, .int .u64 0, .int .u64 0, .int .u64 0, .bool false]) (t := 61) ?hr ?_; (case hd => rfl); (case hg => rfl); (case hr => first | (go_simp; done) | (go_simp; rfl))
             intro q1 hg w69 hbox hb; have q5 := Aside0.mk (hbox); have qy := gsz hg HB; have qx := gsz hg HB; replace HB := Aside0.mk (below_step HB.out hb); have q2 := gne hg q0; have qf := gen hg q0; replace q0 := Aside0.mk (blk_below q0.out hb); clear hb hbox hg; refine hK.out _ _ ⟨bc q0 0, bc q0 1, bc q0 2, bc q0 3, bc q0 4, bc q0 5, bc q0 6⟩ (fun hHeld => ?_); clear hK K; refine norm_ (a' := ?_) ?_ ?_; rotate_left
             · show Act.put _ (some 13) _ = _
               exact APq
             refine one_ (i := 5) (N := some 71) #[true, true, true, true, true, true, false, false, false, true, false, false] rfl rfl (one_of HT_.out (by kernel_rfl)) (by decide) (fun K hK => ?_); refine goes_ Try.func50 (by kernel_rfl) rfl #[.agg #[.bool qm, .int .i64 qn, .int .u64 qo, .int .u64 qp, .int .u64 qq, .int .u64 qr, .bool qs], .agg #[.bool q6, .int .i64 q8, .int .u64 q9, .int .u64 qa, .int .u64 qb, .int .u64 qc, .bool qd], .int .i64 a3] (by rfl) rfl rfl LMq ?_
             with_reducible refine (sums_Exact.calls q00 qm qn qo qp qq qr qs q6 q8 q9 qa qb qc qd a3 qh qi qk ql qt qu qv (some q316) _ A40.out).mono ?_
             rintro e w70 ⟨rfl, hb⟩; refine ⟨_, rfl, ?_⟩; replace q0 := Aside0.mk (blk_below q0.out hb); replace q5 := Aside0.mk (blk_below q5.out hb); replace HB := Aside0.mk (below_step HB.out hb)
             (try clear hb)
             (try clear hb2)
             (try clear hk)
             (try clear hi)
             (try simp only [errW_none, errW_some])
             refine hK.out _ _ ⟨bc q0 0, bc q0 1, bc q0 2, bc q0 3, bc q0 4, bc q0 5, bc q0 6⟩ (fun hHeld => ?_); clear hK K; refine norm_ (a' := ?_) ?_ ?_; rotate_left
             · show Act.put _ (some 71) _ = _
               exact APq
             refine pure_ (i := 6) (N := some 65) (v := ?_) (a' := ?_) #[true, true, true, true, true, true, true, false, false, true, false, false] rfl rfl (any_of HT_.out (by kernel_rfl)) (fun _ _ _ h => h) (Or.inl ⟨by rfl, ?_⟩) ?_ ?_; rotate_left
             · intro w'
               go_simp
               with_reducible rfl
             rotate_left
             · exact APq
             refine pure_ (i := 7) (N := some 72) (v := ?_) (a' := ?_) #[true, true, true, true, true, true, true, true, false, true, false, false] rfl rfl (any_of HT_.out (by kernel_rfl)) (fun _ _ _ h => h) (Or.inl ⟨by rfl, ?_⟩) ?_ ?_; rotate_left
             · intro w'
               go_simp
               with_reducible rfl
             rotate_left
             · exact APq
             refine pure_ (i := 8) (N := some 73) (v := ?_) (a' := ?_) #[true, true, true, true, true, true, true, true, true, true, false, false] rfl rfl (any_of HT_.out (by kernel_rfl)) (fun _ _ _ h => h) (Or.inl ⟨by rfl, ?_⟩) ?_ ?_; rotate_left
             · intro w'
               go_simp
               with_reducible rfl
             rotate_left
             · exact APq
             exact norm_ PAq (hCont (q1) _ ⟨hHeld, q0.out, q5.out, qy.out, qx.out, q2.out, qf.out, HB.out⟩)
           skip
           refine box_step ?hg (N := 13) ?hd (cs := #[.bool false, .int .i64 0, .int .u64 0, .int .u64 0, .int .u64 0, .int .u64 0, .bool false]) (t := 61) ?hr ?_; (case hd => rfl); (case hg => rfl); (case hr => first | (go_simp; done) | (go_simp; rfl))
           intro q1 hg w68 hbox hb; have q5 := Aside0.mk (hbox); have qy := gsz hg HB; have qx := gsz hg HB; replace HB := Aside0.mk (below_step HB.out hb); have q2 := gne hg q0; have qf := gen hg q0; replace q0 := Aside0.mk (blk_below q0.out hb); clear hb hbox hg; refine hK.out _ _ ⟨bc q0 0, bc q0 1, bc q0 2, bc q0 3, bc q0 4, bc q0 5, bc q0 6⟩ (fun hHeld => ?_); clear hK K; refine norm_ (a' := ?_) ?_ ?_; rotate_left
           · show Act.put _ (some 13) _ = _
             exact APq
           refine one_ (i := 2) (N := some 68) #[true, true, true, true, true, false, false, false, false, true, false, false] rfl rfl (one_of HT_.out (by kernel_rfl)) (by decide) (fun K hK => ?_); refine goes_ Try.func51 (by kernel_rfl) rfl #[.int .u64 a0, .int .u64 a1] (by rfl) rfl rfl LMq ?_
           with_reducible refine (prod_exact.calls a0 a1 qm qn qo qp qq qr qs _ A39.out).mono ?_
           rintro e w69 ⟨rfl, hb⟩; refine ⟨_, rfl, ?_⟩; replace q0 := Aside0.mk (blk_below q0.out hb); replace q5 := Aside0.mk (blk_below q5.out hb); replace HB := Aside0.mk (below_step HB.out hb)
           (try clear hb)
           (try clear hb2)
           (try clear hk)
           (try clear hi)
           refine hK.out _ _ ⟨bc q0 0, bc q0 1, bc q0 2, bc q0 3, bc q0 4, bc q0 5, bc q0 6⟩ (fun hHeld => ?_); clear hK K; refine norm_ (a' := ?_) ?_ ?_; rotate_left
           · show Act.put _ (some 68) _ = _
             exact APq
           refine one_ (i := 5) (N := some 71) #[true, true, true, true, true, true, false, false, false, true, false, false] rfl rfl (one_of HT_.out (by kernel_rfl)) (by decide) (fun K hK => ?_); refine goes_ Try.func50 (by kernel_rfl) rfl #[.agg #[.bool qm, .int .i64 qn, .int .u64 qo, .int .u64 qp, .int .u64 qq, .int .u64 qr, .bool qs], .agg #[.bool q6, .int .i64 q8, .int .u64 q9, .int .u64 qa, .int .u64 qb, .int .u64 qc, .bool qd], .int .i64 a3] (by rfl) rfl rfl LMq ?_
           with_reducible refine (sums_Exact.calls q00 qm qn qo qp qq qr qs q6 q8 q9 qa qb qc qd a3 qh qi qk ql qt qu qv (some q316) _ A40.out).mono ?_
           rintro e w70 ⟨rfl, hb⟩; refine ⟨_, rfl, ?_⟩; replace q0 := Aside0.mk (blk_below q0.out hb); replace q5 := Aside0.mk (blk_below q5.out hb); replace HB := Aside0.mk (below_step HB.out hb)
           (try clear hb)
           (try clear hb2)
           (try clear hk)
           (try clear hi)
           (try simp only [errW_none, errW_some])
           refine hK.out _ _ ⟨bc q0 0, bc q0 1, bc q0 2, bc q0 3, bc q0 4, bc q0 5, bc q0 6⟩ (fun hHeld => ?_); clear hK K; refine norm_ (a' := ?_) ?_ ?_; rotate_left
           · show Act.put _ (some 71) _ = _
             exact APq
           refine pure_ (i := 6) (N := some 65) (v := ?_) (a' := ?_) #[true, true, true, true, true, true, true, false, false, true, false, false] rfl rfl (any_of HT_.out (by kernel_rfl)) (fun _ _ _ h => h) (Or.inl ⟨by rfl, ?_⟩) ?_ ?_; rotate_left
           · intro w'
             go_simp
             with_reducible rfl
           rotate_left
           · exact APq
           refine pure_ (i := 7) (N := some 72) (v := ?_) (a' := ?_) #[true, true, true, true, true, true, true, true, false, true, false, false] rfl rfl (any_of HT_.out (by kernel_rfl)) (fun _ _ _ h => h) (Or.inl ⟨by rfl, ?_⟩) ?_ ?_; rotate_left
           · intro w'
             go_simp
             with_reducible rfl
           rotate_left
           · exact APq
           refine pure_ (i := 8) (N := some 73) (v := ?_) (a' := ?_) #[true, true, true, true, true, true, true, true, true, true, false, false] rfl rfl (any_of HT_.out (by kernel_rfl)) (fun _ _ _ h => h) (Or.inl ⟨by rfl, ?_⟩) ?_ ?_; rotate_left
           · intro w'
             go_simp
             with_reducible rfl
           rotate_left
           · exact APq
           exact norm_ PAq (hCont (q1) _ ⟨hHeld, q0.out, q5.out, qy.out, qx.out, q2.out, qf.out, HB.out⟩)
         rintro q1 w71 ⟨hS_, h0_, h1_, h2_, h3_, h4_, h5_, h6_⟩; replace q0 : Aside0 (w71.heap[q3]? = some (.cells #[.bool q6, .int .i64 q8, .int .u64 q9, .int .u64 qa, .int .u64 qb, .int .u64 qc, .bool qd] 61 (0, 0))) := ⟨h0_⟩; have q5 : Aside0 (w71.heap[q1]? = some (.cells #[.bool false, .int .i64 0, .int .u64 0, .int .u64 0, .int .u64 0, .int .u64 0, .bool false] 61 (0, 0))) := ⟨h1_⟩; have qy : Aside0 (w.heap.size ≤ q1) := ⟨h2_⟩; have qx : Aside0 (w.heap.size ≤ q1) := ⟨h3_⟩; have q2 : Aside0 (q3 ≠ q1) := ⟨h4_⟩; have qf : Aside0 (q1 ≠ q3) := ⟨h5_⟩; replace HB : Aside0 (Below w.heap.size w w71) := ⟨h6_⟩; clear h0_ h1_ h2_ h3_ h4_ h5_ h6_; have hHeld : w71.cell? ⟨q3, 0, none⟩ = some (.bool q6) ∧ w71.cell? ⟨q3, 1, none⟩ = some (.int .i64 q8) ∧ w71.cell? ⟨q3, 2, none⟩ = some (.int .u64 q9) ∧ w71.cell? ⟨q3, 3, none⟩ = some (.int .u64 qa) ∧ w71.cell? ⟨q3, 4, none⟩ = some (.int .u64 qb) ∧ w71.cell? ⟨q3, 5, none⟩ = some (.int .u64 qc) ∧ w71.cell? ⟨q3, 6, none⟩ = some (.bool qd) := hS_; refine norm_ (a' := ?_) ?_ ?_; rotate_left
         · simp only [putAll, Act.put, List.setIfInBounds_toArray, List.set_cons_zero, List.set_cons_succ]
           rfl
         refine one_ (i := 10) (N := none) #[true, true, true, true, true, true, true, true, true, true, true, false] rfl rfl (one_of HT_.out (by kernel_rfl)) (by decide) (fun K hK => ?_); have hs72 : w71.cell? ⟨q1, 0, none⟩ = some (.bool false) := bc q5 0; have hfs72 := blk_frozen q5.out 0; have hns72_0 := q2.out; have hms72_0 := qf.out; have hs73 : w71.cell? ⟨q1, 1, none⟩ = some (.int .i64 0) := bc q5 1; have hfs73 := blk_frozen q5.out 1; have hns73_0 := q2.out; have hms73_0 := qf.out; have hs74 : w71.cell? ⟨q1, 2, none⟩ = some (.int .u64 0) := bc q5 2; have hfs74 := blk_frozen q5.out 2; have hns74_0 := q2.out; have hms74_0 := qf.out; have hs75 : w71.cell? ⟨q1, 3, none⟩ = some (.int .u64 0) := bc q5 3; have hfs75 := blk_frozen q5.out 3; have hns75_0 := q2.out; have hms75_0 := qf.out; have hs76 : w71.cell? ⟨q1, 4, none⟩ = some (.int .u64 0) := bc q5 4; have hfs76 := blk_frozen q5.out 4; have hns76_0 := q2.out; have hms76_0 := qf.out; have hs77 : w71.cell? ⟨q1, 5, none⟩ = some (.int .u64 0) := bc q5 5; have hfs77 := blk_frozen q5.out 5; have hns77_0 := q2.out; have hms77_0 := qf.out; have hs78 : w71.cell? ⟨q1, 6, none⟩ = some (.bool false) := bc q5 6; have hfs78 := blk_frozen q5.out 6; have hns78_0 := q2.out; have hms78_0 := qf.out; refine skip_ (w1 := ?_) (by rfl) rfl ?_ ?_; rotate_left
         · go_simp
           rfl
         refine hK.out _ _ ⟨((cell_far (p := ⟨q1, _, none⟩) q2.out _).trans (((cell_far (p := ⟨q1, _, none⟩) q2.out _).trans (((cell_far (p := ⟨q1, _, none⟩) q2.out _).trans (((cell_far (p := ⟨q1, _, none⟩) q2.out _).trans (((cell_far (p := ⟨q1, _, none⟩) q2.out _).trans (((cell_far (p := ⟨q1, _, none⟩) q2.out _).trans (((cell_far (p := ⟨q1, _, none⟩) q2.out _).trans (hHeld.1)))))))))))))), ((cell_far (p := ⟨q1, _, none⟩) q2.out _).trans (((cell_far (p := ⟨q1, _, none⟩) q2.out _).trans (((cell_far (p := ⟨q1, _, none⟩) q2.out _).trans (((cell_far (p := ⟨q1, _, none⟩) q2.out _).trans (((cell_far (p := ⟨q1, _, none⟩) q2.out _).trans (((cell_far (p := ⟨q1, _, none⟩) q2.out _).trans (((cell_far (p := ⟨q1, _, none⟩) q2.out _).trans (hHeld.2.1)))))))))))))), ((cell_far (p := ⟨q1, _, none⟩) q2.out _).trans (((cell_far (p := ⟨q1, _, none⟩) q2.out _).trans (((cell_far (p := ⟨q1, _, none⟩) q2.out _).trans (((cell_far (p := ⟨q1, _, none⟩) q2.out _).trans (((cell_far (p := ⟨q1, _, none⟩) q2.out _).trans (((cell_far (p := ⟨q1, _, none⟩) q2.out _).trans (((cell_far (p := ⟨q1, _, none⟩) q2.out _).trans (hHeld.2.2.1)))))))))))))), ((cell_far (p := ⟨q1, _, none⟩) q2.out _).trans (((cell_far (p := ⟨q1, _, none⟩) q2.out _).trans (((cell_far (p := ⟨q1, _, none⟩) q2.out _).trans (((cell_far (p := ⟨q1, _, none⟩) q2.out _).trans (((cell_far (p := ⟨q1, _, none⟩) q2.out _).trans (((cell_far (p := ⟨q1, _, none⟩) q2.out _).trans (((cell_far (p := ⟨q1, _, none⟩) q2.out _).trans (hHeld.2.2.2.1)))))))))))))), ((cell_far (p := ⟨q1, _, none⟩) q2.out _).trans (((cell_far (p := ⟨q1, _, none⟩) q2.out _).trans (((cell_far (p := ⟨q1, _, none⟩) q2.out _).trans (((cell_far (p := ⟨q1, _, none⟩) q2.out _).trans (((cell_far (p := ⟨q1, _, none⟩) q2.out _).trans (((cell_far (p := ⟨q1, _, none⟩) q2.out _).trans (((cell_far (p := ⟨q1, _, none⟩) q2.out _).trans (hHeld.2.2.2.2.1)))))))))))))), ((cell_far (p := ⟨q1, _, none⟩) q2.out _).trans (((cell_far (p := ⟨q1, _, none⟩) q2.out _).trans (((cell_far (p := ⟨q1, _, none⟩) q2.out _).trans (((cell_far (p := ⟨q1, _, none⟩) q2.out _).trans (((cell_far (p := ⟨q1, _, none⟩) q2.out _).trans (((cell_far (p := ⟨q1, _, none⟩) q2.out _).trans (((cell_far (p := ⟨q1, _, none⟩) q2.out _).trans (hHeld.2.2.2.2.2.1)))))))))))))), ((cell_far (p := ⟨q1, _, none⟩) q2.out _).trans (((cell_far (p := ⟨q1, _, none⟩) q2.out _).trans (((cell_far (p := ⟨q1, _, none⟩) q2.out _).trans (((cell_far (p := ⟨q1, _, none⟩) q2.out _).trans (((cell_far (p := ⟨q1, _, none⟩) q2.out _).trans (((cell_far (p := ⟨q1, _, none⟩) q2.out _).trans (((cell_far (p := ⟨q1, _, none⟩) q2.out _).trans (hHeld.2.2.2.2.2.2))))))))))))))⟩ (fun hHeld => ?_); clear hK K; refine pure_ (i := 11) (N := some 12) (v := ?_) (a' := ?_) #[true, true, true, true, true, true, true, true, true, true, true, true] rfl rfl (any_of HT_.out (by kernel_rfl)) (fun _ _ _ h => h) (Or.inl ⟨by rfl, ?_⟩) ?_ ?_; rotate_left
         · intro w'
           go_simp
           with_reducible rfl
         rotate_left
         · exact APq
         refine done_ (done_of HT_.out (by kernel_rfl)) ?_
         try go_wp2
         go_ret2
         exact ⟨by first | rfl | (simp [errW_none, errW_some] <;> rfl) | (simp [*, errW_none, errW_some] <;> rfl), kHt HB q04 qx⟩
       have H1 : (some (9221120237041090560, 1)) = some (r1, r2) := by rw [if_neg (show ¬ (some q299).isNone = true by simp)] at H; exact H
       clear H; have H := H1; clear H1
       try simp only [errW_none, errW_some]
       simp only [Option.some.injEq, Prod.mk.injEq] at H
       obtain ⟨rfl, rfl⟩ := H
       go_wp2_with (first | ((with_reducible refine gate_callee (f := 47) rfl ?_); refine goesL_ (some 55) rfl rfl Try.func47 (by kernel_rfl) rfl #[.int .u64 a2] rfl LMq ?_; (with_reducible refine (pat_Finite.calls a2 true _ A36.out).mono ?_); rintro e w79 ⟨rfl, hb⟩; refine ⟨_, rfl, ?_⟩; replace HB := Aside0.mk (below_step (kH HB) hb); (try clear hb); (try clear hb2); (try clear hk); (try clear hi)) | ((with_reducible refine gate_callee (f := 49) rfl ?_); refine goesL_ (some 60) rfl rfl Try.func49 (by kernel_rfl) rfl #[.int .u64 a2] rfl LMq ?_; (with_reducible refine (rnd_Of.calls a2 q6 q8 q9 qa qb qc qd (some q299) _ A38.out).mono ?_); rintro e w80 ⟨rfl, hb⟩; refine ⟨_, rfl, ?_⟩; replace HB := Aside0.mk (below_step (kH HB) hb); (try clear hb); (try clear hb2); (try clear hk); (try clear hi); (try simp only [errW_none, errW_some])) | ((with_reducible refine gate_dst (N := 11) rfl ?_); refine box_event ?hg (N := 11) ?hd (cs := #[.bool false, .int .i64 0, .int .u64 0, .int .u64 0, .int .u64 0, .int .u64 0, .bool false]) (t := 61) ?hr ?_; (case hd => rfl); (case hg => rfl); (case hr => first | (go_simp; done) | (go_simp; rfl)); intro q3 hg w81 hbox hb; have q0 := Aside0.mk (hbox); have q0r := Aside0.mk ((by rw [hg]; exact (below_size (kH HB)) : w.heap.size ≤ q3)); have q04 := Aside0.mk ((by rw [hg]; exact (below_size (kH HB)) : w.heap.size ≤ q3)); replace HB := Aside0.mk (below_step (kH HB) hb); clear hb hbox hg; obtain ⟨_, _, _, _, _, _, _, _, _, _, _, _, _, _⟩ := W7q q0))
       go_ret2
       exact ⟨by first | rfl | (simp [errW_none, errW_some] <;> rfl) | (simp [*, errW_none, errW_some] <;> rfl), kHs HB q04⟩
     replace c37 := Bool.eq_false_iff.mpr c37; subst c37
     have H1 : (some (a2, 0)) = some (r1, r2) := by rw [if_neg (show ¬ (false = true) by decide)] at H; exact H
     clear H; have H := H1; clear H1
     simp only [Option.some.injEq, Prod.mk.injEq] at H
     obtain ⟨rfl, rfl⟩ := H
     go_wp2_with (first | ((with_reducible refine gate_callee (f := 47) rfl ?_); refine goesL_ (some 55) rfl rfl Try.func47 (by kernel_rfl) rfl #[.int .u64 a2] rfl LMq ?_; (with_reducible refine (pat_Finite.calls a2 false _ A36.out).mono ?_); rintro e w83 ⟨rfl, hb⟩; refine ⟨_, rfl, ?_⟩; replace HB := Aside0.mk (below_step (kH HB) hb); (try clear hb); (try clear hb2); (try clear hk); (try clear hi)))
     go_ret2
     exact ⟨by first | rfl | (simp [errW_none, errW_some] <;> rfl) | (simp [*, errW_none, errW_some] <;> rfl), kH HB⟩
end Go.Proofs.Ytbgefpeicmbgiaa.X
