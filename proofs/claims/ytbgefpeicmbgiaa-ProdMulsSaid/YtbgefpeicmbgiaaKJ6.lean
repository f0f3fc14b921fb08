import Derived.Test.YtbgefpeicmbgiaaKJ4
import Derived.Test.YtbgefpeicmbgiaaKJXprodexact
section
namespace Go.Proofs.Ytbgefpeicmbgiaa.X
open Go.RowKit Go.Proofs.YtbgefpeicmbgiaaW.PrintWords Go.Proofs.YtbgefpeicmbgiaaW.PrintLast Go.Proofs.YtbgefpeicmbgiaaW.PrintMore
attribute [local go_sem] max2_int min2_int max_two min_two max_three min_three max_four min_four   
set_option linter.unusedVariables false
set_option linter.unusedSimpArgs false
mutual
def prod_Mul.j0 : Nat → Int → Int → Int → Bool → Option (Int × Int)
 | 0, _, _, _, _ => none
 | k + 1, x0, x1, x2, x8 => if x8 = true then ((prod_loud.f k (([x0, x1] : List Int))).bind fun q4 => (some (9221120237041090560, q4))) else ((prod_nothing.f x0 x1).bind fun q6 => (if q6 = true then (some (9221120237041090560, 1)) else ((pat_Finite.f x0).bind fun q3 => (if q3 = true then ((pat_Finite.f x1).bind fun q0 => (prod_Mul.j1 k x0 x1 x2 (!q0))) else (prod_Mul.j1 k x0 x1 x2 true)))))
def prod_Mul.j1 : Nat → Int → Int → Int → Bool → Option (Int × Int)
 | 0, _, _, _, _ => none
 | k + 1, x0, x1, x2, x23 => if x23 = true then ((prod_sign.f x0 x1).bind fun q7 => (some (Go.bits .or .u64 9218868437227405312 q7, 0))) else ((prod_exact.f x0 x1).bind fun q1 => ((rnd_Round.f q1.1 q1.2.1 q1.2.2.1 q1.2.2.2.1 q1.2.2.2.2.1 q1.2.2.2.2.2.1 q1.2.2.2.2.2.2 x2).bind fun q5 => (some (q5.1, q5.2))))
end
def prod_Mul.f (k : Nat) (a0 : Int) (a1 : Int) (a2 : Int) : Option (Int × Int) := (pat_IsNaN.f a0).bind fun q8 => (if q8 = true then (prod_Mul.j0 k a0 a1 a2 true) else ((pat_IsNaN.f a1).bind fun q2 => (prod_Mul.j0 k a0 a1 a2 q2)))
theorem prod_Mul.mono_l : ∀ k, (∀ y0 y1 y2 y3, LeO (prod_Mul.j0 k y0 y1 y2 y3) (prod_Mul.j0 (k + 1) y0 y1 y2 y3)) ∧ (∀ y0 y1 y2 y3, LeO (prod_Mul.j1 k y0 y1 y2 y3) (prod_Mul.j1 (k + 1) y0 y1 y2 y3))
 | 0 => ⟨fun _ _ _ _ r h => by simp [prod_Mul.j0] at h, fun _ _ _ _ r h => by simp [prod_Mul.j1] at h⟩
 | k + 1 => by
  obtain ⟨ih0, ih1⟩ := prod_Mul.mono_l k; refine ⟨?_, ?_⟩
  · intro y0 y1 y2 y3
    unfold prod_Mul.j0
    repeat' first
    | (with_reducible exact ih0 _ _ _ _)
    | (with_reducible exact ih1 _ _ _ _)
    | (with_reducible exact prod_loud.mono _ _)
    | (with_reducible exact LeO.refl _)
    | (with_reducible exact LeO.none _)
    | (with_reducible refine LeO.ite ?_ ?_)
    | (with_reducible refine LeO.bind ?_ (fun _ => ?_))
    | exact ih0 _ _ _ _
    | exact ih1 _ _ _ _
    | exact prod_loud.mono _ _
    | exact LeO.none _
    | refine LeO.ite ?_ ?_
    | refine LeO.bind ?_ (fun _ => ?_)
  intro y0 y1 y2 y3
  unfold prod_Mul.j1
  repeat' first
  | (with_reducible exact ih0 _ _ _ _)
  | (with_reducible exact ih1 _ _ _ _)
  | (with_reducible exact prod_loud.mono _ _)
  | (with_reducible exact LeO.refl _)
  | (with_reducible exact LeO.none _)
  | (with_reducible refine LeO.ite ?_ ?_)
  | (with_reducible refine LeO.bind ?_ (fun _ => ?_))
  | exact ih0 _ _ _ _
  | exact ih1 _ _ _ _
  | exact prod_loud.mono _ _
  | exact LeO.none _
  | refine LeO.ite ?_ ?_
  | refine LeO.bind ?_ (fun _ => ?_)
theorem prod_Mul.mono : ∀ a0 a1 a2 k, LeO (prod_Mul.f k a0 a1 a2) (prod_Mul.f (k + 1) a0 a1 a2) := by
 intro a0 a1 a2 k; obtain ⟨ih0, ih1⟩ := prod_Mul.mono_l k
 unfold prod_Mul.f
 repeat' first
  | (with_reducible exact ih0 _ _ _ _)
  | (with_reducible exact ih1 _ _ _ _)
  | (with_reducible exact prod_loud.mono _ _)
  | (with_reducible exact LeO.refl _)
  | (with_reducible exact LeO.none _)
  | (with_reducible refine LeO.ite ?_ ?_)
  | (with_reducible refine LeO.bind ?_ (fun _ => ?_))
  | exact ih0 _ _ _ _
  | exact ih1 _ _ _ _
  | exact prod_loud.mono _ _
  | exact LeO.none _
  | refine LeO.ite ?_ ?_
  | refine LeO.bind ?_ (fun _ => ?_)
set_option maxHeartbeats 8000000 in
set_option maxRecDepth 100000 in
theorem prod_Mul.calls (k : Nat) (a0 : Int) (a1 : Int) (a2 : Int) (r1 : Int) (r2 : Int) (w : World) (h : prod_Mul.f k a0 a1 a2 = some (r1, r2)) :
 Calls Try.prog 26 #[.int .u64 a0, .int .u64 a1, .int .i64 a2] w fun e w' => e = .returned (.tuple #[.int .u64 r1, .int .u8 r2]) ∧ Below w.heap.size w w' := by
 have HB := Aside0.mk (Below.refl w.heap.size w); have H : ((pat_IsNaN.f a0).bind fun q8 => (if q8 = true then (prod_Mul.j0 k a0 a1 a2 true) else ((pat_IsNaN.f a1).bind fun q2 => (prod_Mul.j0 k a0 a1 a2 q2)))) = some (r1, r2) := h; clear h; have HC4 := Aside0.mk H; clear H
 go_enter Try.func26, Try.ntmps26
 go_upto_region 1 with (fail)
 go_cut [8] (fun v8 wc => ∃ (kq : Nat) (qa : Bool), v8 = .bool qa ∧ Aside0 (prod_Mul.j0 kq a0 a1 a2 qa = some (r1, r2)) ∧ Aside0 (kq ≤ k) ∧ Aside0 (Below w.heap.size w wc))
 case first =>
  have H := HC4.out; clear HC4; replace H := Option.bind_eq_some_iff.mp H; obtain ⟨q8, A50, H⟩ := H; replace H : (if q8 = true then (prod_Mul.j0 k a0 a1 a2 true) else ((pat_IsNaN.f a1).bind fun q2 => (prod_Mul.j0 k a0 a1 a2 q2))) = some (r1, r2) := H; have A5 := Aside0.mk A50; clear A50
  by_cases c6 : q8 = true
  · subst c6
    have H1 : (prod_Mul.j0 k a0 a1 a2 true) = some (r1, r2) := by rw [if_pos rfl] at H; exact H
    clear H; have H := H1; clear H1; have H' := Aside0.mk H; clear H
    go_wp2_with (first | ((with_reducible refine gate_callee (f := 45) rfl ?_); refine goesL_ (some 10) rfl rfl Try.func45 (by kernel_rfl) rfl #[.int .u64 a0] rfl LMq ?_; (with_reducible refine (pat_IsNaN.calls a0 true _ A5.out).mono ?_); rintro e w7 ⟨rfl, hb⟩; refine ⟨_, rfl, ?_⟩; replace HB := Aside0.mk (below_step (kH HB) hb); (try clear hb); (try clear hb2); (try clear hk); (try clear hi)))
    go_meet
    case rel => exact ⟨_, (true), RSq, (by first | exact H' | (subst_vars; exact H')), ⟨by first | omega | exact Nat.le_refl _⟩, ⟨kH HB⟩⟩
  replace c6 := Bool.eq_false_iff.mpr c6; subst c6
  have H1 : ((pat_IsNaN.f a1).bind fun q2 => (prod_Mul.j0 k a0 a1 a2 q2)) = some (r1, r2) := by rw [if_neg (show ¬ (false = true) by decide)] at H; exact H
  clear H; have H := H1; clear H1; replace H := Option.bind_eq_some_iff.mp H; obtain ⟨q2, A80, H⟩ := H; replace H : (prod_Mul.j0 k a0 a1 a2 q2) = some (r1, r2) := H; have A8 := Aside0.mk A80; clear A80; have H' := Aside0.mk H; clear H
  go_wp2_with (first | ((with_reducible refine gate_callee (f := 45) rfl ?_); refine goesL_ (some 10) rfl rfl Try.func45 (by kernel_rfl) rfl #[.int .u64 a0] rfl LMq ?_; (with_reducible refine (pat_IsNaN.calls a0 false _ A5.out).mono ?_); rintro e w9 ⟨rfl, hb⟩; refine ⟨_, rfl, ?_⟩; replace HB := Aside0.mk (below_step (kH HB) hb); (try clear hb); (try clear hb2); (try clear hk); (try clear hi)) | (go_at_call 45; (with_reducible refine (pat_IsNaN.calls a1 q2 _ A8.out).mono ?_); rintro e w10 ⟨rfl, hb⟩; replace HB := Aside0.mk (below_step (kH HB) hb); (try clear hb); (try clear hb2); (try clear hk); (try clear hi)))
  go_meet
  case rel => exact ⟨_, (q2), RSq, (by first | exact H' | (subst_vars; exact H')), ⟨by first | omega | exact Nat.le_refl _⟩, ⟨kH HB⟩⟩
 case rest =>
  clear HC4; (try clear c2); (try clear p2); (try clear c4); (try clear c6); (try clear p6); obtain ⟨kq, qa, rfl, HA, HJ3, HB⟩ := hcut
  cases kq with
  | zero => exact absurd HA.out (by simp [prod_Mul.j0])
  | succ kj3 =>
   have H := HA.out; clear HA
   simp only [prod_Mul.j0] at H
   by_cases c11 : qa = true
   · subst c11
     have H1 : ((prod_loud.f kj3 (([a0, a1] : List Int))).bind fun q4 => (some (9221120237041090560, q4))) = some (r1, r2) := by rw [if_pos rfl] at H; exact H
     clear H; have H := H1; clear H1; obtain ⟨y323, hy323⟩ : ∃ y_ : List Int, y_ = (([a0, a1] : List Int)) := ⟨_, rfl⟩
     replace H : ((prod_loud.f kj3 y323).bind fun q4 => (some (9221120237041090560, q4))) = some (r1, r2) := by first | (rw [hy323]; with_reducible exact H) | (have H2_ := (Option.bind_some _ _).symm.trans H; rw [hy323]; with_reducible exact H2_) | (have H2_ := (Option.bind_some _ _).symm.trans H; with_reducible exact H2_) | with_reducible exact H | (rw [hy323]; exact H) | exact H
     have Ny323 := Aside0.mk hy323; clear hy323; replace H := Option.bind_eq_some_iff.mp H; obtain ⟨q4, qk, H⟩ := H; replace H : (some (9221120237041090560, q4)) = some (r1, r2) := H; have A12 := Aside0.mk qk; clear qk
     simp only [Option.some.injEq, Prod.mk.injEq] at H
     obtain ⟨rfl, rfl⟩ := H
     go_wp2_with (first | ((with_reducible refine gate_dst (N := 17) rfl ?_); refine Kd.R_lit (Kd.int .u64) _ 22 ?hg (N := 17) ?hd (xs := ([a0, a1] : List Int)) (inner := [.int .u64 a0, .int .u64 a1]) (ok := fun _ => True) (okp := fun _ => True) ?hr ?hp (fun _ hk => hk) trivial (Below.refl _ _) (Nat.le_refl _) (by simp) ?_; (case hd => rfl); (case hg => rfl); (case hr => first | (go_simp; done) | (go_simp; rfl)); (case hp => exact (Reps.one (show Kd.M (Kd.int .u64) _ _ _ a0 [.int .u64 a0] from rfl) (Reps.one (show Kd.M (Kd.int .u64) _ _ _ a1 [.int .u64 a1] from rfl) (Reps.none _ _)))); intro v324 w13 ho14 hb hg_ hnew_; clear hg_ hnew_; (first | rw [← Ny323.out] at ho14 | (simp only [Int.reduceToNat] at ho14; rw [← Ny323.out] at ho14)); have q9 := Aside0.mk (Kd.R_lower ho14 (below_size (kH HB))); replace HB := Aside0.mk (below_step (kH HB) hb); clear hb ho14; obtain ⟨qt, qu, eo15⟩ := Kd.R_slice q9.out; subst eo15) | ((with_reducible refine gate_callee (f := 46) rfl ?_); refine goesL_ (some 18) rfl rfl Try.func46 (by kernel_rfl) rfl #[.slice qt y323.length qu] rfl LMq ?_; (with_reducible refine (prod_loud.calls kj3 _ _ y323 q4 _ ?side1 ?side2 A12.out).mono ?_); (case side1 => repeat (first | exact (Kd.R_reads' q9.out).2.2 | (with_reducible refine Kd.C_alloc ?_ _) | (with_reducible refine Kd.C_drewN ?_ _) | (with_reducible refine Kd.C_drew ?_))); (case side2 => exact (Kd.R_reads' q9.out).2.1); rintro e w16 ⟨rfl, hb⟩; refine ⟨_, rfl, ?_⟩; replace q9 := Aside0.mk (Kd.R_below (kR q9) hb); replace HB := Aside0.mk (below_step (kH HB) hb); (try clear hb); (try clear hb2); (try clear hk); (try clear hi)))
     go_ret2
     exact ⟨by first | rfl | (simp [errW_none, errW_some] <;> rfl) | (simp [*, errW_none, errW_some] <;> rfl), kH HB⟩
   replace c11 := Bool.eq_false_iff.mpr c11; subst c11
   have H1 : ((prod_nothing.f a0 a1).bind fun q6 => (if q6 = true then (some (9221120237041090560, 1)) else ((pat_Finite.f a0).bind fun q3 => (if q3 = true then ((pat_Finite.f a1).bind fun q0 => (prod_Mul.j1 kj3 a0 a1 a2 (!q0))) else (prod_Mul.j1 kj3 a0 a1 a2 true))))) = some (r1, r2) := by rw [if_neg (show ¬ (false = true) by decide)] at H; exact H
   clear H; have H := H1; clear H1; replace H := Option.bind_eq_some_iff.mp H; obtain ⟨q6, ql, H⟩ := H; replace H : (if q6 = true then (some (9221120237041090560, 1)) else ((pat_Finite.f a0).bind fun q3 => (if q3 = true then ((pat_Finite.f a1).bind fun q0 => (prod_Mul.j1 kj3 a0 a1 a2 (!q0))) else (prod_Mul.j1 kj3 a0 a1 a2 true)))) = some (r1, r2) := H; have A17 := Aside0.mk ql; clear ql
   by_cases c18 : q6 = true
   · subst c18
     have H1 : (some (9221120237041090560, 1)) = some (r1, r2) := by rw [if_pos rfl] at H; exact H
     clear H; have H := H1; clear H1
     simp only [Option.some.injEq, Prod.mk.injEq] at H
     obtain ⟨rfl, rfl⟩ := H
     go_wp2_with (first | ((with_reducible refine gate_callee (f := 44) rfl ?_); refine goesL_ (some 22) rfl rfl Try.func44 (by kernel_rfl) rfl #[.int .u64 a0, .int .u64 a1] rfl LMq ?_; (with_reducible refine (prod_nothing.calls a0 a1 true _ A17.out).mono ?_); rintro e w19 ⟨rfl, hb⟩; refine ⟨_, rfl, ?_⟩; replace HB := Aside0.mk (below_step (kH HB) hb); (try clear hb); (try clear hb2); (try clear hk); (try clear hi)))
     go_ret2
     exact ⟨by first | rfl | (simp [errW_none, errW_some] <;> rfl) | (simp [*, errW_none, errW_some] <;> rfl), kH HB⟩
   replace c18 := Bool.eq_false_iff.mpr c18; subst c18
   have H1 : ((pat_Finite.f a0).bind fun q3 => (if q3 = true then ((pat_Finite.f a1).bind fun q0 => (prod_Mul.j1 kj3 a0 a1 a2 (!q0))) else (prod_Mul.j1 kj3 a0 a1 a2 true))) = some (r1, r2) := by rw [if_neg (show ¬ (false = true) by decide)] at H; exact H
   clear H; have H := H1; clear H1; have qj := Aside0.mk H; clear H
   go_upto_region 5 with (first | ((with_reducible refine gate_callee (f := 44) rfl ?_); refine goesL_ (some 22) rfl rfl Try.func44 (by kernel_rfl) rfl #[.int .u64 a0, .int .u64 a1] rfl LMq ?_; (with_reducible refine (prod_nothing.calls a0 a1 false _ A17.out).mono ?_); rintro e w21 ⟨rfl, hb⟩; refine ⟨_, rfl, ?_⟩; replace HB := Aside0.mk (below_step (kH HB) hb); (try clear hb); (try clear hb2); (try clear hk); (try clear hi)))
   (try simp only [Act.put, List.setIfInBounds_toArray, List.set_cons_zero, List.set_cons_succ])
   go_cut [23] (fun v23 wc => ∃ (kq : Nat) (qb : Bool), v23 = .bool qb ∧ Aside0 (prod_Mul.j1 kq a0 a1 a2 qb = some (r1, r2)) ∧ Aside0 (kq ≤ kj3) ∧ Aside0 (Below w.heap.size w wc))
   case first =>
    have H := qj.out; clear qj; replace H := Option.bind_eq_some_iff.mp H; obtain ⟨q3, qm, H⟩ := H; replace H : (if q3 = true then ((pat_Finite.f a1).bind fun q0 => (prod_Mul.j1 kj3 a0 a1 a2 (!q0))) else (prod_Mul.j1 kj3 a0 a1 a2 true)) = some (r1, r2) := H; have A22 := Aside0.mk qm; clear qm
    by_cases c23 : q3 = true
    · subst c23
      have H1 : ((pat_Finite.f a1).bind fun q0 => (prod_Mul.j1 kj3 a0 a1 a2 (!q0))) = some (r1, r2) := by rw [if_pos rfl] at H; exact H
      clear H; have H := H1; clear H1; replace H := Option.bind_eq_some_iff.mp H; obtain ⟨q0, qn, H⟩ := H; replace H : (prod_Mul.j1 kj3 a0 a1 a2 (!q0)) = some (r1, r2) := H; have A24 := Aside0.mk qn; clear qn; have H' := Aside0.mk H; clear H
      go_wp2_with (first | ((with_reducible refine gate_callee (f := 47) rfl ?_); refine goesL_ (some 25) rfl rfl Try.func47 (by kernel_rfl) rfl #[.int .u64 a0] rfl LMq ?_; (with_reducible refine (pat_Finite.calls a0 true _ A22.out).mono ?_); rintro e w25 ⟨rfl, hb⟩; refine ⟨_, rfl, ?_⟩; replace HB := Aside0.mk (below_step (kH HB) hb); (try clear hb); (try clear hb2); (try clear hk); (try clear hi)) | (go_at_call 47; (with_reducible refine (pat_Finite.calls a1 q0 _ A24.out).mono ?_); rintro e w26 ⟨rfl, hb⟩; replace HB := Aside0.mk (below_step (kH HB) hb); (try clear hb); (try clear hb2); (try clear hk); (try clear hi)))
      go_meet
      case rel => exact ⟨_, (!q0), RSq, (by first | exact H' | (subst_vars; exact H')), ⟨by have := HJ3.out; first | omega | exact Nat.le_refl _⟩, ⟨kH HB⟩⟩
    replace c23 := Bool.eq_false_iff.mpr c23; subst c23
    have H1 : (prod_Mul.j1 kj3 a0 a1 a2 true) = some (r1, r2) := by rw [if_neg (show ¬ (false = true) by decide)] at H; exact H
    clear H; have H := H1; clear H1; have H' := Aside0.mk H; clear H
    go_wp2_with (first | ((with_reducible refine gate_callee (f := 47) rfl ?_); refine goesL_ (some 25) rfl rfl Try.func47 (by kernel_rfl) rfl #[.int .u64 a0] rfl LMq ?_; (with_reducible refine (pat_Finite.calls a0 false _ A22.out).mono ?_); rintro e w27 ⟨rfl, hb⟩; refine ⟨_, rfl, ?_⟩; replace HB := Aside0.mk (below_step (kH HB) hb); (try clear hb); (try clear hb2); (try clear hk); (try clear hi)))
    go_meet
    case rel => exact ⟨_, (true), RSq, (by first | exact H' | (subst_vars; exact H')), ⟨by have := HJ3.out; first | omega | exact Nat.le_refl _⟩, ⟨kH HB⟩⟩
   case rest =>
    clear qj; (try clear c1); (try clear c2); (try clear p2); (try clear c4); (try clear c6); (try clear p6); (try clear c11); (try clear c18); (try clear c23); (try clear c26); (try clear p2); (try clear p6); obtain ⟨kq, qb, rfl, HA, HJ19, HB⟩ := hcut
    cases kq with
    | zero => exact absurd HA.out (by simp [prod_Mul.j1])
    | succ kj19 =>
     have H := HA.out; clear HA
     simp only [prod_Mul.j1] at H
     by_cases c28 : qb = true
     · subst c28
       have H1 : ((prod_sign.f a0 a1).bind fun q7 => (some (Go.bits .or .u64 9218868437227405312 q7, 0))) = some (r1, r2) := by rw [if_pos rfl] at H; exact H
       clear H; have H := H1; clear H1; replace H := Option.bind_eq_some_iff.mp H; obtain ⟨q7, qo, H⟩ := H; replace H : (some (Go.bits .or .u64 9218868437227405312 q7, 0)) = some (r1, r2) := H; have A29 := Aside0.mk qo; clear qo
       simp only [Option.some.injEq, Prod.mk.injEq] at H
       obtain ⟨rfl, rfl⟩ := H
       go_wp2_with (first | ((with_reducible refine gate_callee (f := 43) rfl ?_); refine goesL_ (some 34) rfl rfl Try.func43 (by kernel_rfl) rfl #[.int .u64 a0, .int .u64 a1] rfl LMq ?_; (with_reducible refine (prod_sign.calls a0 a1 q7 _ A29.out).mono ?_); rintro e w' ⟨rfl, ⟨nd, rfl⟩⟩; refine ⟨_, rfl, ?_⟩))
       go_ret2
       exact ⟨by first | rfl | (simp [errW_none, errW_some] <;> rfl) | (simp [*, errW_none, errW_some] <;> rfl), kH HB⟩
     replace c28 := Bool.eq_false_iff.mpr c28; subst c28
     have H1 : ((prod_exact.f a0 a1).bind fun q1 => ((rnd_Round.f q1.1 q1.2.1 q1.2.2.1 q1.2.2.2.1 q1.2.2.2.2.1 q1.2.2.2.2.2.1 q1.2.2.2.2.2.2 a2).bind fun q5 => (some (q5.1, q5.2)))) = some (r1, r2) := by rw [if_neg (show ¬ (false = true) by decide)] at H; exact H
     clear H; have H := H1; clear H1; replace H := Option.bind_eq_some_iff.mp H; obtain ⟨⟨qc, qd, qe, qf, qg, qh, qi⟩, qp, H⟩ := H; replace H : ((rnd_Round.f qc qd qe qf qg qh qi a2).bind fun q5 => (some (q5.1, q5.2))) = some (r1, r2) := H; have A30 := Aside0.mk qp; clear qp; replace H := Option.bind_eq_some_iff.mp H; obtain ⟨⟨qq, qr⟩, qs, H⟩ := H; replace H : (some (qq, qr)) = some (r1, r2) := H; have A31 := Aside0.mk qs; clear qs
     simp only [Option.some.injEq, Prod.mk.injEq] at H
     obtain ⟨rfl, rfl⟩ := H
     go_wp2_with (first | ((with_reducible refine gate_callee (f := 51) rfl ?_); refine goesL_ (some 38) rfl rfl Try.func51 (by kernel_rfl) rfl #[.int .u64 a0, .int .u64 a1] rfl LMq ?_; (with_reducible refine (prod_exact.calls a0 a1 qc qd qe qf qg qh qi _ A30.out).mono ?_); rintro e w32 ⟨rfl, hb⟩; refine ⟨_, rfl, ?_⟩; replace HB := Aside0.mk (below_step (kH HB) hb); (try clear hb); (try clear hb2); (try clear hk); (try clear hi)) | ((with_reducible refine gate_callee (f := 30) rfl ?_); refine goesL_ (some 40) rfl rfl Try.func30 (by kernel_rfl) rfl #[.agg #[.bool qc, .int .i64 qd, .int .u64 qe, .int .u64 qf, .int .u64 qg, .int .u64 qh, .bool qi], .int .i64 a2] rfl LMq ?_; (with_reducible refine (rnd_Round.calls qc qd qe qf qg qh qi a2 qq qr _ A31.out).mono ?_); rintro e w33 ⟨rfl, hb⟩; refine ⟨_, rfl, ?_⟩; replace HB := Aside0.mk (below_step (kH HB) hb); (try clear hb); (try clear hb2); (try clear hk); (try clear hi)))
     go_ret2
     exact ⟨by first | rfl | (simp [errW_none, errW_some] <;> rfl) | (simp [*, errW_none, errW_some] <;> rfl), kH HB⟩
end Go.Proofs.Ytbgefpeicmbgiaa.X
end
section
namespace Go.Proofs.Ytbgefpeicmbgiaa
set_option linter.unusedVariables false
set_option linter.unusedSimpArgs false
open Go.RowKit X Go.Proofs.YtbgefpeicmbgiaaW.PrintWords
theorem at_nat {l : List Int} (h : nok l) (i : Nat) : r2_at.f l (i : Int) = some ((nv l / 65536 ^ i % 65536 : Nat) : Int) := by
  unfold r2_at.f
  rw [if_pos (by omega)]
  by_cases hi : (i : Int) < (l.length : Int)
  · rw [if_pos hi, if_pos (by omega), rd_nv h]
  · rw [if_neg hi]
    have h1 := nv_lt h
    have h2 : 65536 ^ l.length ≤ 65536 ^ i := Nat.pow_le_pow_right (by omega) (by omega)
    rw [Nat.div_eq_of_lt (by omega)]
    rfl
theorem at_ln (n i : Nat) : r2_at.f (ln n) (i : Int) = some ((n / 65536 ^ i % 65536 : Nat) : Int) := by rw [at_nat (nok_ln n), nv_ln]
theorem trim_loop {l : List Int} (h : nok l) (hl : l.length < 4000000000000000000) : ∀ m : Nat, m ≤ l.length → nv (l.drop m) = 0 → Ev (fun k => r2_trim.l0 k l (m : Int)) (ln (nv l)) := by
  intro m
  induction m with
  | zero =>
    intro _ h0
    refine Ev.step (f := fun _ => some (ln (nv l))) (fun k => ?_) (Ev.now _)
    simp only [r2_trim.l0]
    rw [if_neg (by omega), if_pos (by omega), if_pos (by omega)]
    rw [List.drop_zero] at h0
    rw [h0, ln_zero]
    rfl
  | succ m ih =>
    intro hm h0
    have hm' : m < l.length := by omega
    have e1 : wrap64 (((m + 1 : Nat) : Int) - 1) = (m : Int) := by unfold wrap64; omega
    have e2 : rd l (m : Int) = l[m] := by unfold rd; rw [Int.toNat_natCast]; simp [hm']
    have hd := h l[m] (List.getElem_mem hm')
    by_cases z : l[m] = 0
    · refine Ev.step (f := fun k => r2_trim.l0 k l (m : Int)) (fun k => ?_) (ih (by omega) ?_)
      · simp only [r2_trim.l0]
        rw [if_pos (by omega), e1, if_pos (by omega), if_pos (by omega), e2, if_pos z]
      · rw [List.drop_eq_getElem_cons hm']
        show l[m].toNat + 65536 * nv (l.drop (m + 1)) = 0
        rw [h0, z]
        rfl
    · refine Ev.step (f := fun _ => some (ln (nv l))) (fun k => ?_) (Ev.now _)
      simp only [r2_trim.l0]
      rw [if_pos (by omega), e1, if_pos (by omega), if_pos (by omega), e2, if_neg z, if_pos (by omega), if_pos (by omega)]
      have e3 : nv l = nv (l.take (m + 1)) := by
        conv => lhs; rw [← List.take_append_drop (m + 1) l]
        rw [nv_append, h0, Nat.mul_zero, Nat.add_zero]
      have e4 := List.take_succ_eq_append_getElem hm'
      rw [e3, Int.toNat_natCast]
      refine congrArg some (canon (fun d hd => h d (List.mem_of_mem_take hd)) (.inr ⟨_, _, e4, z⟩))
theorem trim_ev {l : List Int} (h : nok l) (hl : l.length < 4000000000000000000) : Ev (fun k => r2_trim.f k l) (ln (nv l)) :=
  Ev.congr (fun k => rfl) (trim_loop h hl l.length (Nat.le_refl _) (by rw [List.drop_length]; rfl))
theorem trim_to {l : List Int} {n : Nat} (h : nok l) (hl : l.length < 4000000000000000000) (hn : nv l = n) : Ev (fun k => (r2_trim.f k l).bind fun t => some t) (ln n) := by
  subst hn
  exact Ev.bind (trim_ev h hl) (Ev.now _)
theorem of_ev {n : Int} (h : U n) : Ev (fun k => r2_Of.f k n) (ln n.toNat) := by
  unfold U at h
  have w : ∀ z : Int, 0 ≤ z → z ≤ 18446744073709551615 → IntKind.u64.wrap z = z := fun z h0 h1 => by rw [IntKind.wrap_u64]; omega
  refine Ev.congr (fun k => rfl) ?_
  have e : ([(Int.tmod n 65536) % 4294967296, (Int.tmod (IntKind.u64.wrap (Int.tdiv n 65536)) 65536) % 4294967296, (Int.tmod (IntKind.u64.wrap (Int.tdiv n 4294967296)) 65536) % 4294967296, (IntKind.u64.wrap (Int.tdiv n 281474976710656)) % 4294967296] : List Int) = [n % 65536, n / 65536 % 65536, n / 4294967296 % 65536, n / 281474976710656] := by
    rw [Int.tdiv_eq_ediv_of_nonneg h.1, Int.tdiv_eq_ediv_of_nonneg h.1, Int.tdiv_eq_ediv_of_nonneg h.1, w _ (by omega) (by omega), w _ (by omega) (by omega), w _ (by omega) (by omega), Int.tmod_eq_emod_of_nonneg h.1, Int.tmod_eq_emod_of_nonneg (by omega), Int.tmod_eq_emod_of_nonneg (by omega)]
    congr 1
    · omega
    · congr 1
      · omega
      · congr 1
        · omega
        · congr 1
          omega
  have := trim_to (l := [n % 65536, n / 65536 % 65536, n / 4294967296 % 65536, n / 281474976710656]) (n := n.toNat)
    (nok_cons (by omega) (by omega) (nok_cons (by omega) (by omega) (nok_cons (by omega) (by omega) (nok_one (by omega) (by omega))))) (by simp) (by simp only [nv]; omega)
  rw [← e] at this
  exact this
section
variable {x y B : Nat}
theorem len_pos {i : Nat} (h : 65536 ^ i ≤ x) : (i : Int) < ((ln x).length : Int) := by have := ln_lt_iff.2 h; omega
theorem len_neg {i : Nat} (h : ¬ 65536 ^ i ≤ x) : ¬ (i : Int) < ((ln x).length : Int) := by have := mt ln_lt_iff.1 h; omega
theorem pw_step (i s a : Nat) : 65536 ^ i * s + 65536 ^ (i + 1) * a = 65536 ^ i * (s + 65536 * a) := by rw [Nat.mul_add, Nat.pow_succ, Nat.mul_assoc]
theorem add_loop (hB : B ≤ 1000000) (hx : x < 65536 ^ B) (hy : y < 65536 ^ B) : ∀ (d i c : Nat) (out : List Int), i + d = B + 1 → nok out → out.length = i → c ≤ 1 →
    nv out + 65536 ^ i * (c + x / 65536 ^ i + y / 65536 ^ i) = x + y → Ev (fun k => r2_Add.l0 k (ln x) (ln y) out (c : Int) (i : Int)) (ln (x + y)) := by
  intro d
  induction d with
  | zero =>
    intro i c out hi hok hlen hc hv
    have hP : 65536 ^ i = 65536 ^ B * 65536 := by rw [show i = B + 1 by omega, Nat.pow_succ]
    have h1 : ¬ 65536 ^ i ≤ x := by omega
    have h2 : ¬ 65536 ^ i ≤ y := by omega
    rw [div_zero_of h1, div_zero_of h2] at hv
    simp only [Nat.add_zero] at hv
    have hc0 : c = 0 := by
      rcases Nat.lt_or_ge 0 c with g | g
      · have : 65536 ^ i * 1 ≤ 65536 ^ i * c := Nat.mul_le_mul_left _ g
        omega
      · omega
    subst hc0
    refine Ev.step (f := fun k => r2_Add.j1 k (ln x) (ln y) out ((0 : Nat) : Int) (i : Int) false) (fun k => ?_) (Ev.step (f := fun k => (r2_trim.f k out).bind fun t => some t) (fun k => ?_) (trim_to hok (by omega) (by omega)))
    · simp only [r2_Add.l0]
      rw [if_neg (len_neg h1), if_neg (len_neg h2)]
      rfl
    · simp only [r2_Add.j1]
      rw [if_neg (by decide)]
  | succ d ih =>
    intro i c out hi hok hlen hc hv
    by_cases ct : 65536 ^ i ≤ x ∨ 65536 ^ i ≤ y ∨ 0 < c
    · refine Ev.step (f := fun k => r2_Add.j1 k (ln x) (ln y) out (c : Int) (i : Int) true) (fun k => ?_) (Ev.step (f := fun k => r2_Add.l0 k (ln x) (ln y) (out ++ [(((c + x / 65536 ^ i % 65536 + y / 65536 ^ i % 65536) % 65536 : Nat) : Int)]) (((c + x / 65536 ^ i % 65536 + y / 65536 ^ i % 65536) / 65536 : Nat) : Int) ((i + 1 : Nat) : Int)) (fun k => ?_) (ih _ _ _ (by omega) (nok_append hok (nok_one (by omega) (by omega))) (by simp [hlen]) (by omega) ?_))
      · simp only [r2_Add.l0]
        by_cases h1 : 65536 ^ i ≤ x
        · rw [if_pos (len_pos h1)]
        · rw [if_neg (len_neg h1)]
          by_cases h2 : 65536 ^ i ≤ y
          · rw [if_pos (len_pos h2)]
          · rw [if_neg (len_neg h2), decide_eq_true (by omega)]
      · simp only [r2_Add.j1]
        rw [if_pos trivial, at_ln, at_ln]
        simp only [Option.bind_some]
        have eD : ((c : Int) + ((x / 65536 ^ i % 65536 : Nat) : Int) + ((y / 65536 ^ i % 65536 : Nat) : Int)) % 65536 = (((c + x / 65536 ^ i % 65536 + y / 65536 ^ i % 65536) % 65536 : Nat) : Int) := by omega
        have eC : (((c : Int) + ((x / 65536 ^ i % 65536 : Nat) : Int) + ((y / 65536 ^ i % 65536 : Nat) : Int)) % 4294967296) / 65536 = (((c + x / 65536 ^ i % 65536 + y / 65536 ^ i % 65536) / 65536 : Nat) : Int) := by omega
        rw [if_pos (by omega), w1 (by omega), eD, eC]
      · have hx' := div_step x i
        have hy' := div_step y i
        rw [nv_append, hlen, nv_one, Int.toNat_natCast, Nat.add_assoc, pw_step, ← hv]
        congr 2
        omega
    · have h1 : ¬ 65536 ^ i ≤ x := fun h => ct (.inl h)
      have h2 : ¬ 65536 ^ i ≤ y := fun h => ct (.inr (.inl h))
      have h3 : c = 0 := by have : ¬ 0 < c := fun h => ct (.inr (.inr h)); omega
      subst h3
      rw [div_zero_of h1, div_zero_of h2] at hv
      simp only [Nat.add_zero, Nat.mul_zero] at hv
      refine Ev.step (f := fun k => r2_Add.j1 k (ln x) (ln y) out ((0 : Nat) : Int) (i : Int) false) (fun k => ?_) (Ev.step (f := fun k => (r2_trim.f k out).bind fun t => some t) (fun k => ?_) (trim_to hok (by omega) hv))
      · simp only [r2_Add.l0]
        rw [if_neg (len_neg h1), if_neg (len_neg h2)]
        rfl
      · simp only [r2_Add.j1]
        rw [if_neg (by decide)]
theorem add_ev (hB : B ≤ 1000000) (hx : x < 65536 ^ B) (hy : y < 65536 ^ B) : Ev (fun k => r2_Add.f k (ln x) (ln y)) (ln (x + y)) :=
  Ev.congr (fun k => rfl) (add_loop hB hx hy (B + 1) 0 0 [] (by omega) nok_nil rfl (by omega) (by simp [nv]))
theorem sub_loop (hB : B ≤ 1000000) (hx : x < 65536 ^ B) (hy : y ≤ x) : ∀ (d i c : Nat) (out : List Int), i + d = B + 1 → nok out → out.length = i → c ≤ 1 →
    nv out + 65536 ^ i * (x / 65536 ^ i) + y = x + 65536 ^ i * (y / 65536 ^ i + c) → Ev (fun k => r2_Sub.l0 k (ln x) (ln y) out (c : Int) (i : Int)) (ln (x - y)) := by
  have fin : ∀ (i c : Nat) (out : List Int), i ≤ B + 1 → nok out → out.length = i → nv out + 65536 ^ i * (x / 65536 ^ i) + y = x + 65536 ^ i * (y / 65536 ^ i + c) → ¬ 65536 ^ i ≤ x → Ev (fun k => r2_Sub.l0 k (ln x) (ln y) out (c : Int) (i : Int)) (ln (x - y)) := by
    intro i c out hi hok hlen hv h1
    have h2 : ¬ 65536 ^ i ≤ y := by omega
    have h3 := nv_lt hok
    rw [hlen] at h3
    rw [div_zero_of h1, div_zero_of h2] at hv
    simp only [Nat.add_zero, Nat.mul_zero, Nat.zero_add] at hv
    have hc0 : c = 0 := by
      rcases Nat.lt_or_ge 0 c with g | g
      · have : 65536 ^ i * 1 ≤ 65536 ^ i * c := Nat.mul_le_mul_left _ g
        omega
      · omega
    subst hc0
    refine Ev.step (f := fun k => (r2_trim.f k out).bind fun t => some t) (fun k => ?_) (trim_to hok (by omega) (by omega))
    simp only [r2_Sub.l0]
    rw [if_neg (len_neg h1)]
  intro d
  induction d with
  | zero =>
    intro i c out hi hok hlen hc hv
    have hP : 65536 ^ i = 65536 ^ B * 65536 := by rw [show i = B + 1 by omega, Nat.pow_succ]
    exact fin i c out (by omega) hok hlen hv (by omega)
  | succ d ih =>
    intro i c out hi hok hlen hc hv
    by_cases h1 : 65536 ^ i ≤ x
    · have hx' := div_step x i
      have hy' := div_step y i
      generalize hX : x / 65536 ^ (i + 1) = X at *
      generalize hY : y / 65536 ^ (i + 1) = Y at *
      generalize hdx : x / 65536 ^ i % 65536 = dx at *
      generalize hdy : y / 65536 ^ i % 65536 = dy at *
      have bx : dx < 65536 := by omega
      have byy : dy < 65536 := by omega
      refine Ev.step (f := fun k => r2_Sub.l0 k (ln x) (ln y) (out ++ [(((65536 + dx - dy - c) % 65536 : Nat) : Int)]) ((1 - (65536 + dx - dy - c) / 65536 : Nat) : Int) ((i + 1 : Nat) : Int)) (fun k => ?_) (ih _ _ _ (by omega) (nok_append hok (nok_one (by omega) (by omega))) (by simp [hlen]) (by omega) ?_)
      · simp only [r2_Sub.l0]
        rw [if_pos (len_pos h1), at_ln, at_ln]
        simp only [Option.bind_some]
        have eD : (65536 + (dx : Int) - (dy : Int) - (c : Int)) % 65536 = (((65536 + dx - dy - c) % 65536 : Nat) : Int) := by omega
        have eC : (1 - (((65536 + (dx : Int) - (dy : Int) - (c : Int)) % 4294967296) / 65536)) % 4294967296 = ((1 - (65536 + dx - dy - c) / 65536 : Nat) : Int) := by omega
        rw [if_pos (by omega), w1 (by omega), hdx, hdy, eD, eC]
      · rw [nv_append, hlen, nv_one, Int.toNat_natCast, hX, hY]
        rw [hx', hy'] at hv
        have key : (65536 + dx - dy - c) % 65536 + dy + c = dx + 65536 * (1 - (65536 + dx - dy - c) / 65536) := by omega
        generalize (65536 + dx - dy - c) % 65536 = s at *
        generalize 1 - (65536 + dx - dy - c) / 65536 = c' at *
        have key2 := congrArg (65536 ^ i * ·) key
        simp only [Nat.mul_add, Nat.pow_succ, Nat.mul_assoc] at *
        omega
    · exact fin i c out (by omega) hok hlen hv h1
theorem sub_ev (hB : B ≤ 1000000) (hx : x < 65536 ^ B) (hy : y ≤ x) : Ev (fun k => r2_Sub.f k (ln x) (ln y)) (ln (x - y)) :=
  Ev.congr (fun k => rfl) (sub_loop hB hx hy (B + 1) 0 0 [] (by omega) nok_nil rfl (by omega) (by simp [nv]))
theorem cmp_loop (x y : Nat) : ∀ m : Nat, m < 4000000000000000000 → x / 65536 ^ m = y / 65536 ^ m → Ev (fun k => r2_Cmp.l0 k (ln x) (ln y) ((m : Int) - 1)) (cmpI x y) := by
  intro m
  induction m with
  | zero =>
    intro _ h
    rw [Nat.pow_zero, Nat.div_one, Nat.div_one] at h
    subst h
    refine Ev.step (f := fun _ => some (cmpI x x)) (fun k => ?_) (Ev.now _)
    simp only [r2_Cmp.l0]
    rw [if_neg (by omega)]
    unfold cmpI
    rw [if_neg (by omega), if_neg (by omega)]
  | succ m ih =>
    intro hm h
    have hx' := div_step x m
    have hy' := div_step y m
    rw [h] at hx'
    have e : ((m + 1 : Nat) : Int) - 1 = (m : Int) := by omega
    rw [e]
    have lt_of : ∀ {a b : Nat}, a / 65536 ^ m < b / 65536 ^ m → a < b := fun {a b} h => by
      rcases Nat.lt_or_ge a b with g | g
      · exact g
      · have := Nat.div_le_div_right (c := 65536 ^ m) g; omega
    by_cases c1 : x / 65536 ^ m % 65536 < y / 65536 ^ m % 65536
    · refine Ev.step (f := fun _ => some (cmpI x y)) (fun k => ?_) (Ev.now _)
      simp only [r2_Cmp.l0]
      rw [if_pos (by omega), at_ln, at_ln]
      simp only [Option.bind_some]
      rw [if_pos (by omega)]
      unfold cmpI
      rw [if_pos (lt_of (by omega))]
    · by_cases c2 : y / 65536 ^ m % 65536 < x / 65536 ^ m % 65536
      · refine Ev.step (f := fun _ => some (cmpI x y)) (fun k => ?_) (Ev.now _)
        simp only [r2_Cmp.l0]
        rw [if_pos (by omega), at_ln, at_ln]
        simp only [Option.bind_some]
        rw [if_neg (by omega), if_pos (by omega)]
        have : y < x := lt_of (by omega)
        unfold cmpI
        rw [if_neg (by omega), if_pos this]
      · refine Ev.step (f := fun k => r2_Cmp.l0 k (ln x) (ln y) ((m : Int) - 1)) (fun k => ?_) (ih (by omega) (by omega))
        simp only [r2_Cmp.l0]
        rw [if_pos (by omega), at_ln, at_ln]
        simp only [Option.bind_some]
        rw [if_neg (by omega), if_neg (by omega)]
        congr 1
        unfold wrap64
        omega
theorem cmp_ev (hB : B ≤ 1000000) (hx : x < 65536 ^ B) (hy : y < 65536 ^ B) : Ev (fun k => r2_Cmp.f k (ln x) (ln y)) (cmpI x y) := by
  have lx := ln_length hx
  have ly := ln_length hy
  have zx : x / 65536 ^ (ln x).length = 0 := div_zero_of (mt ln_lt_iff.2 (by omega))
  have zy : y / 65536 ^ (ln y).length = 0 := div_zero_of (mt ln_lt_iff.2 (by omega))
  have up : ∀ {n i j : Nat}, i ≤ j → n / 65536 ^ i = 0 → n / 65536 ^ j = 0 := fun {n i j} h z => by
    have h1 := Nat.pow_le_pow_right (n := 65536) (by omega) h
    have h2 := p16 i
    rw [Nat.div_eq_zero_iff] at z ⊢
    omega
  by_cases h : (ln x).length < (ln y).length
  · refine Ev.congr (f := fun k => r2_Cmp.l0 k (ln x) (ln y) (((ln y).length : Int) - 1)) (fun k => ?_) (cmp_loop x y _ (by omega) (by rw [zy, up (Nat.le_of_lt h) zx]))
    unfold r2_Cmp.f
    rw [if_pos (by omega)]
    congr 1
    unfold wrap64
    omega
  · refine Ev.congr (f := fun k => r2_Cmp.l0 k (ln x) (ln y) (((ln x).length : Int) - 1)) (fun k => ?_) (cmp_loop x y _ (by omega) (by rw [zx, up (by omega) zy]))
    unfold r2_Cmp.f
    rw [if_neg (by omega)]
    congr 1
    unfold wrap64
    omega
theorem blen_half {t : Nat} (h : t ≠ 0) : blen t = blen (t / 2) + 1 := by
  by_cases h1 : t / 2 = 0
  · have : t = 1 := by omega
    subst this; decide
  · have g1 := blen_le h1
    have g2 := blen_lt (t / 2)
    have g3 := blen_pos h1
    refine blen_eq ?_ ?_
    · rw [show blen (t / 2) = (blen (t / 2) - 1) + 1 by omega, Nat.pow_succ]; omega
    · rw [Nat.pow_succ]; omega
theorem len_loop : ∀ (t n : Nat), t < 4294967296 → n < 4000000000000000000 - blen t → Ev (fun k => r2_Len.l0 k (n : Int) (t : Int)) ((n + blen t : Nat) : Int) := by
  intro t
  induction t using Nat.strongRecOn with
  | _ t ih =>
    intro n ht hn
    by_cases h : t = 0
    · subst h
      refine Ev.step (f := fun _ => some _) (fun k => ?_) (Ev.now _)
      simp only [r2_Len.l0]
      rw [if_neg (by omega)]
      rfl
    · have hb := blen_half h
      have := ih (t / 2) (by omega) (n + 1) (by omega) (by omega)
      rw [show n + 1 + blen (t / 2) = n + blen t by omega] at this
      refine Ev.step (f := fun k => r2_Len.l0 k ((n + 1 : Nat) : Int) ((t / 2 : Nat) : Int)) (fun k => ?_) this
      simp only [r2_Len.l0]
      rw [if_pos (by omega), w1 (by omega), Int.tdiv_eq_ediv_of_nonneg (by omega)]
      congr 1
      omega
theorem blen_parts {L : Nat} (h1 : 65536 ^ L ≤ x) (h2 : x / 65536 ^ L < 65536) : blen x = 16 * L + blen (x / 65536 ^ L) := by
  have e : 65536 ^ L = 2 ^ (16 * L) := by rw [Nat.pow_mul]
  rw [e] at h1 ⊢
  exact blen_shift x (16 * L) (Nat.ne_of_gt (Nat.div_pos h1 (Nat.two_pow_pos _)))
theorem len_ev (hB : B ≤ 1000000) (hx : x < 65536 ^ B) : Ev (fun k => r2_Len.f k (ln x)) (blen x : Int) := by
  have lx := ln_length hx
  by_cases h0 : x = 0
  · subst h0
    refine Ev.congr (f := fun _ => some _) (fun k => ?_) (Ev.now _)
    unfold r2_Len.f
    rw [ln_zero]
    rfl
  · have h1 : 0 < (ln x).length := ln_lt_iff.2 (by rw [Nat.pow_zero]; omega)
    obtain ⟨L, hL⟩ : ∃ L, (ln x).length = L + 1 := ⟨(ln x).length - 1, by omega⟩
    have g1 : 65536 ^ L ≤ x := ln_lt_iff.1 (by omega)
    have g2 : ¬ 65536 ^ (L + 1) ≤ x := mt ln_lt_iff.2 (by omega)
    have g3 : x / 65536 ^ L < 65536 := by rw [Nat.pow_succ] at g2; exact Nat.div_lt_of_lt_mul (by omega)
    have hb := blen_parts g1 g3
    have hb2 : blen (x / 65536 ^ L) ≤ 16 := blen_le_iff.2 g3
    have hl := len_loop (x / 65536 ^ L) (16 * L) (by omega) (by omega)
    rw [← hb] at hl
    refine Ev.congr (f := fun k => r2_Len.l0 k ((16 * L : Nat) : Int) ((x / 65536 ^ L : Nat) : Int)) (fun k => ?_) hl
    unfold r2_Len.f
    have e1 : wrap64 (((ln x).length : Int) - 1) = (L : Int) := by unfold wrap64; omega
    have e2 : wrap64 (16 * (L : Int)) = ((16 * L : Nat) : Int) := by unfold wrap64; omega
    rw [if_neg (by omega), e1, if_pos (by omega), if_pos (by omega), rd_ln, e2, Nat.mod_eq_of_lt g3]
theorem low_loop (x : Nat) : ∀ m : Nat, m ≤ (ln x).length → m ≤ 4 → Ev (fun k => r2_Low.l0 k (ln x) ((x % 18446744073709551616 / 65536 ^ m : Nat) : Int) ((m : Int) - 1)) ((x % 18446744073709551616 : Nat) : Int) := by
  intro m
  induction m with
  | zero =>
    intro _ _
    refine Ev.step (f := fun _ => some _) (fun k => ?_) (Ev.now _)
    simp only [r2_Low.l0]
    rw [if_neg (by omega), Nat.pow_zero, Nat.div_one]
  | succ m ih =>
    intro hm h4
    refine Ev.step (f := fun k => r2_Low.l0 k (ln x) ((x % 18446744073709551616 / 65536 ^ m : Nat) : Int) ((m : Int) - 1)) (fun k => ?_) (ih (by omega) (by omega))
    have e : ((m + 1 : Nat) : Int) - 1 = (m : Int) := by omega
    have hd := div_step (x % 18446744073709551616) m
    have e2 : x % 18446744073709551616 / 65536 ^ m % 65536 = x / 65536 ^ m % 65536 := by
      have h5 : m = 0 ∨ m = 1 ∨ m = 2 ∨ m = 3 := by omega
      rcases h5 with rfl | rfl | rfl | rfl
      · rw [Nat.pow_zero]; omega
      · rw [Nat.pow_one]; omega
      · rw [show 65536 ^ 2 = 4294967296 from rfl]; omega
      · rw [show 65536 ^ 3 = 281474976710656 from rfl]; omega
    have hb : x % 18446744073709551616 / 65536 ^ m < 18446744073709551616 := Nat.lt_of_le_of_lt (Nat.div_le_self _ _) (Nat.mod_lt _ (by decide))
    simp only [r2_Low.l0]
    rw [e, if_pos (by omega), if_pos (by omega), if_pos (by omega), rd_ln]
    congr 1
    · simp only [IntKind.wrap_u64]
      omega
    · unfold wrap64; omega
theorem low_ev (x : Nat) (hl : (ln x).length < 4000000000000000000) : Ev (fun k => r2_Low.f k (ln x)) ((x % 18446744073709551616 : Nat) : Int) := by
  by_cases h : 4 < (ln x).length
  · have := low_loop x 4 (by omega) (by omega)
    rw [show x % 18446744073709551616 / 65536 ^ 4 = 0 by rw [show 65536 ^ 4 = 18446744073709551616 from rfl]; omega] at this
    refine Ev.congr (fun k => ?_) this
    unfold r2_Low.f
    rw [if_pos (by omega)]
    rfl
  · have hx : x < 65536 ^ (ln x).length := by have := nv_lt (nok_ln x); rwa [nv_ln] at this
    have h4 : 65536 ^ (ln x).length ≤ 65536 ^ 4 := Nat.pow_le_pow_right (by omega) (by omega)
    rw [show 65536 ^ 4 = 18446744073709551616 from rfl] at h4
    have := low_loop x (ln x).length (by omega) (by omega)
    rw [show x % 18446744073709551616 / 65536 ^ (ln x).length = 0 by rw [Nat.mod_eq_of_lt (by omega)]; exact Nat.div_eq_of_lt hx] at this
    refine Ev.congr (fun k => ?_) this
    unfold r2_Low.f
    rw [if_neg (by omega)]
    congr 1
    unfold wrap64
    omega
theorem bit_loop (n : Nat) (hn : n < 4000000000000000000) : ∀ (d j t : Nat), j + d = n % 16 → t < 65536 → Ev (fun k => r2_Bit.l0 k (n : Int) (t : Int) (j : Int)) ((t / 2 ^ d % 2 : Nat) : Int) := by
  intro d
  have em : Int.tmod (n : Int) 16 = ((n % 16 : Nat) : Int) := by rw [Int.tmod_eq_emod_of_nonneg (by omega)]; omega
  induction d with
  | zero =>
    intro j t hj ht
    refine Ev.step (f := fun _ => some _) (fun k => ?_) (Ev.now _)
    simp only [r2_Bit.l0]
    rw [em, if_neg (by omega), Int.tmod_eq_emod_of_nonneg (by omega), Nat.pow_zero, Nat.div_one]
    congr 1
    unfold wrap64
    omega
  | succ d ih =>
    intro j t hj ht
    have := ih (j + 1) (t / 2) (by omega) (by omega)
    rw [Nat.div_div_eq_div_mul, ← Nat.pow_succ'] at this
    refine Ev.step (f := fun k => r2_Bit.l0 k (n : Int) ((t / 2 : Nat) : Int) ((j + 1 : Nat) : Int)) (fun k => ?_) this
    simp only [r2_Bit.l0]
    rw [em, if_pos (by omega), w1 (by omega), Int.tdiv_eq_ediv_of_nonneg (by omega)]
    congr 1
    omega
theorem pow_16 (n : Nat) : 65536 ^ (n / 16) * 2 ^ (n % 16) = 2 ^ n := by
  rw [show (65536 : Nat) = 2 ^ 16 from rfl, ← Nat.pow_mul, ← Nat.pow_add]
  congr 1
  omega
theorem bit_ev (x n : Nat) (hn : n < 4000000000000000000) : Ev (fun k => r2_Bit.f k (ln x) (n : Int)) ((x / 2 ^ n % 2 : Nat) : Int) := by
  have e : wrap64 (Int.tdiv (n : Int) 16) = ((n / 16 : Nat) : Int) := by rw [Int.tdiv_eq_ediv_of_nonneg (by omega)]; unfold wrap64; omega
  have := bit_loop n hn (n % 16) 0 (x / 65536 ^ (n / 16) % 65536) (by omega) (by omega)
  have e2 : x / 65536 ^ (n / 16) % 65536 / 2 ^ (n % 16) % 2 = x / 2 ^ n % 2 := by
    rw [← pow_16 n, ← Nat.div_div_eq_div_mul]
    generalize x / 65536 ^ (n / 16) = z
    have h16 : n % 16 < 16 := by omega
    generalize n % 16 = r at *
    have h5 : r = 0 ∨ r = 1 ∨ r = 2 ∨ r = 3 ∨ r = 4 ∨ r = 5 ∨ r = 6 ∨ r = 7 ∨ r = 8 ∨ r = 9 ∨ r = 10 ∨ r = 11 ∨ r = 12 ∨ r = 13 ∨ r = 14 ∨ r = 15 := by omega
    rcases h5 with rfl | rfl | rfl | rfl | rfl | rfl | rfl | rfl | rfl | rfl | rfl | rfl | rfl | rfl | rfl | rfl <;> simp <;> omega
  rw [e2] at this
  refine Ev.congr (fun k => ?_) this
  unfold r2_Bit.f
  rw [e, at_ln]
  rfl
end
end Go.Proofs.Ytbgefpeicmbgiaa
end
section
namespace Go.Proofs.Ytbgefpeicmbgiaa
set_option linter.unusedVariables false
set_option linter.unusedSimpArgs false
open Go.RowKit X Go.Proofs.YtbgefpeicmbgiaaW.PrintWords
theorem pattern_ev {p : Int} (hp : U p) : Ev (fun k => r4_Pattern.f k p) (pM p, pX p, ln (pS p).toNat) := by
  refine Ev.congr (f := fun k => (r2_Of.f k (pS p)).bind fun t227 => (some (pM p, pX p, t227))) (fun k => ?_) (Ev.bind (of_ev (U_pS p)) (Ev.now _))
  unfold r4_Pattern.f
  rw [r3_Take.eq p (inU_of hp), Option.bind_some]
end Go.Proofs.Ytbgefpeicmbgiaa
end
