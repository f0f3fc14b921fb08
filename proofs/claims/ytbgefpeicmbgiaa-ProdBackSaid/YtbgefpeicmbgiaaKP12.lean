import Derived.Test.YtbgefpeicmbgiaaKP4
import Derived.Test.YtbgefpeicmbgiaaKPXprodexact
import Derived.Test.YtbgefpeicmbgiaaKPXprodFma
section
namespace Go.Proofs.Ytbgefpeicmbgiaa.X
open Go.RowKit Go.Proofs.YtbgefpeicmbgiaaW.PrintWords Go.Proofs.YtbgefpeicmbgiaaW.PrintLast Go.Proofs.YtbgefpeicmbgiaaW.PrintMore
attribute [local go_sem] max2_int min2_int max_two min_two max_three min_three max_four min_four   
set_option linter.unusedVariables false
set_option linter.unusedSimpArgs false
mutual
def prod_Mul.j0 : Nat → Int → Int → Int → Bool → Option (Int × Int)
 | 0, _, _, _, _ => none
 | k + 1, x0, x1, x2, x8 => if x8 = true then ((prod_loud.f k (([x0, x1] : List Int))).bind fun q4 => (some (9221120237041090560, q4))) else ((prod_nothing.f x0 x1).bind fun q6 => (if q6 = true then (some (9221120237041090560, 1)) else ((pat_Finite.f x0).bind fun q3 => (if q3 = true then ((pat_Finite.f x1).bind fun q0 => (prod_Mul.j1 k x0 x1 x2 (!q0))) else (prod_Mul.j1 k x0 x1 x2 true)))))
def prod_Mul.j1 : Nat → Int → Int → Int → Bool → Option (Int × Int)
 | 0, _, _, _, _ => none
 | k + 1, x0, x1, x2, x23 => if x23 = true then ((prod_sign.f x0 x1).bind fun q7 => (some (Go.bits .or .u64 9218868437227405312 q7, 0))) else ((prod_exact.f x0 x1).bind fun q1 => ((rnd_Round.f q1.1 q1.2.1 q1.2.2.1 q1.2.2.2.1 q1.2.2.2.2.1 q1.2.2.2.2.2.1 q1.2.2.2.2.2.2 x2).bind fun q5 => (some (q5.1, q5.2))))
end
def prod_Mul.f (k : Nat) (a0 : Int) (a1 : Int) (a2 : Int) : Option (Int × Int) := (pat_IsNaN.f a0).bind fun q8 => (if q8 = true then (prod_Mul.j0 k a0 a1 a2 true) else ((pat_IsNaN.f a1).bind fun q2 => (prod_Mul.j0 k a0 a1 a2 q2)))
theorem prod_Mul.mono_l : ∀ k, (∀ y0 y1 y2 y3, LeO (prod_Mul.j0 k y0 y1 y2 y3) (prod_Mul.j0 (k + 1) y0 y1 y2 y3)) ∧ (∀ y0 y1 y2 y3, LeO (prod_Mul.j1 k y0 y1 y2 y3) (prod_Mul.j1 (k + 1) y0 y1 y2 y3))
 | 0 => ⟨fun _ _ _ _ r h => by simp [prod_Mul.j0] at h, fun _ _ _ _ r h => by simp [prod_Mul.j1] at h⟩
 | k + 1 => by
  obtain ⟨ih0, ih1⟩ := prod_Mul.mono_l k; refine ⟨?_, ?_⟩
  · intro y0 y1 y2 y3
    unfold prod_Mul.j0
    repeat' first
    | (with_reducible exact ih0 _ _ _ _)
    | (with_reducible exact ih1 _ _ _ _)
    | (with_reducible exact prod_loud.mono _ _)
    | (with_reducible exact LeO.refl _)
    | (with_reducible exact LeO.none _)
    | (with_reducible refine LeO.ite ?_ ?_)
    | (with_reducible refine LeO.bind ?_ (fun _ => ?_))
    | exact ih0 _ _ _ _
    | exact ih1 _ _ _ _
    | exact prod_loud.mono _ _
    | exact LeO.none _
    | refine LeO.ite ?_ ?_
    | refine LeO.bind ?_ (fun _ => ?_)
  intro y0 y1 y2 y3
  unfold prod_Mul.j1
  repeat' first
  | (with_reducible exact ih0 _ _ _ _)
  | (with_reducible exact ih1 _ _ _ _)
  | (with_reducible exact prod_loud.mono _ _)
  | (with_reducible exact LeO.refl _)
  | (with_reducible exact LeO.none _)
  | (with_reducible refine LeO.ite ?_ ?_)
  | (with_reducible refine LeO.bind ?_ (fun _ => ?_))
  | exact ih0 _ _ _ _
  | exact ih1 _ _ _ _
  | exact prod_loud.mono _ _
  | exact LeO.none _
  | refine LeO.ite ?_ ?_
  | refine LeO.bind ?_ (fun _ => ?_)
theorem prod_Mul.mono : ∀ a0 a1 a2 k, LeO (prod_Mul.f k a0 a1 a2) (prod_Mul.f (k + 1) a0 a1 a2) := by
 intro a0 a1 a2 k; obtain ⟨ih0, ih1⟩ := prod_Mul.mono_l k
 unfold prod_Mul.f
 repeat' first
  | (with_reducible exact ih0 _ _ _ _)
  | (with_reducible exact ih1 _ _ _ _)
  | (with_reducible exact prod_loud.mono _ _)
  | (with_reducible exact LeO.refl _)
  | (with_reducible exact LeO.none _)
  | (with_reducible refine LeO.ite ?_ ?_)
  | (with_reducible refine LeO.bind ?_ (fun _ => ?_))
  | exact ih0 _ _ _ _
  | exact ih1 _ _ _ _
  | exact prod_loud.mono _ _
  | exact LeO.none _
  | refine LeO.ite ?_ ?_
  | refine LeO.bind ?_ (fun _ => ?_)
set_option maxHeartbeats 8000000 in
set_option maxRecDepth 100000 in
theorem prod_Mul.calls (k : Nat) (a0 : Int) (a1 : Int) (a2 : Int) (r1 : Int) (r2 : Int) (w : World) (h : prod_Mul.f k a0 a1 a2 = some (r1, r2)) :
 Calls Try.prog 26 #[.int .u64 a0, .int .u64 a1, .int .i64 a2] w fun e w' => e = .returned (.tuple #[.int .u64 r1, .int .u8 r2]) ∧ Below w.heap.size w w' := by
 have HB := Aside0.mk (Below.refl w.heap.size w); have H : ((pat_IsNaN.f a0).bind fun q8 => (if q8 = true then (prod_Mul.j0 k a0 a1 a2 true) else ((pat_IsNaN.f a1).bind fun q2 => (prod_Mul.j0 k a0 a1 a2 q2)))) = some (r1, r2) := h; clear h; have HC4 := Aside0.mk H; clear H
 go_enter Try.func26, Try.ntmps26
 go_upto_region 1 with (fail)
 go_cut [8] (fun v8 wc => ∃ (kq : Nat) (qa : Bool), v8 = .bool qa ∧ Aside0 (prod_Mul.j0 kq a0 a1 a2 qa = some (r1, r2)) ∧ Aside0 (kq ≤ k) ∧ Aside0 (Below w.heap.size w wc))
 case first =>
  have H := HC4.out; clear HC4; replace H := Option.bind_eq_some_iff.mp H; obtain ⟨q8, A50, H⟩ := H; replace H : (if q8 = true then (prod_Mul.j0 k a0 a1 a2 true) else ((pat_IsNaN.f a1).bind fun q2 => (prod_Mul.j0 k a0 a1 a2 q2))) = some (r1, r2) := H; have A5 := Aside0.mk A50; clear A50
  by_cases c6 : q8 = true
  · subst c6
    have H1 : (prod_Mul.j0 k a0 a1 a2 true) = some (r1, r2) := by rw [if_pos rfl] at H; exact H
    clear H; have H := H1; clear H1; have H' := Aside0.mk H; clear H
    go_wp2_with (first | ((with_reducible refine gate_callee (f := 45) rfl ?_); refine goesL_ (some 10) rfl rfl Try.func45 (by kernel_rfl) rfl #[.int .u64 a0] rfl LMq ?_; (with_reducible refine (pat_IsNaN.calls a0 true _ A5.out).mono ?_); rintro e w7 ⟨rfl, hb⟩; refine ⟨_, rfl, ?_⟩; replace HB := Aside0.mk (below_step (kH HB) hb); (try clear hb); (try clear hb2); (try clear hk); (try clear hi)))
    go_meet
    case rel => exact ⟨_, (true), RSq, (by first | exact H' | (subst_vars; exact H')), ⟨by first | omega | exact Nat.le_refl _⟩, ⟨kH HB⟩⟩
  replace c6 := Bool.eq_false_iff.mpr c6; subst c6
  have H1 : ((pat_IsNaN.f a1).bind fun q2 => (prod_Mul.j0 k a0 a1 a2 q2)) = some (r1, r2) := by rw [if_neg (show ¬ (false = true) by decide)] at H; exact H
  clear H; have H := H1; clear H1; replace H := Option.bind_eq_some_iff.mp H; obtain ⟨q2, A80, H⟩ := H; replace H : (prod_Mul.j0 k a0 a1 a2 q2) = some (r1, r2) := H; have A8 := Aside0.mk A80; clear A80; have H' := Aside0.mk H; clear H
  go_wp2_with (first | ((with_reducible refine gate_callee (f := 45) rfl ?_); refine goesL_ (some 10) rfl rfl Try.func45 (by kernel_rfl) rfl #[.int .u64 a0] rfl LMq ?_; (with_reducible refine (pat_IsNaN.calls a0 false _ A5.out).mono ?_); rintro e w9 ⟨rfl, hb⟩; refine ⟨_, rfl, ?_⟩; replace HB := Aside0.mk (below_step (kH HB) hb); (try clear hb); (try clear hb2); (try clear hk); (try clear hi)) | (go_at_call 45; (with_reducible refine (pat_IsNaN.calls a1 q2 _ A8.out).mono ?_); rintro e w10 ⟨rfl, hb⟩; replace HB := Aside0.mk (below_step (kH HB) hb); (try clear hb); (try clear hb2); (try clear hk); (try clear hi)))
  go_meet
  case rel => exact ⟨_, (q2), RSq, (by first | exact H' | (subst_vars; exact H')), ⟨by first | omega | exact Nat.le_refl _⟩, ⟨kH HB⟩⟩
 case rest =>
  clear HC4; (try clear c2); (try clear p2); (try clear c4); (try clear c6); (try clear p6); obtain ⟨kq, qa, rfl, HA, HJ3, HB⟩ := hcut
  cases kq with
  | zero => exact absurd HA.out (by simp [prod_Mul.j0])
  | succ kj3 =>
   have H := HA.out; clear HA
   simp only [prod_Mul.j0] at H
   by_cases c11 : qa = true
   · subst c11
     have H1 : ((prod_loud.f kj3 (([a0, a1] : List Int))).bind fun q4 => (some (9221120237041090560, q4))) = some (r1, r2) := by rw [if_pos rfl] at H; exact H
     clear H; have H := H1; clear H1; obtain ⟨y673, hy673⟩ : ∃ y_ : List Int, y_ = (([a0, a1] : List Int)) := ⟨_, rfl⟩
     replace H : ((prod_loud.f kj3 y673).bind fun q4 => (some (9221120237041090560, q4))) = some (r1, r2) := by first | (rw [hy673]; with_reducible exact H) | (have H2_ := (Option.bind_some _ _).symm.trans H; rw [hy673]; with_reducible exact H2_) | (have H2_ := (Option.bind_some _ _).symm.trans H; with_reducible exact H2_) | with_reducible exact H | (rw [hy673]; exact H) | exact H
     have Ny673 := Aside0.mk hy673; clear hy673; replace H := Option.bind_eq_some_iff.mp H; obtain ⟨q4, qk, H⟩ := H; replace H : (some (9221120237041090560, q4)) = some (r1, r2) := H; have A12 := Aside0.mk qk; clear qk
     simp only [Option.some.injEq, Prod.mk.injEq] at H
     obtain ⟨rfl, rfl⟩ := H
     go_wp2_with (first | ((with_reducible refine gate_dst (N := 17) rfl ?_); refine Kd.R_lit (Kd.int .u64) _ 22 ?hg (N := 17) ?hd (xs := ([a0, a1] : List Int)) (inner := [.int .u64 a0, .int .u64 a1]) (ok := fun _ => True) (okp := fun _ => True) ?hr ?hp (fun _ hk => hk) trivial (Below.refl _ _) (Nat.le_refl _) (by simp) ?_; (case hd => rfl); (case hg => rfl); (case hr => first | (go_simp; done) | (go_simp; rfl)); (case hp => exact (Reps.one (show Kd.M (Kd.int .u64) _ _ _ a0 [.int .u64 a0] from rfl) (Reps.one (show Kd.M (Kd.int .u64) _ _ _ a1 [.int .u64 a1] from rfl) (Reps.none _ _)))); intro v674 w13 ho14 hb hg_ hnew_; clear hg_ hnew_; (first | rw [← Ny673.out] at ho14 | (simp only [Int.reduceToNat] at ho14; rw [← Ny673.out] at ho14)); have q9 := Aside0.mk (Kd.R_lower ho14 (below_size (kH HB))); replace HB := Aside0.mk (below_step (kH HB) hb); clear hb ho14; obtain ⟨qt, qu, eo15⟩ := Kd.R_slice q9.out; subst eo15) | ((with_reducible refine gate_callee (f := 46) rfl ?_); refine goesL_ (some 18) rfl rfl Try.func46 (by kernel_rfl) rfl #[.slice qt y673.length qu] rfl LMq ?_; (with_reducible refine (prod_loud.calls kj3 _ _ y673 q4 _ ?side1 ?side2 A12.out).mono ?_); (case side1 => repeat (first | exact (Kd.R_reads' q9.out).2.2 | (with_reducible refine Kd.C_alloc ?_ _) | (with_reducible refine Kd.C_drewN ?_ _) | (with_reducible refine Kd.C_drew ?_))); (case side2 => exact (Kd.R_reads' q9.out).2.1); rintro e w16 ⟨rfl, hb⟩; refine ⟨_, rfl, ?_⟩; replace q9 := Aside0.mk (Kd.R_below (kR q9) hb); replace HB := Aside0.mk (below_step (kH HB) hb); (try clear hb); (try clear hb2); (try clear hk); (try clear hi)))
     go_ret2
     exact ⟨by first | rfl | (simp [errW_none, errW_some] <;> rfl) | (simp [*, errW_none, errW_some] <;> rfl), kH HB⟩
   replace c11 := Bool.eq_false_iff.mpr c11; subst c11
   have H1 : ((prod_nothing.f a0 a1).bind fun q6 => (if q6 = true then (some (9221120237041090560, 1)) else ((pat_Finite.f a0).bind fun q3 => (if q3 = true then ((pat_Finite.f a1).bind fun q0 => (prod_Mul.j1 kj3 a0 a1 a2 (!q0))) else (prod_Mul.j1 kj3 a0 a1 a2 true))))) = some (r1, r2) := by rw [if_neg (show ¬ (false = true) by decide)] at H; exact H
   clear H; have H := H1; clear H1; replace H := Option.bind_eq_some_iff.mp H; obtain ⟨q6, ql, H⟩ := H; replace H : (if q6 = true then (some (9221120237041090560, 1)) else ((pat_Finite.f a0).bind fun q3 => (if q3 = true then ((pat_Finite.f a1).bind fun q0 => (prod_Mul.j1 kj3 a0 a1 a2 (!q0))) else (prod_Mul.j1 kj3 a0 a1 a2 true)))) = some (r1, r2) := H; have A17 := Aside0.mk ql; clear ql
   by_cases c18 : q6 = true
   · subst c18
     have H1 : (some (9221120237041090560, 1)) = some (r1, r2) := by rw [if_pos rfl] at H; exact H
     clear H; have H := H1; clear H1
     simp only [Option.some.injEq, Prod.mk.injEq] at H
     obtain ⟨rfl, rfl⟩ := H
     go_wp2_with (first | ((with_reducible refine gate_callee (f := 44) rfl ?_); refine goesL_ (some 22) rfl rfl Try.func44 (by kernel_rfl) rfl #[.int .u64 a0, .int .u64 a1] rfl LMq ?_; (with_reducible refine (prod_nothing.calls a0 a1 true _ A17.out).mono ?_); rintro e w19 ⟨rfl, hb⟩; refine ⟨_, rfl, ?_⟩; replace HB := Aside0.mk (below_step (kH HB) hb); (try clear hb); (try clear hb2); (try clear hk); (try clear hi)))
     go_ret2
     exact ⟨by first | rfl | (simp [errW_none, errW_some] <;> rfl) | (simp [*, errW_none, errW_some] <;> rfl), kH HB⟩
   replace c18 := Bool.eq_false_iff.mpr c18; subst c18
   have H1 : ((pat_Finite.f a0).bind fun q3 => (if q3 = true then ((pat_Finite.f a1).bind fun q0 => (prod_Mul.j1 kj3 a0 a1 a2 (!q0))) else (prod_Mul.j1 kj3 a0 a1 a2 true))) = some (r1, r2) := by rw [if_neg (show ¬ (false = true) by decide)] at H; exact H
   clear H; have H := H1; clear H1; have qj := Aside0.mk H; clear H
   go_upto_region 5 with (first | ((with_reducible refine gate_callee (f := 44) rfl ?_); refine goesL_ (some 22) rfl rfl Try.func44 (by kernel_rfl) rfl #[.int .u64 a0, .int .u64 a1] rfl LMq ?_; (with_reducible refine (prod_nothing.calls a0 a1 false _ A17.out).mono ?_); rintro e w21 ⟨rfl, hb⟩; refine ⟨_, rfl, ?_⟩; replace HB := Aside0.mk (below_step (kH HB) hb); (try clear hb); (try clear hb2); (try clear hk); (try clear hi)))
   (try simp only [Act.put, List.setIfInBounds_toArray, List.set_cons_zero, List.set_cons_succ])
   go_cut [23] (fun v23 wc => ∃ (kq : Nat) (qb : Bool), v23 = .bool qb ∧ Aside0 (prod_Mul.j1 kq a0 a1 a2 qb = some (r1, r2)) ∧ Aside0 (kq ≤ kj3) ∧ Aside0 (Below w.heap.size w wc))
   case first =>
    have H := qj.out; clear qj; replace H := Option.bind_eq_some_iff.mp H; obtain ⟨q3, qm, H⟩ := H; replace H : (if q3 = true then ((pat_Finite.f a1).bind fun q0 => (prod_Mul.j1 kj3 a0 a1 a2 (!q0))) else (prod_Mul.j1 kj3 a0 a1 a2 true)) = some (r1, r2) := H; have A22 := Aside0.mk qm; clear qm
    by_cases c23 : q3 = true
    · subst c23
      have H1 : ((pat_Finite.f a1).bind fun q0 => (prod_Mul.j1 kj3 a0 a1 a2 (!q0))) = some (r1, r2) := by rw [if_pos rfl] at H; exact H
      clear H; have H := H1; clear H1; replace H := Option.bind_eq_some_iff.mp H; obtain ⟨q0, qn, H⟩ := H; replace H : (prod_Mul.j1 kj3 a0 a1 a2 (!q0)) = some (r1, r2) := H; have A24 := Aside0.mk qn; clear qn; have H' := Aside0.mk H; clear H
      go_wp2_with (first | ((with_reducible refine gate_callee (f := 47) rfl ?_); refine goesL_ (some 25) rfl rfl Try.func47 (by kernel_rfl) rfl #[.int .u64 a0] rfl LMq ?_; (with_reducible refine (pat_Finite.calls a0 true _ A22.out).mono ?_); rintro e w25 ⟨rfl, hb⟩; refine ⟨_, rfl, ?_⟩; replace HB := Aside0.mk (below_step (kH HB) hb); (try clear hb); (try clear hb2); (try clear hk); (try clear hi)) | (go_at_call 47; (with_reducible refine (pat_Finite.calls a1 q0 _ A24.out).mono ?_); rintro e w26 ⟨rfl, hb⟩; replace HB := Aside0.mk (below_step (kH HB) hb); (try clear hb); (try clear hb2); (try clear hk); (try clear hi)))
      go_meet
      case rel => exact ⟨_, (!q0), RSq, (by first | exact H' | (subst_vars; exact H')), ⟨by have := HJ3.out; first | omega | exact Nat.le_refl _⟩, ⟨kH HB⟩⟩
    replace c23 := Bool.eq_false_iff.mpr c23; subst c23
    have H1 : (prod_Mul.j1 kj3 a0 a1 a2 true) = some (r1, r2) := by rw [if_neg (show ¬ (false = true) by decide)] at H; exact H
    clear H; have H := H1; clear H1; have H' := Aside0.mk H; clear H
    go_wp2_with (first | ((with_reducible refine gate_callee (f := 47) rfl ?_); refine goesL_ (some 25) rfl rfl Try.func47 (by kernel_rfl) rfl #[.int .u64 a0] rfl LMq ?_; (with_reducible refine (pat_Finite.calls a0 false _ A22.out).mono ?_); rintro e w27 ⟨rfl, hb⟩; refine ⟨_, rfl, ?_⟩; replace HB := Aside0.mk (below_step (kH HB) hb); (try clear hb); (try clear hb2); (try clear hk); (try clear hi)))
    go_meet
    case rel => exact ⟨_, (true), RSq, (by first | exact H' | (subst_vars; exact H')), ⟨by have := HJ3.out; first | omega | exact Nat.le_refl _⟩, ⟨kH HB⟩⟩
   case rest =>
    clear qj; (try clear c1); (try clear c2); (try clear p2); (try clear c4); (try clear c6); (try clear p6); (try clear c11); (try clear c18); (try clear c23); (try clear c26); (try clear p2); (try clear p6); obtain ⟨kq, qb, rfl, HA, HJ19, HB⟩ := hcut
    cases kq with
    | zero => exact absurd HA.out (by simp [prod_Mul.j1])
    | succ kj19 =>
     have H := HA.out; clear HA
     simp only [prod_Mul.j1] at H
     by_cases c28 : qb = true
     · subst c28
       have H1 : ((prod_sign.f a0 a1).bind fun q7 => (some (Go.bits .or .u64 9218868437227405312 q7, 0))) = some (r1, r2) := by rw [if_pos rfl] at H; exact H
       clear H; have H := H1; clear H1; replace H := Option.bind_eq_some_iff.mp H; obtain ⟨q7, qo, H⟩ := H; replace H : (some (Go.bits .or .u64 9218868437227405312 q7, 0)) = some (r1, r2) := H; have A29 := Aside0.mk qo; clear qo
       simp only [Option.some.injEq, Prod.mk.injEq] at H
       obtain ⟨rfl, rfl⟩ := H
       go_wp2_with (first | ((with_reducible refine gate_callee (f := 43) rfl ?_); refine goesL_ (some 34) rfl rfl Try.func43 (by kernel_rfl) rfl #[.int .u64 a0, .int .u64 a1] rfl LMq ?_; (with_reducible refine (prod_sign.calls a0 a1 q7 _ A29.out).mono ?_); rintro e w' ⟨rfl, ⟨nd, rfl⟩⟩; refine ⟨_, rfl, ?_⟩))
       go_ret2
       exact ⟨by first | rfl | (simp [errW_none, errW_some] <;> rfl) | (simp [*, errW_none, errW_some] <;> rfl), kH HB⟩
     replace c28 := Bool.eq_false_iff.mpr c28; subst c28
     have H1 : ((prod_exact.f a0 a1).bind fun q1 => ((rnd_Round.f q1.1 q1.2.1 q1.2.2.1 q1.2.2.2.1 q1.2.2.2.2.1 q1.2.2.2.2.2.1 q1.2.2.2.2.2.2 a2).bind fun q5 => (some (q5.1, q5.2)))) = some (r1, r2) := by rw [if_neg (show ¬ (false = true) by decide)] at H; exact H
     clear H; have H := H1; clear H1; replace H := Option.bind_eq_some_iff.mp H; obtain ⟨⟨qc, qd, qe, qf, qg, qh, qi⟩, qp, H⟩ := H; replace H : ((rnd_Round.f qc qd qe qf qg qh qi a2).bind fun q5 => (some (q5.1, q5.2))) = some (r1, r2) := H; have A30 := Aside0.mk qp; clear qp; replace H := Option.bind_eq_some_iff.mp H; obtain ⟨⟨qq, qr⟩, qs, H⟩ := H; replace H : (some (qq, qr)) = some (r1, r2) := H; have A31 := Aside0.mk qs; clear qs
     simp only [Option.some.injEq, Prod.mk.injEq] at H
     obtain ⟨rfl, rfl⟩ := H
     go_wp2_with (first | ((with_reducible refine gate_callee (f := 51) rfl ?_); refine goesL_ (some 38) rfl rfl Try.func51 (by kernel_rfl) rfl #[.int .u64 a0, .int .u64 a1] rfl LMq ?_; (with_reducible refine (prod_exact.calls a0 a1 qc qd qe qf qg qh qi _ A30.out).mono ?_); rintro e w32 ⟨rfl, hb⟩; refine ⟨_, rfl, ?_⟩; replace HB := Aside0.mk (below_step (kH HB) hb); (try clear hb); (try clear hb2); (try clear hk); (try clear hi)) | ((with_reducible refine gate_callee (f := 30) rfl ?_); refine goesL_ (some 40) rfl rfl Try.func30 (by kernel_rfl) rfl #[.agg #[.bool qc, .int .i64 qd, .int .u64 qe, .int .u64 qf, .int .u64 qg, .int .u64 qh, .bool qi], .int .i64 a2] rfl LMq ?_; (with_reducible refine (rnd_Round.calls qc qd qe qf qg qh qi a2 qq qr _ A31.out).mono ?_); rintro e w33 ⟨rfl, hb⟩; refine ⟨_, rfl, ?_⟩; replace HB := Aside0.mk (below_step (kH HB) hb); (try clear hb); (try clear hb2); (try clear hk); (try clear hi)))
     go_ret2
     exact ⟨by first | rfl | (simp [errW_none, errW_some] <;> rfl) | (simp [*, errW_none, errW_some] <;> rfl), kH HB⟩
end Go.Proofs.Ytbgefpeicmbgiaa.X
end
section
namespace Go.Proofs.Ytbgefpeicmbgiaa.X
open Go.RowKit Go.Proofs.YtbgefpeicmbgiaaW.PrintWords Go.Proofs.YtbgefpeicmbgiaaW.PrintLast Go.Proofs.YtbgefpeicmbgiaaW.PrintMore
attribute [local go_sem] max2_int min2_int max_two min_two max_three min_three max_four min_four   
set_option linter.unusedVariables false
set_option linter.unusedSimpArgs false
def tillerlaw06_sure.f (k : Nat)  : Option (Bool) := (prod_Fma.f k 4607182418800017409 4607182418800017406 13830554455654793216 0).bind fun q1 => (if q1.1 = 13362180094408261632 then (some (q1.2 == 0)) else (some false))
theorem tillerlaw06_sure.mono : ∀ k, LeO (tillerlaw06_sure.f k ) (tillerlaw06_sure.f (k + 1) ) := by
 intro  k
 unfold tillerlaw06_sure.f
 repeat' first
  | (with_reducible exact prod_Fma.mono _ _ _ _ _)
  | (with_reducible exact LeO.refl _)
  | (with_reducible exact LeO.none _)
  | (with_reducible refine LeO.ite ?_ ?_)
  | (with_reducible refine LeO.bind ?_ (fun _ => ?_))
  | exact prod_Fma.mono _ _ _ _ _
  | exact LeO.none _
  | refine LeO.ite ?_ ?_
  | refine LeO.bind ?_ (fun _ => ?_)
set_option maxHeartbeats 8000000 in
set_option maxRecDepth 100000 in
theorem tillerlaw06_sure.calls (k : Nat)  (r : Bool) (w : World) (h : tillerlaw06_sure.f k  = some r) :
 Calls Try.prog 25 #[] w fun e w' => e = .returned (.bool r) ∧ Below w.heap.size w w' := by
 have HB := Aside0.mk (Below.refl w.heap.size w); have H : ((prod_Fma.f k 4607182418800017409 4607182418800017406 13830554455654793216 0).bind fun q1 => (if q1.1 = 13362180094408261632 then (some (q1.2 == 0)) else (some false))) = some r := h; clear h; replace H := Option.bind_eq_some_iff.mp H; obtain ⟨⟨q0, q2⟩, A10, H⟩ := H; replace H : (if q0 = 13362180094408261632 then (some (q2 == 0)) else (some false)) = some r := H; have A1 := Aside0.mk A10; clear A10
 by_cases c2 : q0 = 13362180094408261632
 · rw [if_pos c2] at H
   have q3 : (q0 == 13362180094408261632) = true := beq_iff_eq.mpr c2; have q4 : (q0 != 13362180094408261632) = false := bne_eq_false_iff_eq.mpr c2; clear c2; obtain rfl := Option.some.inj H
   go_enter Try.func25, Try.ntmps25
   go_wp2_with (first | ((with_reducible refine gate_callee (f := 23) rfl ?_); refine goesL_ (some 4) rfl rfl Try.func23 (by kernel_rfl) rfl #[.int .u64 4607182418800017409, .int .u64 4607182418800017406, .int .u64 13830554455654793216, .int .i64 0] rfl LMq ?_; (with_reducible refine (prod_Fma.calls k 4607182418800017409 4607182418800017406 13830554455654793216 0 q0 q2 _ A1.out).mono ?_); rintro e w3 ⟨rfl, hb⟩; refine ⟨_, rfl, ?_⟩; replace HB := Aside0.mk (below_step (kH HB) hb); (try clear hb); (try clear hb2); (try clear hk); (try clear hi)))
   go_ret
   exact ⟨by first | rfl | (simp [errW_none, errW_some] <;> rfl) | (simp [*, errW_none, errW_some] <;> rfl), kH HB⟩
 rw [if_neg c2] at H
 have q3 : (q0 == 13362180094408261632) = false := beq_eq_false_iff_ne.mpr c2; have q4 : (q0 != 13362180094408261632) = true := bne_iff_ne.mpr c2; obtain rfl := Option.some.inj H
 go_enter Try.func25, Try.ntmps25
 go_wp2_with (first | ((with_reducible refine gate_callee (f := 23) rfl ?_); refine goesL_ (some 4) rfl rfl Try.func23 (by kernel_rfl) rfl #[.int .u64 4607182418800017409, .int .u64 4607182418800017406, .int .u64 13830554455654793216, .int .i64 0] rfl LMq ?_; (with_reducible refine (prod_Fma.calls k 4607182418800017409 4607182418800017406 13830554455654793216 0 q0 q2 _ A1.out).mono ?_); rintro e w4 ⟨rfl, hb⟩; refine ⟨_, rfl, ?_⟩; replace HB := Aside0.mk (below_step (kH HB) hb); (try clear hb); (try clear hb2); (try clear hk); (try clear hi)))
 go_ret
 exact ⟨by first | rfl | (simp [errW_none, errW_some] <;> rfl) | (simp [*, errW_none, errW_some] <;> rfl), kH HB⟩
end Go.Proofs.Ytbgefpeicmbgiaa.X
end
section
namespace Go.Proofs.Ytbgefpeicmbgiaa
set_option linter.unusedVariables false
set_option linter.unusedSimpArgs false
open Go.RowKit X Go.Proofs.YtbgefpeicmbgiaaW.PrintWords
def bad (a b : Int) : Bool := decide (pC a = 0 ∧ pC b = 3 ∨ pC a = 3 ∧ pC b = 0)
theorem bad_iff (a b : Int) : bad a b = true ↔ pC a = 0 ∧ pC b = 3 ∨ pC a = 3 ∧ pC b = 0 := by unfold bad; exact decide_eq_true_iff
def qMul (a b m : Int) : Int × Int :=
  if 3 < pC a ∨ 3 < pC b then qNone a b else if bad a b = true then (9221120237041090560, 1) else if pC a = 3 ∨ pC b = 3 then (9218868437227405312 + sg (qMi a b), 0) else rRound (qMi a b) (pX a + pX b) ((pS a).toNat * (pS b).toNat) m
theorem nothing_eq {a b : Int} (ha : U a) (hb : U b) : prod_nothing.f a b = some (bad a b) := by
  have z1 := zero_iff (a := a)
  have z2 := zero_iff (a := b)
  have i1 := inf_iff (a := a)
  have i2 := inf_iff (a := b)
  unfold prod_nothing.f bad
  rw [pat_Abs.eq a (inU_of ha), Option.bind_some, pat_Abs.eq b (inU_of hb), Option.bind_some]
  by_cases h0 : pA a = 0
  · have c0 := z1.1 h0
    rw [if_pos h0]
    by_cases h1 : pA b = 9218868437227405312
    · rw [if_pos h1, decide_eq_true (.inl ⟨c0, i2.1 h1⟩)]
    · have : pC b ≠ 3 := fun h => h1 (i2.2 h)
      rw [if_neg h1, if_neg (by omega), decide_eq_false (by omega)]
  · have c0 : pC a ≠ 0 := fun h => h0 (z1.2 h)
    rw [if_neg h0]
    by_cases h1 : pA a = 9218868437227405312
    · have c3 := i1.1 h1
      rw [if_pos h1]
      congr 1
      rw [Bool.eq_iff_iff]
      simp only [beq_iff_eq, decide_eq_true_eq]
      rw [z2]
      omega
    · have : pC a ≠ 3 := fun h => h1 (i1.2 h)
      rw [if_neg h1, decide_eq_false (by omega)]
theorem psign_eq {a b : Int} (ha : U a) (hb : U b) : prod_sign.f a b = some (sg (qMi a b)) := by
  have hx := bits_xor_U a b ha hb
  unfold prod_sign.f qMi
  rw [band_sg _ hx.1, hx.2]
theorem pexact_eq {a b : Int} (ha : U a) (hb : U b) : prod_exact.f a b = some (qMi a b, pX a + pX b, l0 ((pS a).toNat * (pS b).toNat), l1 ((pS a).toNat * (pS b).toNat), l2 ((pS a).toNat * (pS b).toNat), l3 ((pS a).toNat * (pS b).toNat), false) := by
  have sa := pS_bd a
  have sb := pS_bd b
  have xa := pX_bd a
  have xb := pX_bd b
  have ew : wrap64 (pX a + pX b) = pX a + pX b := by unfold wrap64; omega
  unfold prod_exact.f
  rw [pat_Take.eq a (inU_of ha), Option.bind_some, pat_Take.eq b (inU_of hb), Option.bind_some]
  dsimp only
  rw [wide_Of.eq (pS a) (inU_of (U_pS a)), Option.bind_some, wide_Of.eq (pS b) (inU_of (U_pS b)), Option.bind_some]
  dsimp only
  rw [wide_Mul.eq (pS_T a) (pS_T b) (by omega) (by omega), Option.bind_some, ew]
  rfl
theorem prod_lt (a b : Int) : (pS a).toNat * (pS b).toNat < 2 ^ 106 := by
  have sa := pS_bd a
  have sb := pS_bd b
  have h1 : (pS a).toNat < 2 ^ 53 := by rw [show (2 : Nat) ^ 53 = 9007199254740992 from rfl]; omega
  have h2 : (pS b).toNat < 2 ^ 53 := by rw [show (2 : Nat) ^ 53 = 9007199254740992 from rfl]; omega
  have := Nat.mul_lt_mul'' h1 h2
  rw [← Nat.pow_add] at this
  exact this
theorem loud_eq {a b : Int} (ha : U a) (hb : U b) (k : Nat) : prod_loud.f (k + 3) [a, b] = some (qNone a b).2 := by
  have r0 : rd [a, b] 0 = a := rfl
  have r1 : rd [a, b] 1 = b := rfl
  have ll : (([a, b] : List Int).length : Int) = 2 := rfl
  have w0 : wrap64 (0 + 1) = 1 := by unfold wrap64; omega
  have w1 : wrap64 (1 + 1) = 2 := by unfold wrap64; omega
  unfold prod_loud.f qNone
  by_cases h : pC a = 5
  · simp only [prod_loud.l0]
    rw [ll, if_pos (by decide), if_pos (by decide), if_pos (by decide), r0, pat_Class.eq a (inU_of ha), Option.bind_some, if_pos h, if_pos (.inl h)]
  · simp only [prod_loud.l0]
    rw [ll, if_pos (by decide), if_pos (by decide), if_pos (by decide), r0, pat_Class.eq a (inU_of ha), Option.bind_some, if_neg h, w0, if_pos (by decide), if_pos (by decide), if_pos (by decide), r1, pat_Class.eq b (inU_of hb), Option.bind_some]
    by_cases g : pC b = 5
    · rw [if_pos g, if_pos (.inr g)]
    · rw [if_neg g, w1, if_neg (by decide), if_neg (fun z => z.elim h g)]
theorem mul_spec (k : Nat) {a b : Int} (m : Int) (ha : U a) (hb : U b) : prod_Mul.f (k + 5) a b m = some (qMul a b m) := by
  have ca := pC_bd a
  have cb := pC_bd b
  have nanj : 3 < pC a ∨ 3 < pC b → prod_Mul.j0 (k + 5) a b m true = some (qMul a b m) := fun h => by
    simp only [prod_Mul.j0]
    rw [if_pos trivial, loud_eq ha hb (k + 1)]
    unfold qMul
    rw [if_pos h]
    rfl
  unfold prod_Mul.f
  rw [pat_IsNaN.eq a (inU_of ha), Option.bind_some]
  by_cases n1 : 3 < pC a
  · rw [decide_eq_true n1, if_pos rfl]
    exact nanj (.inl n1)
  · rw [decide_eq_false n1, if_neg (by decide), pat_IsNaN.eq b (inU_of hb), Option.bind_some]
    by_cases n2 : 3 < pC b
    · rw [decide_eq_true n2]
      exact nanj (.inr n2)
    · rw [decide_eq_false n2]
      unfold qMul
      rw [if_neg (fun h => h.elim n1 n2)]
      simp only [prod_Mul.j0]
      rw [if_neg (by decide), nothing_eq ha hb, Option.bind_some]
      by_cases hbad : bad a b = true
      · rw [if_pos hbad, if_pos hbad]
      · rw [if_neg hbad, if_neg hbad, pat_Finite.eq a (inU_of ha), Option.bind_some]
        have infj : pC a = 3 ∨ pC b = 3 → prod_Mul.j1 (k + 4) a b m true = some (9218868437227405312 + sg (qMi a b), 0) := fun h => by
          simp only [prod_Mul.j1]
          rw [if_pos trivial, psign_eq ha hb, Option.bind_some, bor_inf]
        by_cases i1 : pC a = 3
        · rw [decide_eq_false (by omega), if_neg (by decide), if_pos (.inl i1)]
          exact infj (.inl i1)
        · rw [decide_eq_true (by omega), if_pos rfl, pat_Finite.eq b (inU_of hb), Option.bind_some]
          by_cases i2 : pC b = 3
          · rw [decide_eq_false (by omega), if_pos (.inr i2)]
            exact infj (.inr i2)
          · rw [decide_eq_true (by omega), if_neg (by omega)]
            have hxa := pX_bd a
            have hxb := pX_bd b
            have hl := prod_lt a b
            have h254 : (pS a).toNat * (pS b).toNat < 2 ^ 254 := Nat.lt_trans hl (by decide)
            have hT : (pS a).toNat * (pS b).toNat < T256 := by rw [T256_eq]; exact Nat.lt_trans hl (by decide)
            have eR := rnd_Round.eq hT (qMi a b) (pX a + pX b) false m h254 (by omega) (by omega)
            simp only [prod_Mul.j1]
            rw [if_neg (by decide), pexact_eq ha hb, Option.bind_some]
            dsimp only
            rw [eR]
            rfl
theorem sure06 (k : Nat) : tillerlaw06_sure.f (k + 12) = some true := by
  have h : tillerlaw06_sure.f 12 = some true := by decide +kernel
  exact at_rounds (fun k => tillerlaw06_sure.mono k) (by omega) h
end Go.Proofs.Ytbgefpeicmbgiaa
end
