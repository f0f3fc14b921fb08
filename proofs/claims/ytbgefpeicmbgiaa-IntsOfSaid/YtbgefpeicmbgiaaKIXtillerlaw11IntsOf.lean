import Derived.Test.YtbgefpeicmbgiaaKI4
import Derived.Test.YtbgefpeicmbgiaaKI5
import Derived.Test.YtbgefpeicmbgiaaKI10
import Derived.Test.YtbgefpeicmbgiaaKI18
namespace Go.Proofs.Ytbgefpeicmbgiaa.X
open Go.RowKit Go.Proofs.YtbgefpeicmbgiaaW.PrintWords Go.Proofs.YtbgefpeicmbgiaaW.PrintLast Go.Proofs.YtbgefpeicmbgiaaW.PrintMore
attribute [local go_sem] max2_int min2_int max_two min_two max_three min_three max_four min_four   
set_option linter.unusedVariables false
set_option linter.unusedSimpArgs false
def tillerlaw11_IntsOf.j0 : Nat → Int → Int → Int → Int → Int → Int → Option (Bool)
 | 0, _, _, _, _, _, _ => none
 | k + 1, x0, x1, x2, x7, x8, x9 => (tillerref11_Of.f k (decide (x0 < 0)) x9 x2).bind fun qe => ((ints_OfPlain.f x1 x2).bind fun qd => ((tillerref11_Of.f k false x1 x2).bind fun qb => (if x7 = qe.1 then (if (wrap64 (x8)) = qe.2 then (if qd.1 = qb.1 then (if (wrap64 (qd.2)) = qb.2 then ((tillerlaw11_sure.f k).bind fun q9 => (some q9)) else (some false)) else (some false)) else (some false)) else (some false))))
def tillerlaw11_IntsOf.f (k : Nat) (a0 : Int) (a1 : Int) (a2 : Int) : Option (Bool) := (ints_Of.f a0 a2).bind fun qa => (if a0 < 0 then (tillerlaw11_IntsOf.j0 k a0 a1 a2 qa.1 qa.2 (IntKind.u64.wrap (-(IntKind.u64.wrap (a0))))) else (tillerlaw11_IntsOf.j0 k a0 a1 a2 qa.1 qa.2 (IntKind.u64.wrap (a0))))
theorem tillerlaw11_IntsOf.mono_l : ∀ k, (∀ y0 y1 y2 y3 y4 y5, LeO (tillerlaw11_IntsOf.j0 k y0 y1 y2 y3 y4 y5) (tillerlaw11_IntsOf.j0 (k + 1) y0 y1 y2 y3 y4 y5))
 | 0 => fun _ _ _ _ _ _ r h => by simp [tillerlaw11_IntsOf.j0] at h
 | k + 1 => by
  have ih0 := tillerlaw11_IntsOf.mono_l k
  · intro y0 y1 y2 y3 y4 y5
    unfold tillerlaw11_IntsOf.j0
    repeat' first
    | (with_reducible exact ih0 _ _ _ _ _ _)
    | (with_reducible exact tillerlaw11_sure.mono _)
    | (with_reducible exact tillerref11_Of.mono _ _ _ _)
    | (with_reducible exact LeO.refl _)
    | (with_reducible exact LeO.none _)
    | (with_reducible refine LeO.ite ?_ ?_)
    | (with_reducible refine LeO.bind ?_ (fun _ => ?_))
    | exact ih0 _ _ _ _ _ _
    | exact tillerlaw11_sure.mono _
    | exact tillerref11_Of.mono _ _ _ _
    | exact LeO.none _
    | refine LeO.ite ?_ ?_
    | refine LeO.bind ?_ (fun _ => ?_)
theorem tillerlaw11_IntsOf.mono : ∀ a0 a1 a2 k, LeO (tillerlaw11_IntsOf.f k a0 a1 a2) (tillerlaw11_IntsOf.f (k + 1) a0 a1 a2) := by
 intro a0 a1 a2 k; have ih0 := tillerlaw11_IntsOf.mono_l k
 unfold tillerlaw11_IntsOf.f
 repeat' first
  | (with_reducible exact ih0 _ _ _ _ _ _)
  | (with_reducible exact tillerlaw11_sure.mono _)
  | (with_reducible exact tillerref11_Of.mono _ _ _ _)
  | (with_reducible exact LeO.refl _)
  | (with_reducible exact LeO.none _)
  | (with_reducible refine LeO.ite ?_ ?_)
  | (with_reducible refine LeO.bind ?_ (fun _ => ?_))
  | exact ih0 _ _ _ _ _ _
  | exact tillerlaw11_sure.mono _
  | exact tillerref11_Of.mono _ _ _ _
  | exact LeO.none _
  | refine LeO.ite ?_ ?_
  | refine LeO.bind ?_ (fun _ => ?_)
set_option maxHeartbeats 8000000 in
set_option maxRecDepth 100000 in
theorem tillerlaw11_IntsOf.calls (k : Nat) (a0 : Int) (a1 : Int) (a2 : Int) (r : Bool) (w : World) (h : tillerlaw11_IntsOf.f k a0 a1 a2 = some r) :
 Calls Try.prog 3 #[.int .i64 a0, .int .u64 a1, .int .i64 a2] w fun e w' => e = .returned (.bool r) ∧ Below w.heap.size w w' := by
 have HB := Aside0.mk (Below.refl w.heap.size w); have H : ((ints_Of.f a0 a2).bind fun qa => (if a0 < 0 then (tillerlaw11_IntsOf.j0 k a0 a1 a2 qa.1 qa.2 (IntKind.u64.wrap (-(IntKind.u64.wrap (a0))))) else (tillerlaw11_IntsOf.j0 k a0 a1 a2 qa.1 qa.2 (IntKind.u64.wrap (a0))))) = some r := h; clear h; replace H := Option.bind_eq_some_iff.mp H; obtain ⟨⟨q3, q4⟩, A40, H⟩ := H; replace H : (if a0 < 0 then (tillerlaw11_IntsOf.j0 k a0 a1 a2 q3 q4 (IntKind.u64.wrap (-(IntKind.u64.wrap (a0))))) else (tillerlaw11_IntsOf.j0 k a0 a1 a2 q3 q4 (IntKind.u64.wrap (a0)))) = some r := H; have A4 := Aside0.mk A40; clear A40; have HC5 := Aside0.mk H; clear H
 go_enter Try.func3, Try.ntmps3
 go_upto_if 25 with (first | ((with_reducible refine gate_callee (f := 13) rfl ?_); refine goesL_ (some 19) rfl rfl Try.func13 (by kernel_rfl) rfl #[.int .i64 a0, .int .i64 a2] rfl LMq ?_; (with_reducible refine (ints_Of.calls a0 a2 q3 q4 _ A4.out).mono ?_); rintro e w6 ⟨rfl, hb⟩; refine ⟨_, rfl, ?_⟩; replace HB := Aside0.mk (below_step (kH HB) hb); (try clear hb); (try clear hb2); (try clear hk); (try clear hi)))
 (try simp only [Act.put, List.setIfInBounds_toArray, List.set_cons_zero, List.set_cons_succ])
 go_cut [9] (fun v9 wc => ∃ (kq : Nat) (q0 : Int), v9 = .int .u64 q0 ∧ Aside0 (tillerlaw11_IntsOf.j0 kq a0 a1 a2 q3 q4 q0 = some r) ∧ Aside0 (kq ≤ k) ∧ Aside0 (Below w.heap.size w wc))
 case first =>
  have H := HC5.out; clear HC5
  by_cases c7 : a0 < 0
  · rw [if_pos c7] at H
    have qc : decide (a0 < 0) = true := decide_eq_true c7; clear c7
    (first | rw [qc] | (simp only [i64_w, i32_w]; rw [qc]) | skip)
    have H' := Aside0.mk H; clear H
    go_wp2
    go_meet
    case rel => exact ⟨_, (IntKind.u64.wrap (-(IntKind.u64.wrap (a0)))), RSq, (by first | exact H' | (subst_vars; exact H')), ⟨by first | omega | exact Nat.le_refl _⟩, ⟨kH HB⟩⟩
  rw [if_neg c7] at H
  have qc : decide (a0 < 0) = false := decide_eq_false c7; clear c7
  (first | rw [qc] | (simp only [i64_w, i32_w]; rw [qc]) | skip)
  have H' := Aside0.mk H; clear H
  go_wp2
  go_meet
  case rel => exact ⟨_, (IntKind.u64.wrap (a0)), RSq, (by first | exact H' | (subst_vars; exact H')), ⟨by first | omega | exact Nat.le_refl _⟩, ⟨kH HB⟩⟩
 case rest =>
  clear HC5; (try clear c1); (try clear p2); (try clear c3); (try clear p6); (try clear c7); (try clear qc); obtain ⟨kq, q0, rfl, HA, HJ4, HB⟩ := hcut
  cases kq with
  | zero => exact absurd HA.out (by simp [tillerlaw11_IntsOf.j0])
  | succ kj4 =>
   have H := HA.out; clear HA
   simp only [tillerlaw11_IntsOf.j0] at H
   replace H := Option.bind_eq_some_iff.mp H; obtain ⟨⟨q1, q2⟩, A80, H⟩ := H; replace H : ((ints_OfPlain.f a1 a2).bind fun qd => ((tillerref11_Of.f kj4 false a1 a2).bind fun qb => (if q3 = q1 then (if (wrap64 (q4)) = q2 then (if qd.1 = qb.1 then (if (wrap64 (qd.2)) = qb.2 then ((tillerlaw11_sure.f kj4).bind fun q9 => (some q9)) else (some false)) else (some false)) else (some false)) else (some false)))) = some r := H; have A8 := Aside0.mk A80; clear A80; replace H := Option.bind_eq_some_iff.mp H; obtain ⟨⟨q5, q6⟩, A90, H⟩ := H; replace H : ((tillerref11_Of.f kj4 false a1 a2).bind fun qb => (if q3 = q1 then (if (wrap64 (q4)) = q2 then (if q5 = qb.1 then (if (wrap64 (q6)) = qb.2 then ((tillerlaw11_sure.f kj4).bind fun q9 => (some q9)) else (some false)) else (some false)) else (some false)) else (some false))) = some r := H; have A9 := Aside0.mk A90; clear A90; replace H := Option.bind_eq_some_iff.mp H; obtain ⟨⟨q7, q8⟩, qf, H⟩ := H; replace H : (if q3 = q1 then (if (wrap64 (q4)) = q2 then (if q5 = q7 then (if (wrap64 (q6)) = q8 then ((tillerlaw11_sure.f kj4).bind fun q9 => (some q9)) else (some false)) else (some false)) else (some false)) else (some false)) = some r := H; have A10 := Aside0.mk qf; clear qf
   by_cases c11 : q3 = q1
   · rw [if_pos c11] at H
     have qh : (q3 == q1) = true := beq_iff_eq.mpr c11; have qi : (q3 != q1) = false := bne_eq_false_iff_eq.mpr c11; clear c11
     by_cases c12 : (wrap64 (q4)) = q2
     · rw [if_pos c12] at H
       have qj : ((wrap64 (q4)) == q2) = true := beq_iff_eq.mpr c12; have qk : ((wrap64 (q4)) != q2) = false := bne_eq_false_iff_eq.mpr c12; clear c12
       by_cases c13 : q5 = q7
       · rw [if_pos c13] at H
         have ql : (q5 == q7) = true := beq_iff_eq.mpr c13; have qm : (q5 != q7) = false := bne_eq_false_iff_eq.mpr c13; clear c13
         by_cases c14 : (wrap64 (q6)) = q8
         · rw [if_pos c14] at H
           have qn : ((wrap64 (q6)) == q8) = true := beq_iff_eq.mpr c14; have qo : ((wrap64 (q6)) != q8) = false := bne_eq_false_iff_eq.mpr c14; clear c14; replace H := Option.bind_eq_some_iff.mp H; obtain ⟨q9, qg, H⟩ := H; replace H : (some q9) = some r := H; have A15 := Aside0.mk qg; clear qg; obtain rfl := Option.some.inj H
           go_wp2_with (first | ((with_reducible refine gate_callee (f := 14) rfl ?_); refine goesL_ (some 33) rfl rfl Try.func14 (by kernel_rfl) rfl #[.bool (decide (a0 < 0)), .int .u64 q0, .int .i64 a2] rfl LMq ?_; (with_reducible refine (tillerref11_Of.calls kj4 (decide (a0 < 0)) q0 a2 q1 q2 _ A8.out).mono ?_); rintro e w16 ⟨rfl, hb⟩; refine ⟨_, rfl, ?_⟩; replace HB := Aside0.mk (below_step (kH HB) hb); (try clear hb); (try clear hb2); (try clear hk); (try clear hi)) | ((with_reducible refine gate_callee (f := 15) rfl ?_); refine goesL_ (some 39) rfl rfl Try.func15 (by kernel_rfl) rfl #[.int .u64 a1, .int .i64 a2] rfl LMq ?_; (with_reducible refine (ints_OfPlain.calls a1 a2 q5 q6 _ A9.out).mono ?_); rintro e w17 ⟨rfl, hb⟩; refine ⟨_, rfl, ?_⟩; replace HB := Aside0.mk (below_step (kH HB) hb); (try clear hb); (try clear hb2); (try clear hk); (try clear hi)) | ((with_reducible refine gate_callee (f := 14) rfl ?_); refine goesL_ (some 45) rfl rfl Try.func14 (by kernel_rfl) rfl #[.bool false, .int .u64 a1, .int .i64 a2] rfl LMq ?_; (with_reducible refine (tillerref11_Of.calls kj4 false a1 a2 q7 q8 _ A10.out).mono ?_); rintro e w18 ⟨rfl, hb⟩; refine ⟨_, rfl, ?_⟩; replace HB := Aside0.mk (below_step (kH HB) hb); (try clear hb); (try clear hb2); (try clear hk); (try clear hi)) | (go_at_call 16; (with_reducible refine (tillerlaw11_sure.calls kj4  q9 _ A15.out).mono ?_); rintro e w19 ⟨rfl, hb⟩; replace HB := Aside0.mk (below_step (kH HB) hb); (try clear hb); (try clear hb2); (try clear hk); (try clear hi)))
           go_ret
           exact ⟨by first | rfl | (simp [errW_none, errW_some] <;> rfl) | (simp [*, errW_none, errW_some] <;> rfl), kH HB⟩
         rw [if_neg c14] at H
         have qn : ((wrap64 (q6)) == q8) = false := beq_eq_false_iff_ne.mpr c14; have qo : ((wrap64 (q6)) != q8) = true := bne_iff_ne.mpr c14; obtain rfl := Option.some.inj H
         go_wp2_with (first | ((with_reducible refine gate_callee (f := 14) rfl ?_); refine goesL_ (some 33) rfl rfl Try.func14 (by kernel_rfl) rfl #[.bool (decide (a0 < 0)), .int .u64 q0, .int .i64 a2] rfl LMq ?_; (with_reducible refine (tillerref11_Of.calls kj4 (decide (a0 < 0)) q0 a2 q1 q2 _ A8.out).mono ?_); rintro e w20 ⟨rfl, hb⟩; refine ⟨_, rfl, ?_⟩; replace HB := Aside0.mk (below_step (kH HB) hb); (try clear hb); (try clear hb2); (try clear hk); (try clear hi)) | ((with_reducible refine gate_callee (f := 15) rfl ?_); refine goesL_ (some 39) rfl rfl Try.func15 (by kernel_rfl) rfl #[.int .u64 a1, .int .i64 a2] rfl LMq ?_; (with_reducible refine (ints_OfPlain.calls a1 a2 q5 q6 _ A9.out).mono ?_); rintro e w21 ⟨rfl, hb⟩; refine ⟨_, rfl, ?_⟩; replace HB := Aside0.mk (below_step (kH HB) hb); (try clear hb); (try clear hb2); (try clear hk); (try clear hi)) | ((with_reducible refine gate_callee (f := 14) rfl ?_); refine goesL_ (some 45) rfl rfl Try.func14 (by kernel_rfl) rfl #[.bool false, .int .u64 a1, .int .i64 a2] rfl LMq ?_; (with_reducible refine (tillerref11_Of.calls kj4 false a1 a2 q7 q8 _ A10.out).mono ?_); rintro e w22 ⟨rfl, hb⟩; refine ⟨_, rfl, ?_⟩; replace HB := Aside0.mk (below_step (kH HB) hb); (try clear hb); (try clear hb2); (try clear hk); (try clear hi)))
         go_ret
         exact ⟨by first | rfl | (simp [errW_none, errW_some] <;> rfl) | (simp [*, errW_none, errW_some] <;> rfl), kH HB⟩
       rw [if_neg c13] at H
       have ql : (q5 == q7) = false := beq_eq_false_iff_ne.mpr c13; have qm : (q5 != q7) = true := bne_iff_ne.mpr c13; obtain rfl := Option.some.inj H
       go_wp2_with (first | ((with_reducible refine gate_callee (f := 14) rfl ?_); refine goesL_ (some 33) rfl rfl Try.func14 (by kernel_rfl) rfl #[.bool (decide (a0 < 0)), .int .u64 q0, .int .i64 a2] rfl LMq ?_; (with_reducible refine (tillerref11_Of.calls kj4 (decide (a0 < 0)) q0 a2 q1 q2 _ A8.out).mono ?_); rintro e w23 ⟨rfl, hb⟩; refine ⟨_, rfl, ?_⟩; replace HB := Aside0.mk (below_step (kH HB) hb); (try clear hb); (try clear hb2); (try clear hk); (try clear hi)) | ((with_reducible refine gate_callee (f := 15) rfl ?_); refine goesL_ (some 39) rfl rfl Try.func15 (by kernel_rfl) rfl #[.int .u64 a1, .int .i64 a2] rfl LMq ?_; (with_reducible refine (ints_OfPlain.calls a1 a2 q5 q6 _ A9.out).mono ?_); rintro e w24 ⟨rfl, hb⟩; refine ⟨_, rfl, ?_⟩; replace HB := Aside0.mk (below_step (kH HB) hb); (try clear hb); (try clear hb2); (try clear hk); (try clear hi)) | ((with_reducible refine gate_callee (f := 14) rfl ?_); refine goesL_ (some 45) rfl rfl Try.func14 (by kernel_rfl) rfl #[.bool false, .int .u64 a1, .int .i64 a2] rfl LMq ?_; (with_reducible refine (tillerref11_Of.calls kj4 false a1 a2 q7 q8 _ A10.out).mono ?_); rintro e w25 ⟨rfl, hb⟩; refine ⟨_, rfl, ?_⟩; replace HB := Aside0.mk (below_step (kH HB) hb); (try clear hb); (try clear hb2); (try clear hk); (try clear hi)))
       go_ret
       exact ⟨by first | rfl | (simp [errW_none, errW_some] <;> rfl) | (simp [*, errW_none, errW_some] <;> rfl), kH HB⟩
     rw [if_neg c12] at H
     have qj : ((wrap64 (q4)) == q2) = false := beq_eq_false_iff_ne.mpr c12; have qk : ((wrap64 (q4)) != q2) = true := bne_iff_ne.mpr c12; obtain rfl := Option.some.inj H
     go_wp2_with (first | ((with_reducible refine gate_callee (f := 14) rfl ?_); refine goesL_ (some 33) rfl rfl Try.func14 (by kernel_rfl) rfl #[.bool (decide (a0 < 0)), .int .u64 q0, .int .i64 a2] rfl LMq ?_; (with_reducible refine (tillerref11_Of.calls kj4 (decide (a0 < 0)) q0 a2 q1 q2 _ A8.out).mono ?_); rintro e w26 ⟨rfl, hb⟩; refine ⟨_, rfl, ?_⟩; replace HB := Aside0.mk (below_step (kH HB) hb); (try clear hb); (try clear hb2); (try clear hk); (try clear hi)) | ((with_reducible refine gate_callee (f := 15) rfl ?_); refine goesL_ (some 39) rfl rfl Try.func15 (by kernel_rfl) rfl #[.int .u64 a1, .int .i64 a2] rfl LMq ?_; (with_reducible refine (ints_OfPlain.calls a1 a2 q5 q6 _ A9.out).mono ?_); rintro e w27 ⟨rfl, hb⟩; refine ⟨_, rfl, ?_⟩; replace HB := Aside0.mk (below_step (kH HB) hb); (try clear hb); (try clear hb2); (try clear hk); (try clear hi)) | ((with_reducible refine gate_callee (f := 14) rfl ?_); refine goesL_ (some 45) rfl rfl Try.func14 (by kernel_rfl) rfl #[.bool false, .int .u64 a1, .int .i64 a2] rfl LMq ?_; (with_reducible refine (tillerref11_Of.calls kj4 false a1 a2 q7 q8 _ A10.out).mono ?_); rintro e w28 ⟨rfl, hb⟩; refine ⟨_, rfl, ?_⟩; replace HB := Aside0.mk (below_step (kH HB) hb); (try clear hb); (try clear hb2); (try clear hk); (try clear hi)))
     go_ret
     exact ⟨by first | rfl | (simp [errW_none, errW_some] <;> rfl) | (simp [*, errW_none, errW_some] <;> rfl), kH HB⟩
   rw [if_neg c11] at H
   have qh : (q3 == q1) = false := beq_eq_false_iff_ne.mpr c11; have qi : (q3 != q1) = true := bne_iff_ne.mpr c11; obtain rfl := Option.some.inj H
   go_wp2_with (first | ((with_reducible refine gate_callee (f := 14) rfl ?_); refine goesL_ (some 33) rfl rfl Try.func14 (by kernel_rfl) rfl #[.bool (decide (a0 < 0)), .int .u64 q0, .int .i64 a2] rfl LMq ?_; (with_reducible refine (tillerref11_Of.calls kj4 (decide (a0 < 0)) q0 a2 q1 q2 _ A8.out).mono ?_); rintro e w29 ⟨rfl, hb⟩; refine ⟨_, rfl, ?_⟩; replace HB := Aside0.mk (below_step (kH HB) hb); (try clear hb); (try clear hb2); (try clear hk); (try clear hi)) | ((with_reducible refine gate_callee (f := 15) rfl ?_); refine goesL_ (some 39) rfl rfl Try.func15 (by kernel_rfl) rfl #[.int .u64 a1, .int .i64 a2] rfl LMq ?_; (with_reducible refine (ints_OfPlain.calls a1 a2 q5 q6 _ A9.out).mono ?_); rintro e w30 ⟨rfl, hb⟩; refine ⟨_, rfl, ?_⟩; replace HB := Aside0.mk (below_step (kH HB) hb); (try clear hb); (try clear hb2); (try clear hk); (try clear hi)) | ((with_reducible refine gate_callee (f := 14) rfl ?_); refine goesL_ (some 45) rfl rfl Try.func14 (by kernel_rfl) rfl #[.bool false, .int .u64 a1, .int .i64 a2] rfl LMq ?_; (with_reducible refine (tillerref11_Of.calls kj4 false a1 a2 q7 q8 _ A10.out).mono ?_); rintro e w31 ⟨rfl, hb⟩; refine ⟨_, rfl, ?_⟩; replace HB := Aside0.mk (below_step (kH HB) hb); (try clear hb); (try clear hb2); (try clear hk); (try clear hi)))
   go_ret
   exact ⟨by first | rfl | (simp [errW_none, errW_some] <;> rfl) | (simp [*, errW_none, errW_some] <;> rfl), kH HB⟩
def tillerlaw11_IntsOf.Pure : Prop := ∀ (a0 : Int) (a1 : Int) (a2 : Int), (Lit.int .i64 a0).wf = true → (Lit.int .u64 a1).wf = true → (Lit.int .i64 a2).wf = true → ∃ k, tillerlaw11_IntsOf.f k a0 a1 a2 = some true
theorem tillerlaw11_IntsOf.walk (P : tillerlaw11_IntsOf.Pure) (a0 : Int) (a1 : Int) (a2 : Int) (w : World) (w0 : (Lit.int .i64 a0).wf = true) (w1 : (Lit.int .u64 a1).wf = true) (w2 : (Lit.int .i64 a2).wf = true) :
 Calls Try.prog 3 #[.int .i64 a0, .int .u64 a1, .int .i64 a2] w fun e w' => e = .returned (.bool true) ∧ Below w.heap.size w w' := by
 obtain ⟨k, h⟩ := P a0 a1 a2 w0 w1 w2; refine (tillerlaw11_IntsOf.calls k a0 a1 a2 true w h).mono ?_; rintro e w' ⟨rfl, hd⟩; exact ⟨rfl, hd⟩
end Go.Proofs.Ytbgefpeicmbgiaa.X
