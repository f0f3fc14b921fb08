import Derived.Test.YtbgefpeicmbgiaaKI4
import Derived.Test.YtbgefpeicmbgiaaKI27
import Derived.Test.YtbgefpeicmbgiaaKI28
import Derived.Test.YtbgefpeicmbgiaaKI35
section
namespace Go.Proofs.Ytbgefpeicmbgiaa.X
open Go.RowKit Go.Proofs.YtbgefpeicmbgiaaW.PrintWords Go.Proofs.YtbgefpeicmbgiaaW.PrintLast Go.Proofs.YtbgefpeicmbgiaaW.PrintMore
attribute [local go_sem] max2_int min2_int max_two min_two max_three min_three max_four min_four   
set_option linter.unusedVariables false
set_option linter.unusedSimpArgs false
def tillerlaw06_ProdSigns.f (k : Nat) (a0 : Int) (a1 : Int) (a2 : Int) : Option (Bool) := (prod_Mul.f k a0 a1 a2).bind fun qb => ((tillerlaw06_sides.f a2).bind fun q2 => ((prod_Mul.f k (Go.bits .xor .u64 a0 9223372036854775808) a1 q2).bind fun qa => ((prod_Mul.f k (Go.bits .xor .u64 a0 9223372036854775808) (Go.bits .xor .u64 a1 9223372036854775808) a2).bind fun q5 => ((tillerlaw06_turned.f qb.1 qa.1).bind fun q6 => (if q6 = true then (if qb.2 = qa.2 then (if q5.1 = qb.1 then (if q5.2 = qb.2 then ((tillerlaw06_sure.f k).bind fun q3 => (some q3)) else (some false)) else (some false)) else (some false)) else (some false))))))
theorem tillerlaw06_ProdSigns.mono : ∀ a0 a1 a2 k, LeO (tillerlaw06_ProdSigns.f k a0 a1 a2) (tillerlaw06_ProdSigns.f (k + 1) a0 a1 a2) := by
 intro a0 a1 a2 k
 unfold tillerlaw06_ProdSigns.f
 repeat' first
  | (with_reducible exact prod_Mul.mono _ _ _ _)
  | (with_reducible exact tillerlaw06_sure.mono _)
  | (with_reducible exact LeO.refl _)
  | (with_reducible exact LeO.none _)
  | (with_reducible refine LeO.ite ?_ ?_)
  | (with_reducible refine LeO.bind ?_ (fun _ => ?_))
  | exact prod_Mul.mono _ _ _ _
  | exact tillerlaw06_sure.mono _
  | exact LeO.none _
  | refine LeO.ite ?_ ?_
  | refine LeO.bind ?_ (fun _ => ?_)
set_option maxHeartbeats 8000000 in
set_option maxRecDepth 100000 in
theorem tillerlaw06_ProdSigns.calls (k : Nat) (a0 : Int) (a1 : Int) (a2 : Int) (r : Bool) (w : World) (h : tillerlaw06_ProdSigns.f k a0 a1 a2 = some r) :
 Calls Try.prog 12 #[.int .u64 a0, .int .u64 a1, .int .i64 a2] w fun e w' => e = .returned (.bool r) ∧ Below w.heap.size w w' := by
 have HB := Aside0.mk (Below.refl w.heap.size w); have H : ((prod_Mul.f k a0 a1 a2).bind fun qb => ((tillerlaw06_sides.f a2).bind fun q2 => ((prod_Mul.f k (Go.bits .xor .u64 a0 9223372036854775808) a1 q2).bind fun qa => ((prod_Mul.f k (Go.bits .xor .u64 a0 9223372036854775808) (Go.bits .xor .u64 a1 9223372036854775808) a2).bind fun q5 => ((tillerlaw06_turned.f qb.1 qa.1).bind fun q6 => (if q6 = true then (if qb.2 = qa.2 then (if q5.1 = qb.1 then (if q5.2 = qb.2 then ((tillerlaw06_sure.f k).bind fun q3 => (some q3)) else (some false)) else (some false)) else (some false)) else (some false))))))) = some r := h; clear h; replace H := Option.bind_eq_some_iff.mp H; obtain ⟨⟨q0, q1⟩, A40, H⟩ := H; replace H : ((tillerlaw06_sides.f a2).bind fun q2 => ((prod_Mul.f k (Go.bits .xor .u64 a0 9223372036854775808) a1 q2).bind fun qa => ((prod_Mul.f k (Go.bits .xor .u64 a0 9223372036854775808) (Go.bits .xor .u64 a1 9223372036854775808) a2).bind fun q5 => ((tillerlaw06_turned.f q0 qa.1).bind fun q6 => (if q6 = true then (if q1 = qa.2 then (if q5.1 = q0 then (if q5.2 = q1 then ((tillerlaw06_sure.f k).bind fun q3 => (some q3)) else (some false)) else (some false)) else (some false)) else (some false)))))) = some r := H; have A4 := Aside0.mk A40; clear A40; replace H := Option.bind_eq_some_iff.mp H; obtain ⟨q2, A50, H⟩ := H; replace H : ((prod_Mul.f k (Go.bits .xor .u64 a0 9223372036854775808) a1 q2).bind fun qa => ((prod_Mul.f k (Go.bits .xor .u64 a0 9223372036854775808) (Go.bits .xor .u64 a1 9223372036854775808) a2).bind fun q5 => ((tillerlaw06_turned.f q0 qa.1).bind fun q6 => (if q6 = true then (if q1 = qa.2 then (if q5.1 = q0 then (if q5.2 = q1 then ((tillerlaw06_sure.f k).bind fun q3 => (some q3)) else (some false)) else (some false)) else (some false)) else (some false))))) = some r := H; have A5 := Aside0.mk A50; clear A50; replace H := Option.bind_eq_some_iff.mp H; obtain ⟨⟨q4, q7⟩, A60, H⟩ := H; replace H : ((prod_Mul.f k (Go.bits .xor .u64 a0 9223372036854775808) (Go.bits .xor .u64 a1 9223372036854775808) a2).bind fun q5 => ((tillerlaw06_turned.f q0 q4).bind fun q6 => (if q6 = true then (if q1 = q7 then (if q5.1 = q0 then (if q5.2 = q1 then ((tillerlaw06_sure.f k).bind fun q3 => (some q3)) else (some false)) else (some false)) else (some false)) else (some false)))) = some r := H; have A6 := Aside0.mk A60; clear A60; replace H := Option.bind_eq_some_iff.mp H; obtain ⟨⟨q8, q9⟩, A70, H⟩ := H; replace H : ((tillerlaw06_turned.f q0 q4).bind fun q6 => (if q6 = true then (if q1 = q7 then (if q8 = q0 then (if q9 = q1 then ((tillerlaw06_sure.f k).bind fun q3 => (some q3)) else (some false)) else (some false)) else (some false)) else (some false))) = some r := H; have A7 := Aside0.mk A70; clear A70; replace H := Option.bind_eq_some_iff.mp H; obtain ⟨q6, A80, H⟩ := H; replace H : (if q6 = true then (if q1 = q7 then (if q8 = q0 then (if q9 = q1 then ((tillerlaw06_sure.f k).bind fun q3 => (some q3)) else (some false)) else (some false)) else (some false)) else (some false)) = some r := H; have A8 := Aside0.mk A80; clear A80
 by_cases c9 : q6 = true
 · subst c9
   have H1 : (if q1 = q7 then (if q8 = q0 then (if q9 = q1 then ((tillerlaw06_sure.f k).bind fun q3 => (some q3)) else (some false)) else (some false)) else (some false)) = some r := by rw [if_pos rfl] at H; exact H
   clear H; have H := H1; clear H1
   by_cases c10 : q1 = q7
   · rw [if_pos c10] at H
     have qd : (q1 == q7) = true := beq_iff_eq.mpr c10; have qe : (q1 != q7) = false := bne_eq_false_iff_eq.mpr c10; clear c10
     by_cases c11 : q8 = q0
     · rw [if_pos c11] at H
       have qf : (q8 == q0) = true := beq_iff_eq.mpr c11; have qg : (q8 != q0) = false := bne_eq_false_iff_eq.mpr c11; clear c11
       by_cases c12 : q9 = q1
       · rw [if_pos c12] at H
         have qh : (q9 == q1) = true := beq_iff_eq.mpr c12; have qi : (q9 != q1) = false := bne_eq_false_iff_eq.mpr c12; clear c12; replace H := Option.bind_eq_some_iff.mp H; obtain ⟨q3, qc, H⟩ := H; replace H : (some q3) = some r := H; have A13 := Aside0.mk qc; clear qc; obtain rfl := Option.some.inj H
         go_enter Try.func12, Try.ntmps12
         go_wp2_with (first | ((with_reducible refine gate_callee (f := 26) rfl ?_); refine goesL_ (some 19) rfl rfl Try.func26 (by kernel_rfl) rfl #[.int .u64 a0, .int .u64 a1, .int .i64 a2] rfl LMq ?_; (with_reducible refine (prod_Mul.calls k a0 a1 a2 q0 q1 _ A4.out).mono ?_); rintro e w14 ⟨rfl, hb⟩; refine ⟨_, rfl, ?_⟩; replace HB := Aside0.mk (below_step (kH HB) hb); (try clear hb); (try clear hb2); (try clear hk); (try clear hi)) | ((with_reducible refine gate_callee (f := 28) rfl ?_); refine goesL_ (some 27) rfl rfl Try.func28 (by kernel_rfl) rfl #[.int .i64 a2] rfl LMq ?_; (with_reducible refine (tillerlaw06_sides.calls a2 q2 _ A5.out).mono ?_); rintro e w' ⟨rfl, ⟨nd, rfl⟩⟩; refine ⟨_, rfl, ?_⟩) | ((with_reducible refine gate_callee (f := 26) rfl ?_); refine goesL_ (some 28) rfl rfl Try.func26 (by kernel_rfl) rfl #[.int .u64 (Go.bits .xor .u64 a0 9223372036854775808), .int .u64 a1, .int .i64 q2] rfl LMq ?_; (with_reducible refine (prod_Mul.calls k (Go.bits .xor .u64 a0 9223372036854775808) a1 q2 q4 q7 _ A6.out).mono ?_); rintro e w15 ⟨rfl, hb⟩; refine ⟨_, rfl, ?_⟩; replace HB := Aside0.mk (below_step (kH HB) hb); (try clear hb); (try clear hb2); (try clear hk); (try clear hi)) | ((with_reducible refine gate_callee (f := 26) rfl ?_); refine goesL_ (some 37) rfl rfl Try.func26 (by kernel_rfl) rfl #[.int .u64 (Go.bits .xor .u64 a0 9223372036854775808), .int .u64 (Go.bits .xor .u64 a1 9223372036854775808), .int .i64 a2] rfl LMq ?_; (with_reducible refine (prod_Mul.calls k (Go.bits .xor .u64 a0 9223372036854775808) (Go.bits .xor .u64 a1 9223372036854775808) a2 q8 q9 _ A7.out).mono ?_); rintro e w16 ⟨rfl, hb⟩; refine ⟨_, rfl, ?_⟩; replace HB := Aside0.mk (below_step (kH HB) hb); (try clear hb); (try clear hb2); (try clear hk); (try clear hi)) | ((with_reducible refine gate_callee (f := 29) rfl ?_); refine goesL_ (some 42) rfl rfl Try.func29 (by kernel_rfl) rfl #[.int .u64 q0, .int .u64 q4] rfl LMq ?_; (with_reducible refine (tillerlaw06_turned.calls q0 q4 true _ A8.out).mono ?_); rintro e w' ⟨rfl, ⟨nd, rfl⟩⟩; refine ⟨_, rfl, ?_⟩) | (go_at_call 25; (with_reducible refine (tillerlaw06_sure.calls k  q3 _ A13.out).mono ?_); rintro e w17 ⟨rfl, hb⟩; replace HB := Aside0.mk (below_step (kH HB) hb); (try clear hb); (try clear hb2); (try clear hk); (try clear hi)))
         go_ret
         exact ⟨by first | rfl | (simp [errW_none, errW_some] <;> rfl) | (simp [*, errW_none, errW_some] <;> rfl), kH HB⟩
       rw [if_neg c12] at H
       have qh : (q9 == q1) = false := beq_eq_false_iff_ne.mpr c12; have qi : (q9 != q1) = true := bne_iff_ne.mpr c12; obtain rfl := Option.some.inj H
       go_enter Try.func12, Try.ntmps12
       go_wp2_with (first | ((with_reducible refine gate_callee (f := 26) rfl ?_); refine goesL_ (some 19) rfl rfl Try.func26 (by kernel_rfl) rfl #[.int .u64 a0, .int .u64 a1, .int .i64 a2] rfl LMq ?_; (with_reducible refine (prod_Mul.calls k a0 a1 a2 q0 q1 _ A4.out).mono ?_); rintro e w18 ⟨rfl, hb⟩; refine ⟨_, rfl, ?_⟩; replace HB := Aside0.mk (below_step (kH HB) hb); (try clear hb); (try clear hb2); (try clear hk); (try clear hi)) | ((with_reducible refine gate_callee (f := 28) rfl ?_); refine goesL_ (some 27) rfl rfl Try.func28 (by kernel_rfl) rfl #[.int .i64 a2] rfl LMq ?_; (with_reducible refine (tillerlaw06_sides.calls a2 q2 _ A5.out).mono ?_); rintro e w' ⟨rfl, ⟨nd, rfl⟩⟩; refine ⟨_, rfl, ?_⟩) | ((with_reducible refine gate_callee (f := 26) rfl ?_); refine goesL_ (some 28) rfl rfl Try.func26 (by kernel_rfl) rfl #[.int .u64 (Go.bits .xor .u64 a0 9223372036854775808), .int .u64 a1, .int .i64 q2] rfl LMq ?_; (with_reducible refine (prod_Mul.calls k (Go.bits .xor .u64 a0 9223372036854775808) a1 q2 q4 q7 _ A6.out).mono ?_); rintro e w19 ⟨rfl, hb⟩; refine ⟨_, rfl, ?_⟩; replace HB := Aside0.mk (below_step (kH HB) hb); (try clear hb); (try clear hb2); (try clear hk); (try clear hi)) | ((with_reducible refine gate_callee (f := 26) rfl ?_); refine goesL_ (some 37) rfl rfl Try.func26 (by kernel_rfl) rfl #[.int .u64 (Go.bits .xor .u64 a0 9223372036854775808), .int .u64 (Go.bits .xor .u64 a1 9223372036854775808), .int .i64 a2] rfl LMq ?_; (with_reducible refine (prod_Mul.calls k (Go.bits .xor .u64 a0 9223372036854775808) (Go.bits .xor .u64 a1 9223372036854775808) a2 q8 q9 _ A7.out).mono ?_); rintro e w20 ⟨rfl, hb⟩; refine ⟨_, rfl, ?_⟩; replace HB := Aside0.mk (below_step (kH HB) hb); (try clear hb); (try clear hb2); (try clear hk); (try clear hi)) | ((with_reducible refine gate_callee (f := 29) rfl ?_); refine goesL_ (some 42) rfl rfl Try.func29 (by kernel_rfl) rfl #[.int .u64 q0, .int .u64 q4] rfl LMq ?_; (with_reducible refine (tillerlaw06_turned.calls q0 q4 true _ A8.out).mono ?_); rintro e w' ⟨rfl, ⟨nd, rfl⟩⟩; refine ⟨_, rfl, ?_⟩))
       go_ret
       exact ⟨by first | rfl | (simp [errW_none, errW_some] <;> rfl) | (simp [*, errW_none, errW_some] <;> rfl), kH HB⟩
     rw [if_neg c11] at H
     have qf : (q8 == q0) = false := beq_eq_false_iff_ne.mpr c11; have qg : (q8 != q0) = true := bne_iff_ne.mpr c11; obtain rfl := Option.some.inj H
     go_enter Try.func12, Try.ntmps12
     go_wp2_with (first | ((with_reducible refine gate_callee (f := 26) rfl ?_); refine goesL_ (some 19) rfl rfl Try.func26 (by kernel_rfl) rfl #[.int .u64 a0, .int .u64 a1, .int .i64 a2] rfl LMq ?_; (with_reducible refine (prod_Mul.calls k a0 a1 a2 q0 q1 _ A4.out).mono ?_); rintro e w21 ⟨rfl, hb⟩; refine ⟨_, rfl, ?_⟩; replace HB := Aside0.mk (below_step (kH HB) hb); (try clear hb); (try clear hb2); (try clear hk); (try clear hi)) | ((with_reducible refine gate_callee (f := 28) rfl ?_); refine goesL_ (some 27) rfl rfl Try.func28 (by kernel_rfl) rfl #[.int .i64 a2] rfl LMq ?_; (with_reducible refine (tillerlaw06_sides.calls a2 q2 _ A5.out).mono ?_); rintro e w' ⟨rfl, ⟨nd, rfl⟩⟩; refine ⟨_, rfl, ?_⟩) | ((with_reducible refine gate_callee (f := 26) rfl ?_); refine goesL_ (some 28) rfl rfl Try.func26 (by kernel_rfl) rfl #[.int .u64 (Go.bits .xor .u64 a0 9223372036854775808), .int .u64 a1, .int .i64 q2] rfl LMq ?_; (with_reducible refine (prod_Mul.calls k (Go.bits .xor .u64 a0 9223372036854775808) a1 q2 q4 q7 _ A6.out).mono ?_); rintro e w22 ⟨rfl, hb⟩; refine ⟨_, rfl, ?_⟩; replace HB := Aside0.mk (below_step (kH HB) hb); (try clear hb); (try clear hb2); (try clear hk); (try clear hi)) | ((with_reducible refine gate_callee (f := 26) rfl ?_); refine goesL_ (some 37) rfl rfl Try.func26 (by kernel_rfl) rfl #[.int .u64 (Go.bits .xor .u64 a0 9223372036854775808), .int .u64 (Go.bits .xor .u64 a1 9223372036854775808), .int .i64 a2] rfl LMq ?_; (with_reducible refine (prod_Mul.calls k (Go.bits .xor .u64 a0 9223372036854775808) (Go.bits .xor .u64 a1 9223372036854775808) a2 q8 q9 _ A7.out).mono ?_); rintro e w23 ⟨rfl, hb⟩; refine ⟨_, rfl, ?_⟩; replace HB := Aside0.mk (below_step (kH HB) hb); (try clear hb); (try clear hb2); (try clear hk); (try clear hi)) | ((with_reducible refine gate_callee (f := 29) rfl ?_); refine goesL_ (some 42) rfl rfl Try.func29 (by kernel_rfl) rfl #[.int .u64 q0, .int .u64 q4] rfl LMq ?_; (with_reducible refine (tillerlaw06_turned.calls q0 q4 true _ A8.out).mono ?_); rintro e w' ⟨rfl, ⟨nd, rfl⟩⟩; refine ⟨_, rfl, ?_⟩))
     go_ret
     exact ⟨by first | rfl | (simp [errW_none, errW_some] <;> rfl) | (simp [*, errW_none, errW_some] <;> rfl), kH HB⟩
   rw [if_neg c10] at H
   have qd : (q1 == q7) = false := beq_eq_false_iff_ne.mpr c10; have qe : (q1 != q7) = true := bne_iff_ne.mpr c10; obtain rfl := Option.some.inj H
   go_enter Try.func12, Try.ntmps12
   go_wp2_with (first | ((with_reducible refine gate_callee (f := 26) rfl ?_); refine goesL_ (some 19) rfl rfl Try.func26 (by kernel_rfl) rfl #[.int .u64 a0, .int .u64 a1, .int .i64 a2] rfl LMq ?_; (with_reducible refine (prod_Mul.calls k a0 a1 a2 q0 q1 _ A4.out).mono ?_); rintro e w24 ⟨rfl, hb⟩; refine ⟨_, rfl, ?_⟩; replace HB := Aside0.mk (below_step (kH HB) hb); (try clear hb); (try clear hb2); (try clear hk); (try clear hi)) | ((with_reducible refine gate_callee (f := 28) rfl ?_); refine goesL_ (some 27) rfl rfl Try.func28 (by kernel_rfl) rfl #[.int .i64 a2] rfl LMq ?_; (with_reducible refine (tillerlaw06_sides.calls a2 q2 _ A5.out).mono ?_); rintro e w' ⟨rfl, ⟨nd, rfl⟩⟩; refine ⟨_, rfl, ?_⟩) | ((with_reducible refine gate_callee (f := 26) rfl ?_); refine goesL_ (some 28) rfl rfl Try.func26 (by kernel_rfl) rfl #[.int .u64 (Go.bits .xor .u64 a0 9223372036854775808), .int .u64 a1, .int .i64 q2] rfl LMq ?_; (with_reducible refine (prod_Mul.calls k (Go.bits .xor .u64 a0 9223372036854775808) a1 q2 q4 q7 _ A6.out).mono ?_); rintro e w25 ⟨rfl, hb⟩; refine ⟨_, rfl, ?_⟩; replace HB := Aside0.mk (below_step (kH HB) hb); (try clear hb); (try clear hb2); (try clear hk); (try clear hi)) | ((with_reducible refine gate_callee (f := 26) rfl ?_); refine goesL_ (some 37) rfl rfl Try.func26 (by kernel_rfl) rfl #[.int .u64 (Go.bits .xor .u64 a0 9223372036854775808), .int .u64 (Go.bits .xor .u64 a1 9223372036854775808), .int .i64 a2] rfl LMq ?_; (with_reducible refine (prod_Mul.calls k (Go.bits .xor .u64 a0 9223372036854775808) (Go.bits .xor .u64 a1 9223372036854775808) a2 q8 q9 _ A7.out).mono ?_); rintro e w26 ⟨rfl, hb⟩; refine ⟨_, rfl, ?_⟩; replace HB := Aside0.mk (below_step (kH HB) hb); (try clear hb); (try clear hb2); (try clear hk); (try clear hi)) | ((with_reducible refine gate_callee (f := 29) rfl ?_); refine goesL_ (some 42) rfl rfl Try.func29 (by kernel_rfl) rfl #[.int .u64 q0, .int .u64 q4] rfl LMq ?_; (with_reducible refine (tillerlaw06_turned.calls q0 q4 true _ A8.out).mono ?_); rintro e w' ⟨rfl, ⟨nd, rfl⟩⟩; refine ⟨_, rfl, ?_⟩))
   go_ret
   exact ⟨by first | rfl | (simp [errW_none, errW_some] <;> rfl) | (simp [*, errW_none, errW_some] <;> rfl), kH HB⟩
 replace c9 := Bool.eq_false_iff.mpr c9; subst c9
 have H1 : (some false) = some r := by rw [if_neg (show ¬ (false = true) by decide)] at H; exact H
 clear H; have H := H1; clear H1; obtain rfl := Option.some.inj H
 go_enter Try.func12, Try.ntmps12
 go_wp2_with (first | ((with_reducible refine gate_callee (f := 26) rfl ?_); refine goesL_ (some 19) rfl rfl Try.func26 (by kernel_rfl) rfl #[.int .u64 a0, .int .u64 a1, .int .i64 a2] rfl LMq ?_; (with_reducible refine (prod_Mul.calls k a0 a1 a2 q0 q1 _ A4.out).mono ?_); rintro e w27 ⟨rfl, hb⟩; refine ⟨_, rfl, ?_⟩; replace HB := Aside0.mk (below_step (kH HB) hb); (try clear hb); (try clear hb2); (try clear hk); (try clear hi)) | ((with_reducible refine gate_callee (f := 28) rfl ?_); refine goesL_ (some 27) rfl rfl Try.func28 (by kernel_rfl) rfl #[.int .i64 a2] rfl LMq ?_; (with_reducible refine (tillerlaw06_sides.calls a2 q2 _ A5.out).mono ?_); rintro e w' ⟨rfl, ⟨nd, rfl⟩⟩; refine ⟨_, rfl, ?_⟩) | ((with_reducible refine gate_callee (f := 26) rfl ?_); refine goesL_ (some 28) rfl rfl Try.func26 (by kernel_rfl) rfl #[.int .u64 (Go.bits .xor .u64 a0 9223372036854775808), .int .u64 a1, .int .i64 q2] rfl LMq ?_; (with_reducible refine (prod_Mul.calls k (Go.bits .xor .u64 a0 9223372036854775808) a1 q2 q4 q7 _ A6.out).mono ?_); rintro e w28 ⟨rfl, hb⟩; refine ⟨_, rfl, ?_⟩; replace HB := Aside0.mk (below_step (kH HB) hb); (try clear hb); (try clear hb2); (try clear hk); (try clear hi)) | ((with_reducible refine gate_callee (f := 26) rfl ?_); refine goesL_ (some 37) rfl rfl Try.func26 (by kernel_rfl) rfl #[.int .u64 (Go.bits .xor .u64 a0 9223372036854775808), .int .u64 (Go.bits .xor .u64 a1 9223372036854775808), .int .i64 a2] rfl LMq ?_; (with_reducible refine (prod_Mul.calls k (Go.bits .xor .u64 a0 9223372036854775808) (Go.bits .xor .u64 a1 9223372036854775808) a2 q8 q9 _ A7.out).mono ?_); rintro e w29 ⟨rfl, hb⟩; refine ⟨_, rfl, ?_⟩; replace HB := Aside0.mk (below_step (kH HB) hb); (try clear hb); (try clear hb2); (try clear hk); (try clear hi)) | ((with_reducible refine gate_callee (f := 29) rfl ?_); refine goesL_ (some 42) rfl rfl Try.func29 (by kernel_rfl) rfl #[.int .u64 q0, .int .u64 q4] rfl LMq ?_; (with_reducible refine (tillerlaw06_turned.calls q0 q4 false _ A8.out).mono ?_); rintro e w' ⟨rfl, ⟨nd, rfl⟩⟩; refine ⟨_, rfl, ?_⟩))
 go_ret
 exact ⟨by first | rfl | (simp [errW_none, errW_some] <;> rfl) | (simp [*, errW_none, errW_some] <;> rfl), kH HB⟩
def tillerlaw06_ProdSigns.Pure : Prop := ∀ (a0 : Int) (a1 : Int) (a2 : Int), (Lit.int .u64 a0).wf = true → (Lit.int .u64 a1).wf = true → (Lit.int .i64 a2).wf = true → ∃ k, tillerlaw06_ProdSigns.f k a0 a1 a2 = some true
theorem tillerlaw06_ProdSigns.walk (P : tillerlaw06_ProdSigns.Pure) (a0 : Int) (a1 : Int) (a2 : Int) (w : World) (w0 : (Lit.int .u64 a0).wf = true) (w1 : (Lit.int .u64 a1).wf = true) (w2 : (Lit.int .i64 a2).wf = true) :
 Calls Try.prog 12 #[.int .u64 a0, .int .u64 a1, .int .i64 a2] w fun e w' => e = .returned (.bool true) ∧ Below w.heap.size w w' := by
 obtain ⟨k, h⟩ := P a0 a1 a2 w0 w1 w2; refine (tillerlaw06_ProdSigns.calls k a0 a1 a2 true w h).mono ?_; rintro e w' ⟨rfl, hd⟩; exact ⟨rfl, hd⟩
end Go.Proofs.Ytbgefpeicmbgiaa.X
end
section
namespace Go.Proofs.Ytbgefpeicmbgiaa
set_option linter.unusedVariables false
set_option linter.unusedSimpArgs false
open Go.RowKit X
theorem sides_eq (m : Int) : tillerlaw06_sides.f m = some (swM m) := by
  unfold tillerlaw06_sides.f swM
  split
  · rfl
  · split <;> rfl
theorem qMi_N1 {a : Int} (ha : U a) (b : Int) : qMi (pN a) b = !qMi a b := by unfold qMi; rw [pM_N ha]; cases pM a <;> cases pM b <;> rfl
theorem qMi_N2 {a b : Int} (ha : U a) (hb : U b) : qMi (pN a) (pN b) = qMi a b := by unfold qMi; rw [pM_N ha, pM_N hb]; cases pM a <;> cases pM b <;> rfl
theorem qMul_N2 {a b : Int} (m : Int) (ha : U a) (hb : U b) : qMul (pN a) (pN b) m = qMul a b m := by
  have hb2 : bad (pN a) (pN b) = bad a b := by unfold bad; rw [pC_N, pC_N]
  unfold qMul qNone
  rw [hb2, pC_N, pC_N, pX_N, pX_N, pS_N, pS_N, qMi_N2 ha hb]
theorem qMul_N1 {a b : Int} (m : Int) (ha : U a) (hb : U b) :
    (∃ f, qMul a b m = (9221120237041090560, f) ∧ qMul (pN a) b (swM m) = (9221120237041090560, f)) ∨
    (∃ A f c, 0 ≤ A ∧ A ≤ 9218868437227405312 ∧ qMul a b m = (A + sg c, f) ∧ qMul (pN a) b (swM m) = (A + sg (!c), f)) := by
  have hb2 : bad (pN a) b = bad a b := by unfold bad; rw [pC_N]
  unfold qMul qNone
  rw [hb2, pC_N, pX_N, pS_N, qMi_N1 ha]
  by_cases n1 : 3 < pC a ∨ 3 < pC b
  · rw [if_pos n1, if_pos n1]
    exact .inl ⟨_, rfl, rfl⟩
  · rw [if_neg n1, if_neg n1]
    by_cases n2 : bad a b = true
    · rw [if_pos n2, if_pos n2]
      exact .inl ⟨_, rfl, rfl⟩
    · rw [if_neg n2, if_neg n2]
      right
      by_cases n3 : pC a = 3 ∨ pC b = 3
      · rw [if_pos n3, if_pos n3]
        exact ⟨_, _, _, by decide, Int.le_refl _, rfl, rfl⟩
      · rw [if_neg n3, if_neg n3]
        obtain ⟨A, f, h0, h1, h2, h3⟩ := round_sw (qMi a b) (pX a + pX b) ((pS a).toNat * (pS b).toNat) m
        exact ⟨A, f, _, h0, h1, h2, h3⟩
theorem ProdSigns : tillerlaw06_ProdSigns.Pure := by
  intro a b m w0 w1 w2
  have ha := U_wf w0
  have hb := U_wf w1
  refine ⟨12, ?_⟩
  unfold tillerlaw06_ProdSigns.f
  rw [bxor_M a ha, bxor_M b hb, mul_spec 7 m ha hb, Option.bind_some, sides_eq, Option.bind_some, mul_spec 7 (swM m) (U_N a ha) hb, Option.bind_some, mul_spec 7 m (U_N a ha) (U_N b hb), Option.bind_some, qMul_N2 m ha hb, sure06 0]
  rcases qMul_N1 m ha hb with ⟨f, e1, e2⟩ | ⟨A, f, c, h0, h1, e1, e2⟩
  · rw [e1, e2]
    unfold tillerlaw06_turned.f
    rw [if_pos rfl, if_pos rfl, Option.bind_some, if_pos rfl, if_pos rfl, if_pos rfl, if_pos rfl]
    rfl
  · rw [e1, e2]
    have hn : A + sg c ≠ 9221120237041090560 := by cases c <;> simp only [sg] <;> simp <;> omega
    have hU : U (A + sg (!c)) := by have := sg_bd (!c); unfold U; omega
    unfold tillerlaw06_turned.f
    rw [if_neg hn, Option.bind_some, bxor_M _ hU, pN_sg h0 (by omega), Bool.not_not, if_pos (by simp), if_pos rfl, if_pos rfl, if_pos rfl]
    rfl
end Go.Proofs.Ytbgefpeicmbgiaa
end
section
namespace Go.Proofs.Ytbgefpeicmbgiaa.Pure
set_option linter.unusedVariables false
set_option linter.unusedSimpArgs false
theorem ProdSigns : Go.Proofs.Ytbgefpeicmbgiaa.X.tillerlaw06_ProdSigns.Pure := Go.Proofs.Ytbgefpeicmbgiaa.ProdSigns
end Go.Proofs.Ytbgefpeicmbgiaa.Pure
end
