import Derived.Test.YtbgefpeicmbgiaaKI4
import Derived.Test.YtbgefpeicmbgiaaKI10
import Derived.Test.YtbgefpeicmbgiaaKI18
import Derived.Test.YtbgefpeicmbgiaaKIXtillerref11To
import Derived.Test.YtbgefpeicmbgiaaKISpecRef11
section
namespace Go.Proofs.Ytbgefpeicmbgiaa.X
open Go.RowKit Go.Proofs.YtbgefpeicmbgiaaW.PrintWords Go.Proofs.YtbgefpeicmbgiaaW.PrintLast Go.Proofs.YtbgefpeicmbgiaaW.PrintMore
attribute [local go_sem] max2_int min2_int max_two min_two max_three min_three max_four min_four   
set_option linter.unusedVariables false
set_option linter.unusedSimpArgs false
def tillerlaw11_IntsHalves.f (k : Nat) (a0 : Int) (a1 : Int) (a2 : Bool) : Option (Bool) := (ints_ToHalf.f k a0 a1 a2).bind fun qe => ((tillerref11_To.f k a0 a1 a2 2147483648 2147483647).bind fun qc => ((ints_ToPlainHalf.f k a0 a1 a2).bind fun qd => ((tillerref11_To.f k a0 a1 a2 0 4294967295).bind fun q6 => ((tillerlaw11_number.f qc.1 qc.2.1).bind fun q0 => (if (wrap64 (qe.1)) = q0 then (if (wrap64 (qe.2)) = qc.2.2 then (if (IntKind.u64.wrap (qd.1)) = q6.2.1 then (if (wrap64 (qd.2)) = q6.2.2 then ((tillerlaw11_sure.f k).bind fun q3 => (some q3)) else (some false)) else (some false)) else (some false)) else (some false))))))
theorem tillerlaw11_IntsHalves.mono : ∀ a0 a1 a2 k, LeO (tillerlaw11_IntsHalves.f k a0 a1 a2) (tillerlaw11_IntsHalves.f (k + 1) a0 a1 a2) := by
 intro a0 a1 a2 k
 unfold tillerlaw11_IntsHalves.f
 repeat' first
  | (with_reducible exact ints_ToHalf.mono _ _ _ _)
  | (with_reducible exact ints_ToPlainHalf.mono _ _ _ _)
  | (with_reducible exact tillerlaw11_sure.mono _)
  | (with_reducible exact tillerref11_To.mono _ _ _ _ _ _)
  | (with_reducible exact LeO.refl _)
  | (with_reducible exact LeO.none _)
  | (with_reducible refine LeO.ite ?_ ?_)
  | (with_reducible refine LeO.bind ?_ (fun _ => ?_))
  | exact ints_ToHalf.mono _ _ _ _
  | exact ints_ToPlainHalf.mono _ _ _ _
  | exact tillerlaw11_sure.mono _
  | exact tillerref11_To.mono _ _ _ _ _ _
  | exact LeO.none _
  | refine LeO.ite ?_ ?_
  | refine LeO.bind ?_ (fun _ => ?_)
set_option maxHeartbeats 8000000 in
set_option maxRecDepth 100000 in
theorem tillerlaw11_IntsHalves.calls (k : Nat) (a0 : Int) (a1 : Int) (a2 : Bool) (r : Bool) (w : World) (h : tillerlaw11_IntsHalves.f k a0 a1 a2 = some r) :
 Calls Try.prog 5 #[.int .u64 a0, .int .i64 a1, .bool a2] w fun e w' => e = .returned (.bool r) ∧ Below w.heap.size w w' := by
 have HB := Aside0.mk (Below.refl w.heap.size w); have H : ((ints_ToHalf.f k a0 a1 a2).bind fun qe => ((tillerref11_To.f k a0 a1 a2 2147483648 2147483647).bind fun qc => ((ints_ToPlainHalf.f k a0 a1 a2).bind fun qd => ((tillerref11_To.f k a0 a1 a2 0 4294967295).bind fun q6 => ((tillerlaw11_number.f qc.1 qc.2.1).bind fun q0 => (if (wrap64 (qe.1)) = q0 then (if (wrap64 (qe.2)) = qc.2.2 then (if (IntKind.u64.wrap (qd.1)) = q6.2.1 then (if (wrap64 (qd.2)) = q6.2.2 then ((tillerlaw11_sure.f k).bind fun q3 => (some q3)) else (some false)) else (some false)) else (some false)) else (some false))))))) = some r := h; clear h; replace H := Option.bind_eq_some_iff.mp H; obtain ⟨⟨q4, q5⟩, A40, H⟩ := H; replace H : ((tillerref11_To.f k a0 a1 a2 2147483648 2147483647).bind fun qc => ((ints_ToPlainHalf.f k a0 a1 a2).bind fun qd => ((tillerref11_To.f k a0 a1 a2 0 4294967295).bind fun q6 => ((tillerlaw11_number.f qc.1 qc.2.1).bind fun q0 => (if (wrap64 (q4)) = q0 then (if (wrap64 (q5)) = qc.2.2 then (if (IntKind.u64.wrap (qd.1)) = q6.2.1 then (if (wrap64 (qd.2)) = q6.2.2 then ((tillerlaw11_sure.f k).bind fun q3 => (some q3)) else (some false)) else (some false)) else (some false)) else (some false)))))) = some r := H; have A4 := Aside0.mk A40; clear A40; replace H := Option.bind_eq_some_iff.mp H; obtain ⟨⟨q1, q2, q7⟩, A50, H⟩ := H; replace H : ((ints_ToPlainHalf.f k a0 a1 a2).bind fun qd => ((tillerref11_To.f k a0 a1 a2 0 4294967295).bind fun q6 => ((tillerlaw11_number.f q1 q2).bind fun q0 => (if (wrap64 (q4)) = q0 then (if (wrap64 (q5)) = q7 then (if (IntKind.u64.wrap (qd.1)) = q6.2.1 then (if (wrap64 (qd.2)) = q6.2.2 then ((tillerlaw11_sure.f k).bind fun q3 => (some q3)) else (some false)) else (some false)) else (some false)) else (some false))))) = some r := H; have A5 := Aside0.mk A50; clear A50; replace H := Option.bind_eq_some_iff.mp H; obtain ⟨⟨q8, q9⟩, A60, H⟩ := H; replace H : ((tillerref11_To.f k a0 a1 a2 0 4294967295).bind fun q6 => ((tillerlaw11_number.f q1 q2).bind fun q0 => (if (wrap64 (q4)) = q0 then (if (wrap64 (q5)) = q7 then (if (IntKind.u64.wrap (q8)) = q6.2.1 then (if (wrap64 (q9)) = q6.2.2 then ((tillerlaw11_sure.f k).bind fun q3 => (some q3)) else (some false)) else (some false)) else (some false)) else (some false)))) = some r := H; have A6 := Aside0.mk A60; clear A60; replace H := Option.bind_eq_some_iff.mp H; obtain ⟨⟨qf, qa, qb⟩, A70, H⟩ := H; replace H : ((tillerlaw11_number.f q1 q2).bind fun q0 => (if (wrap64 (q4)) = q0 then (if (wrap64 (q5)) = q7 then (if (IntKind.u64.wrap (q8)) = qa then (if (wrap64 (q9)) = qb then ((tillerlaw11_sure.f k).bind fun q3 => (some q3)) else (some false)) else (some false)) else (some false)) else (some false))) = some r := H; have A7 := Aside0.mk A70; clear A70; replace H := Option.bind_eq_some_iff.mp H; obtain ⟨q0, A80, H⟩ := H; replace H : (if (wrap64 (q4)) = q0 then (if (wrap64 (q5)) = q7 then (if (IntKind.u64.wrap (q8)) = qa then (if (wrap64 (q9)) = qb then ((tillerlaw11_sure.f k).bind fun q3 => (some q3)) else (some false)) else (some false)) else (some false)) else (some false)) = some r := H; have A8 := Aside0.mk A80; clear A80
 by_cases c9 : (wrap64 (q4)) = q0
 · rw [if_pos c9] at H
   have qh : ((wrap64 (q4)) == q0) = true := beq_iff_eq.mpr c9; have qi : ((wrap64 (q4)) != q0) = false := bne_eq_false_iff_eq.mpr c9; clear c9
   by_cases c10 : (wrap64 (q5)) = q7
   · rw [if_pos c10] at H
     have qj : ((wrap64 (q5)) == q7) = true := beq_iff_eq.mpr c10; have qk : ((wrap64 (q5)) != q7) = false := bne_eq_false_iff_eq.mpr c10; clear c10
     by_cases c11 : (IntKind.u64.wrap (q8)) = qa
     · rw [if_pos c11] at H
       have ql : ((IntKind.u64.wrap (q8)) == qa) = true := beq_iff_eq.mpr c11; have qm : ((IntKind.u64.wrap (q8)) != qa) = false := bne_eq_false_iff_eq.mpr c11; clear c11
       by_cases c12 : (wrap64 (q9)) = qb
       · rw [if_pos c12] at H
         have qn : ((wrap64 (q9)) == qb) = true := beq_iff_eq.mpr c12; have qo : ((wrap64 (q9)) != qb) = false := bne_eq_false_iff_eq.mpr c12; clear c12; replace H := Option.bind_eq_some_iff.mp H; obtain ⟨q3, qg, H⟩ := H; replace H : (some q3) = some r := H; have A13 := Aside0.mk qg; clear qg; obtain rfl := Option.some.inj H
         go_enter Try.func5, Try.ntmps5
         go_wp2_with (first | ((with_reducible refine gate_callee (f := 21) rfl ?_); refine goesL_ (some 21) rfl rfl Try.func21 (by kernel_rfl) rfl #[.int .u64 a0, .int .i64 a1, .bool a2] rfl LMq ?_; (with_reducible refine (ints_ToHalf.calls k a0 a1 a2 q4 q5 _ A4.out).mono ?_); rintro e w14 ⟨rfl, hb⟩; refine ⟨_, rfl, ?_⟩; replace HB := Aside0.mk (below_step (kH HB) hb); (try clear hb); (try clear hb2); (try clear hk); (try clear hi)) | ((with_reducible refine gate_callee (f := 18) rfl ?_); refine goesL_ (some 28) rfl rfl Try.func18 (by kernel_rfl) rfl #[.int .u64 a0, .int .i64 a1, .bool a2, .int .u64 2147483648, .int .u64 2147483647] rfl LMq ?_; (with_reducible refine (tillerref11_To.calls k a0 a1 a2 2147483648 2147483647 q1 q2 q7 _ A5.out).mono ?_); rintro e w15 ⟨rfl, hb⟩; refine ⟨_, rfl, ?_⟩; replace HB := Aside0.mk (below_step (kH HB) hb); (try clear hb); (try clear hb2); (try clear hk); (try clear hi)) | ((with_reducible refine gate_callee (f := 22) rfl ?_); refine goesL_ (some 36) rfl rfl Try.func22 (by kernel_rfl) rfl #[.int .u64 a0, .int .i64 a1, .bool a2] rfl LMq ?_; (with_reducible refine (ints_ToPlainHalf.calls k a0 a1 a2 q8 q9 _ A6.out).mono ?_); rintro e w16 ⟨rfl, hb⟩; refine ⟨_, rfl, ?_⟩; replace HB := Aside0.mk (below_step (kH HB) hb); (try clear hb); (try clear hb2); (try clear hk); (try clear hi)) | ((with_reducible refine gate_callee (f := 18) rfl ?_); refine goesL_ (some 43) rfl rfl Try.func18 (by kernel_rfl) rfl #[.int .u64 a0, .int .i64 a1, .bool a2, .int .u64 0, .int .u64 4294967295] rfl LMq ?_; (with_reducible refine (tillerref11_To.calls k a0 a1 a2 0 4294967295 qf qa qb _ A7.out).mono ?_); rintro e w17 ⟨rfl, hb⟩; refine ⟨_, rfl, ?_⟩; replace HB := Aside0.mk (below_step (kH HB) hb); (try clear hb); (try clear hb2); (try clear hk); (try clear hi)) | ((with_reducible refine gate_callee (f := 20) rfl ?_); refine goesL_ (some 51) rfl rfl Try.func20 (by kernel_rfl) rfl #[.bool q1, .int .u64 q2] rfl LMq ?_; (with_reducible refine (tillerlaw11_number.calls q1 q2 q0 _ A8.out).mono ?_); rintro e w' ⟨rfl, ⟨nd, rfl⟩⟩; refine ⟨_, rfl, ?_⟩) | (go_at_call 16; (with_reducible refine (tillerlaw11_sure.calls k  q3 _ A13.out).mono ?_); rintro e w18 ⟨rfl, hb⟩; replace HB := Aside0.mk (below_step (kH HB) hb); (try clear hb); (try clear hb2); (try clear hk); (try clear hi)))
         go_ret
         exact ⟨by first | rfl | (simp [errW_none, errW_some] <;> rfl) | (simp [*, errW_none, errW_some] <;> rfl), kH HB⟩
       rw [if_neg c12] at H
       have qn : ((wrap64 (q9)) == qb) = false := beq_eq_false_iff_ne.mpr c12; have qo : ((wrap64 (q9)) != qb) = true := bne_iff_ne.mpr c12; obtain rfl := Option.some.inj H
       go_enter Try.func5, Try.ntmps5
       go_wp2_with (first | ((with_reducible refine gate_callee (f := 21) rfl ?_); refine goesL_ (some 21) rfl rfl Try.func21 (by kernel_rfl) rfl #[.int .u64 a0, .int .i64 a1, .bool a2] rfl LMq ?_; (with_reducible refine (ints_ToHalf.calls k a0 a1 a2 q4 q5 _ A4.out).mono ?_); rintro e w19 ⟨rfl, hb⟩; refine ⟨_, rfl, ?_⟩; replace HB := Aside0.mk (below_step (kH HB) hb); (try clear hb); (try clear hb2); (try clear hk); (try clear hi)) | ((with_reducible refine gate_callee (f := 18) rfl ?_); refine goesL_ (some 28) rfl rfl Try.func18 (by kernel_rfl) rfl #[.int .u64 a0, .int .i64 a1, .bool a2, .int .u64 2147483648, .int .u64 2147483647] rfl LMq ?_; (with_reducible refine (tillerref11_To.calls k a0 a1 a2 2147483648 2147483647 q1 q2 q7 _ A5.out).mono ?_); rintro e w20 ⟨rfl, hb⟩; refine ⟨_, rfl, ?_⟩; replace HB := Aside0.mk (below_step (kH HB) hb); (try clear hb); (try clear hb2); (try clear hk); (try clear hi)) | ((with_reducible refine gate_callee (f := 22) rfl ?_); refine goesL_ (some 36) rfl rfl Try.func22 (by kernel_rfl) rfl #[.int .u64 a0, .int .i64 a1, .bool a2] rfl LMq ?_; (with_reducible refine (ints_ToPlainHalf.calls k a0 a1 a2 q8 q9 _ A6.out).mono ?_); rintro e w21 ⟨rfl, hb⟩; refine ⟨_, rfl, ?_⟩; replace HB := Aside0.mk (below_step (kH HB) hb); (try clear hb); (try clear hb2); (try clear hk); (try clear hi)) | ((with_reducible refine gate_callee (f := 18) rfl ?_); refine goesL_ (some 43) rfl rfl Try.func18 (by kernel_rfl) rfl #[.int .u64 a0, .int .i64 a1, .bool a2, .int .u64 0, .int .u64 4294967295] rfl LMq ?_; (with_reducible refine (tillerref11_To.calls k a0 a1 a2 0 4294967295 qf qa qb _ A7.out).mono ?_); rintro e w22 ⟨rfl, hb⟩; refine ⟨_, rfl, ?_⟩; replace HB := Aside0.mk (below_step (kH HB) hb); (try clear hb); (try clear hb2); (try clear hk); (try clear hi)) | ((with_reducible refine gate_callee (f := 20) rfl ?_); refine goesL_ (some 51) rfl rfl Try.func20 (by kernel_rfl) rfl #[.bool q1, .int .u64 q2] rfl LMq ?_; (with_reducible refine (tillerlaw11_number.calls q1 q2 q0 _ A8.out).mono ?_); rintro e w' ⟨rfl, ⟨nd, rfl⟩⟩; refine ⟨_, rfl, ?_⟩))
       go_ret
       exact ⟨by first | rfl | (simp [errW_none, errW_some] <;> rfl) | (simp [*, errW_none, errW_some] <;> rfl), kH HB⟩
     rw [if_neg c11] at H
     have ql : ((IntKind.u64.wrap (q8)) == qa) = false := beq_eq_false_iff_ne.mpr c11; have qm : ((IntKind.u64.wrap (q8)) != qa) = true := bne_iff_ne.mpr c11; obtain rfl := Option.some.inj H
     go_enter Try.func5, Try.ntmps5
     go_wp2_with (first | ((with_reducible refine gate_callee (f := 21) rfl ?_); refine goesL_ (some 21) rfl rfl Try.func21 (by kernel_rfl) rfl #[.int .u64 a0, .int .i64 a1, .bool a2] rfl LMq ?_; (with_reducible refine (ints_ToHalf.calls k a0 a1 a2 q4 q5 _ A4.out).mono ?_); rintro e w23 ⟨rfl, hb⟩; refine ⟨_, rfl, ?_⟩; replace HB := Aside0.mk (below_step (kH HB) hb); (try clear hb); (try clear hb2); (try clear hk); (try clear hi)) | ((with_reducible refine gate_callee (f := 18) rfl ?_); refine goesL_ (some 28) rfl rfl Try.func18 (by kernel_rfl) rfl #[.int .u64 a0, .int .i64 a1, .bool a2, .int .u64 2147483648, .int .u64 2147483647] rfl LMq ?_; (with_reducible refine (tillerref11_To.calls k a0 a1 a2 2147483648 2147483647 q1 q2 q7 _ A5.out).mono ?_); rintro e w24 ⟨rfl, hb⟩; refine ⟨_, rfl, ?_⟩; replace HB := Aside0.mk (below_step (kH HB) hb); (try clear hb); (try clear hb2); (try clear hk); (try clear hi)) | ((with_reducible refine gate_callee (f := 22) rfl ?_); refine goesL_ (some 36) rfl rfl Try.func22 (by kernel_rfl) rfl #[.int .u64 a0, .int .i64 a1, .bool a2] rfl LMq ?_; (with_reducible refine (ints_ToPlainHalf.calls k a0 a1 a2 q8 q9 _ A6.out).mono ?_); rintro e w25 ⟨rfl, hb⟩; refine ⟨_, rfl, ?_⟩; replace HB := Aside0.mk (below_step (kH HB) hb); (try clear hb); (try clear hb2); (try clear hk); (try clear hi)) | ((with_reducible refine gate_callee (f := 18) rfl ?_); refine goesL_ (some 43) rfl rfl Try.func18 (by kernel_rfl) rfl #[.int .u64 a0, .int .i64 a1, .bool a2, .int .u64 0, .int .u64 4294967295] rfl LMq ?_; (with_reducible refine (tillerref11_To.calls k a0 a1 a2 0 4294967295 qf qa qb _ A7.out).mono ?_); rintro e w26 ⟨rfl, hb⟩; refine ⟨_, rfl, ?_⟩; replace HB := Aside0.mk (below_step (kH HB) hb); (try clear hb); (try clear hb2); (try clear hk); (try clear hi)) | ((with_reducible refine gate_callee (f := 20) rfl ?_); refine goesL_ (some 51) rfl rfl Try.func20 (by kernel_rfl) rfl #[.bool q1, .int .u64 q2] rfl LMq ?_; (with_reducible refine (tillerlaw11_number.calls q1 q2 q0 _ A8.out).mono ?_); rintro e w' ⟨rfl, ⟨nd, rfl⟩⟩; refine ⟨_, rfl, ?_⟩))
     go_ret
     exact ⟨by first | rfl | (simp [errW_none, errW_some] <;> rfl) | (simp [*, errW_none, errW_some] <;> rfl), kH HB⟩
   rw [if_neg c10] at H
   have qj : ((wrap64 (q5)) == q7) = false := beq_eq_false_iff_ne.mpr c10; have qk : ((wrap64 (q5)) != q7) = true := bne_iff_ne.mpr c10; obtain rfl := Option.some.inj H
   go_enter Try.func5, Try.ntmps5
   go_wp2_with (first | ((with_reducible refine gate_callee (f := 21) rfl ?_); refine goesL_ (some 21) rfl rfl Try.func21 (by kernel_rfl) rfl #[.int .u64 a0, .int .i64 a1, .bool a2] rfl LMq ?_; (with_reducible refine (ints_ToHalf.calls k a0 a1 a2 q4 q5 _ A4.out).mono ?_); rintro e w27 ⟨rfl, hb⟩; refine ⟨_, rfl, ?_⟩; replace HB := Aside0.mk (below_step (kH HB) hb); (try clear hb); (try clear hb2); (try clear hk); (try clear hi)) | ((with_reducible refine gate_callee (f := 18) rfl ?_); refine goesL_ (some 28) rfl rfl Try.func18 (by kernel_rfl) rfl #[.int .u64 a0, .int .i64 a1, .bool a2, .int .u64 2147483648, .int .u64 2147483647] rfl LMq ?_; (with_reducible refine (tillerref11_To.calls k a0 a1 a2 2147483648 2147483647 q1 q2 q7 _ A5.out).mono ?_); rintro e w28 ⟨rfl, hb⟩; refine ⟨_, rfl, ?_⟩; replace HB := Aside0.mk (below_step (kH HB) hb); (try clear hb); (try clear hb2); (try clear hk); (try clear hi)) | ((with_reducible refine gate_callee (f := 22) rfl ?_); refine goesL_ (some 36) rfl rfl Try.func22 (by kernel_rfl) rfl #[.int .u64 a0, .int .i64 a1, .bool a2] rfl LMq ?_; (with_reducible refine (ints_ToPlainHalf.calls k a0 a1 a2 q8 q9 _ A6.out).mono ?_); rintro e w29 ⟨rfl, hb⟩; refine ⟨_, rfl, ?_⟩; replace HB := Aside0.mk (below_step (kH HB) hb); (try clear hb); (try clear hb2); (try clear hk); (try clear hi)) | ((with_reducible refine gate_callee (f := 18) rfl ?_); refine goesL_ (some 43) rfl rfl Try.func18 (by kernel_rfl) rfl #[.int .u64 a0, .int .i64 a1, .bool a2, .int .u64 0, .int .u64 4294967295] rfl LMq ?_; (with_reducible refine (tillerref11_To.calls k a0 a1 a2 0 4294967295 qf qa qb _ A7.out).mono ?_); rintro e w30 ⟨rfl, hb⟩; refine ⟨_, rfl, ?_⟩; replace HB := Aside0.mk (below_step (kH HB) hb); (try clear hb); (try clear hb2); (try clear hk); (try clear hi)) | ((with_reducible refine gate_callee (f := 20) rfl ?_); refine goesL_ (some 51) rfl rfl Try.func20 (by kernel_rfl) rfl #[.bool q1, .int .u64 q2] rfl LMq ?_; (with_reducible refine (tillerlaw11_number.calls q1 q2 q0 _ A8.out).mono ?_); rintro e w' ⟨rfl, ⟨nd, rfl⟩⟩; refine ⟨_, rfl, ?_⟩))
   go_ret
   exact ⟨by first | rfl | (simp [errW_none, errW_some] <;> rfl) | (simp [*, errW_none, errW_some] <;> rfl), kH HB⟩
 rw [if_neg c9] at H
 have qh : ((wrap64 (q4)) == q0) = false := beq_eq_false_iff_ne.mpr c9; have qi : ((wrap64 (q4)) != q0) = true := bne_iff_ne.mpr c9; obtain rfl := Option.some.inj H
 go_enter Try.func5, Try.ntmps5
 go_wp2_with (first | ((with_reducible refine gate_callee (f := 21) rfl ?_); refine goesL_ (some 21) rfl rfl Try.func21 (by kernel_rfl) rfl #[.int .u64 a0, .int .i64 a1, .bool a2] rfl LMq ?_; (with_reducible refine (ints_ToHalf.calls k a0 a1 a2 q4 q5 _ A4.out).mono ?_); rintro e w31 ⟨rfl, hb⟩; refine ⟨_, rfl, ?_⟩; replace HB := Aside0.mk (below_step (kH HB) hb); (try clear hb); (try clear hb2); (try clear hk); (try clear hi)) | ((with_reducible refine gate_callee (f := 18) rfl ?_); refine goesL_ (some 28) rfl rfl Try.func18 (by kernel_rfl) rfl #[.int .u64 a0, .int .i64 a1, .bool a2, .int .u64 2147483648, .int .u64 2147483647] rfl LMq ?_; (with_reducible refine (tillerref11_To.calls k a0 a1 a2 2147483648 2147483647 q1 q2 q7 _ A5.out).mono ?_); rintro e w32 ⟨rfl, hb⟩; refine ⟨_, rfl, ?_⟩; replace HB := Aside0.mk (below_step (kH HB) hb); (try clear hb); (try clear hb2); (try clear hk); (try clear hi)) | ((with_reducible refine gate_callee (f := 22) rfl ?_); refine goesL_ (some 36) rfl rfl Try.func22 (by kernel_rfl) rfl #[.int .u64 a0, .int .i64 a1, .bool a2] rfl LMq ?_; (with_reducible refine (ints_ToPlainHalf.calls k a0 a1 a2 q8 q9 _ A6.out).mono ?_); rintro e w33 ⟨rfl, hb⟩; refine ⟨_, rfl, ?_⟩; replace HB := Aside0.mk (below_step (kH HB) hb); (try clear hb); (try clear hb2); (try clear hk); (try clear hi)) | ((with_reducible refine gate_callee (f := 18) rfl ?_); refine goesL_ (some 43) rfl rfl Try.func18 (by kernel_rfl) rfl #[.int .u64 a0, .int .i64 a1, .bool a2, .int .u64 0, .int .u64 4294967295] rfl LMq ?_; (with_reducible refine (tillerref11_To.calls k a0 a1 a2 0 4294967295 qf qa qb _ A7.out).mono ?_); rintro e w34 ⟨rfl, hb⟩; refine ⟨_, rfl, ?_⟩; replace HB := Aside0.mk (below_step (kH HB) hb); (try clear hb); (try clear hb2); (try clear hk); (try clear hi)) | ((with_reducible refine gate_callee (f := 20) rfl ?_); refine goesL_ (some 51) rfl rfl Try.func20 (by kernel_rfl) rfl #[.bool q1, .int .u64 q2] rfl LMq ?_; (with_reducible refine (tillerlaw11_number.calls q1 q2 q0 _ A8.out).mono ?_); rintro e w' ⟨rfl, ⟨nd, rfl⟩⟩; refine ⟨_, rfl, ?_⟩))
 go_ret
 exact ⟨by first | rfl | (simp [errW_none, errW_some] <;> rfl) | (simp [*, errW_none, errW_some] <;> rfl), kH HB⟩
def tillerlaw11_IntsHalves.Pure : Prop := ∀ (a0 : Int) (a1 : Int) (a2 : Bool), (Lit.int .u64 a0).wf = true → (Lit.int .i64 a1).wf = true → ∃ k, tillerlaw11_IntsHalves.f k a0 a1 a2 = some true
theorem tillerlaw11_IntsHalves.walk (P : tillerlaw11_IntsHalves.Pure) (a0 : Int) (a1 : Int) (a2 : Bool) (w : World) (w0 : (Lit.int .u64 a0).wf = true) (w1 : (Lit.int .i64 a1).wf = true) :
 Calls Try.prog 5 #[.int .u64 a0, .int .i64 a1, .bool a2] w fun e w' => e = .returned (.bool true) ∧ Below w.heap.size w w' := by
 obtain ⟨k, h⟩ := P a0 a1 a2 w0 w1; refine (tillerlaw11_IntsHalves.calls k a0 a1 a2 true w h).mono ?_; rintro e w' ⟨rfl, hd⟩; exact ⟨rfl, hd⟩
end Go.Proofs.Ytbgefpeicmbgiaa.X
end
section
namespace Go.Proofs.Ytbgefpeicmbgiaa
set_option linter.unusedVariables false
set_option linter.unusedSimpArgs false
open Go.RowKit X Go.Proofs.YtbgefpeicmbgiaaW.PrintWords
theorem sgn_bd {b : Bool} {x : Int} (h0 : 0 ≤ x) (h1 : x ≤ (if b = true then 2147483648 else 2147483647)) : wrap64 (sgn b x) = sgn b x ∧ x ≤ (if b = true then 9223372036854775808 else 9223372036854775807) := by
  unfold sgn wrap64
  cases b
  · rw [if_neg (by decide)] at h1
    rw [if_neg (by decide), if_neg (by decide)]
    omega
  · rw [if_pos rfl] at h1
    rw [if_pos rfl, if_pos rfl]
    omega
theorem IntsHalves : tillerlaw11_IntsHalves.Pure := by
  intro p m told w0 w1
  have hp := U_wf w0
  obtain ⟨K1, h1⟩ := ref11_to_ev m told (B := 2147483648) (A := 2147483647) hp (by unfold U; omega) (by unfold U; omega)
  replace h1 : ∀ k, K1 ≤ k → tillerref11_To.f k p m told 2147483648 2147483647 = some (nAm p m told 2147483648 2147483647) := h1
  obtain ⟨K2, h2⟩ := ref11_to_ev m told (B := 0) (A := 4294967295) hp (by unfold U; omega) (by unfold U; omega)
  replace h2 : ∀ k, K2 ≤ k → tillerref11_To.f k p m told 0 4294967295 = some (nAm p m told 0 4294967295) := h2
  obtain ⟨a0, a1, a2, a3⟩ := nAm_bd p m told 2147483648 2147483647 (by omega) (by omega)
  obtain ⟨b0, b1, b2, b3⟩ := nAm_bd p m told 0 4294967295 (by omega) (by omega)
  obtain ⟨s1, s2⟩ := sgn_bd a0 a1
  have b4 : (nAm p m told 0 4294967295).2.1 ≤ 4294967295 := by split at b1 <;> omega
  refine ⟨K1 + K2 + 5, ?_⟩
  unfold tillerlaw11_IntsHalves.f
  rw [toHalf_eq (K1 + K2) m told hp, Option.bind_some, h1 (K1 + K2 + 5) (by omega), Option.bind_some, toPlainHalf_eq (K1 + K2) m told hp, Option.bind_some, h2 (K1 + K2 + 5) (by omega), Option.bind_some, number_eq a0 s2, Option.bind_some, if_pos s1, if_pos (by unfold wrap64; omega), if_pos (by rw [IntKind.wrap_u64]; omega), if_pos (by unfold wrap64; omega), sure11 (K1 + K2)]
  rfl
end Go.Proofs.Ytbgefpeicmbgiaa
end
section
namespace Go.Proofs.Ytbgefpeicmbgiaa.Pure
set_option linter.unusedVariables false
set_option linter.unusedSimpArgs false
theorem IntsHalves : Go.Proofs.Ytbgefpeicmbgiaa.X.tillerlaw11_IntsHalves.Pure := Go.Proofs.Ytbgefpeicmbgiaa.IntsHalves
end Go.Proofs.Ytbgefpeicmbgiaa.Pure
end
