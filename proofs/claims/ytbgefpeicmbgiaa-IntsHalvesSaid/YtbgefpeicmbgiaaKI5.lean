import Derived.Test.YtbgefpeicmbgiaaKI4
section
namespace Go.Proofs.Ytbgefpeicmbgiaa.X
open Go.RowKit Go.Proofs.YtbgefpeicmbgiaaW.PrintWords Go.Proofs.YtbgefpeicmbgiaaW.PrintLast Go.Proofs.YtbgefpeicmbgiaaW.PrintMore
attribute [local go_sem] max2_int min2_int max_two min_two max_three min_three max_four min_four   
set_option linter.unusedVariables false
set_option linter.unusedSimpArgs false
def ints_OfPlain.f (a0 : Int) (a1 : Int) : Option (Int × Int) := (wide_Of.f a0).bind fun q0 => ((rnd_Round.f false 0 q0.1 q0.2.1 q0.2.2.1 q0.2.2.2 false a1).bind fun q1 => (some (q1.1, q1.2)))
set_option maxHeartbeats 8000000 in
set_option maxRecDepth 100000 in
theorem ints_OfPlain.calls (a0 : Int) (a1 : Int) (r1 : Int) (r2 : Int) (w : World) (h : ints_OfPlain.f a0 a1 = some (r1, r2)) :
 Calls Try.prog 15 #[.int .u64 a0, .int .i64 a1] w fun e w' => e = .returned (.tuple #[.int .u64 r1, .int .u8 r2]) ∧ Below w.heap.size w w' := by
 have hu61 := Try.underlying61; have HB := Aside0.mk (Below.refl w.heap.size w); have H : ((wide_Of.f a0).bind fun q0 => ((rnd_Round.f false 0 q0.1 q0.2.1 q0.2.2.1 q0.2.2.2 false a1).bind fun q1 => (some (q1.1, q1.2)))) = some (r1, r2) := h; clear h; replace H := Option.bind_eq_some_iff.mp H; obtain ⟨⟨q2, q3, q4, q5⟩, A30, H⟩ := H; replace H : ((rnd_Round.f false 0 q2 q3 q4 q5 false a1).bind fun q1 => (some (q1.1, q1.2))) = some (r1, r2) := H; have A3 := Aside0.mk A30; clear A30; replace H := Option.bind_eq_some_iff.mp H; obtain ⟨⟨q6, q7⟩, A40, H⟩ := H; replace H : (some (q6, q7)) = some (r1, r2) := H; have A4 := Aside0.mk A40; clear A40
 simp only [Option.some.injEq, Prod.mk.injEq] at H
 obtain ⟨rfl, rfl⟩ := H
 go_enter Try.func15, Try.ntmps15
 go_wp2_with (first | ((with_reducible refine gate_callee (f := 31) rfl ?_); refine goesL_ (some 7) rfl rfl Try.func31 (by kernel_rfl) rfl #[.int .u64 a0] rfl LMq ?_; (with_reducible refine (wide_Of.calls a0 q2 q3 q4 q5 _ A3.out).mono ?_); rintro e w5 ⟨rfl, hb⟩; refine ⟨_, rfl, ?_⟩; replace HB := Aside0.mk (below_step (kH HB) hb); (try clear hb); (try clear hb2); (try clear hk); (try clear hi)) | ((with_reducible refine gate_callee (f := 30) rfl ?_); refine goesL_ (some 10) rfl rfl Try.func30 (by kernel_rfl) rfl #[.agg #[.bool false, .int .i64 0, .int .u64 q2, .int .u64 q3, .int .u64 q4, .int .u64 q5, .bool false], .int .i64 a1] rfl LMq ?_; (with_reducible refine (rnd_Round.calls false 0 q2 q3 q4 q5 false a1 q6 q7 _ A4.out).mono ?_); rintro e w6 ⟨rfl, hb⟩; refine ⟨_, rfl, ?_⟩; replace HB := Aside0.mk (below_step (kH HB) hb); (try clear hb); (try clear hb2); (try clear hk); (try clear hi)))
 go_ret2
 exact ⟨by first | rfl | (simp [errW_none, errW_some] <;> rfl) | (simp [*, errW_none, errW_some] <;> rfl), kH HB⟩
end Go.Proofs.Ytbgefpeicmbgiaa.X
end
section
namespace Go.Proofs.Ytbgefpeicmbgiaa.X
open Go.RowKit Go.Proofs.YtbgefpeicmbgiaaW.PrintWords Go.Proofs.YtbgefpeicmbgiaaW.PrintLast Go.Proofs.YtbgefpeicmbgiaaW.PrintMore
attribute [local go_sem] max2_int min2_int max_two min_two max_three min_three max_four min_four   
set_option linter.unusedVariables false
set_option linter.unusedSimpArgs false
def ints_Of.f (a0 : Int) (a1 : Int) : Option (Int × Int) := if a0 ≥ 0 then ((ints_OfPlain.f (IntKind.u64.wrap (a0)) a1).bind fun q2 => (some (q2.1, q2.2))) else ((wide_Of.f (IntKind.u64.wrap (-(IntKind.u64.wrap (a0))))).bind fun q0 => ((rnd_Round.f true 0 q0.1 q0.2.1 q0.2.2.1 q0.2.2.2 false a1).bind fun q1 => (some (q1.1, q1.2))))
set_option maxHeartbeats 8000000 in
set_option maxRecDepth 100000 in
theorem ints_Of.calls (a0 : Int) (a1 : Int) (r1 : Int) (r2 : Int) (w : World) (h : ints_Of.f a0 a1 = some (r1, r2)) :
 Calls Try.prog 13 #[.int .i64 a0, .int .i64 a1] w fun e w' => e = .returned (.tuple #[.int .u64 r1, .int .u8 r2]) ∧ Below w.heap.size w w' := by
 have hu61 := Try.underlying61; have HB := Aside0.mk (Below.refl w.heap.size w); have H : (if a0 ≥ 0 then ((ints_OfPlain.f (IntKind.u64.wrap (a0)) a1).bind fun q2 => (some (q2.1, q2.2))) else ((wide_Of.f (IntKind.u64.wrap (-(IntKind.u64.wrap (a0))))).bind fun q0 => ((rnd_Round.f true 0 q0.1 q0.2.1 q0.2.2.1 q0.2.2.2 false a1).bind fun q1 => (some (q1.1, q1.2))))) = some (r1, r2) := h; clear h
 by_cases c3 : a0 ≥ 0
 · rw [if_pos c3] at H
   have qb : decide (0 ≤ a0) = true := decide_eq_true c3; clear c3; replace H := Option.bind_eq_some_iff.mp H; obtain ⟨⟨q7, q8⟩, A40, H⟩ := H; replace H : (some (q7, q8)) = some (r1, r2) := H; have A4 := Aside0.mk A40; clear A40
   simp only [Option.some.injEq, Prod.mk.injEq] at H
   obtain ⟨rfl, rfl⟩ := H
   go_enter Try.func13, Try.ntmps13
   go_wp2_with (first | ((with_reducible refine gate_callee (f := 15) rfl ?_); refine goesL_ (some 11) rfl rfl Try.func15 (by kernel_rfl) rfl #[.int .u64 (IntKind.u64.wrap (a0)), .int .i64 a1] rfl LMq ?_; (with_reducible refine (ints_OfPlain.calls (IntKind.u64.wrap (a0)) a1 q7 q8 _ A4.out).mono ?_); rintro e w5 ⟨rfl, hb⟩; refine ⟨_, rfl, ?_⟩; replace HB := Aside0.mk (below_step (kH HB) hb); (try clear hb); (try clear hb2); (try clear hk); (try clear hi)))
   go_ret2
   exact ⟨by first | rfl | (simp [errW_none, errW_some] <;> rfl) | (simp [*, errW_none, errW_some] <;> rfl), kH HB⟩
 rw [if_neg c3] at H
 have qb : decide (0 ≤ a0) = false := decide_eq_false c3; clear c3; replace H := Option.bind_eq_some_iff.mp H; obtain ⟨⟨q3, q4, q5, q6⟩, A60, H⟩ := H; replace H : ((rnd_Round.f true 0 q3 q4 q5 q6 false a1).bind fun q1 => (some (q1.1, q1.2))) = some (r1, r2) := H; have A6 := Aside0.mk A60; clear A60; replace H := Option.bind_eq_some_iff.mp H; obtain ⟨⟨q9, qa⟩, A70, H⟩ := H; replace H : (some (q9, qa)) = some (r1, r2) := H; have A7 := Aside0.mk A70; clear A70
 simp only [Option.some.injEq, Prod.mk.injEq] at H
 obtain ⟨rfl, rfl⟩ := H
 go_enter Try.func13, Try.ntmps13
 go_wp2_with (first | ((with_reducible refine gate_callee (f := 31) rfl ?_); refine goesL_ (some 17) rfl rfl Try.func31 (by kernel_rfl) rfl #[.int .u64 (IntKind.u64.wrap (-(IntKind.u64.wrap (a0))))] rfl LMq ?_; (with_reducible refine (wide_Of.calls (IntKind.u64.wrap (-(IntKind.u64.wrap (a0)))) q3 q4 q5 q6 _ A6.out).mono ?_); rintro e w8 ⟨rfl, hb⟩; refine ⟨_, rfl, ?_⟩; replace HB := Aside0.mk (below_step (kH HB) hb); (try clear hb); (try clear hb2); (try clear hk); (try clear hi)) | ((with_reducible refine gate_callee (f := 30) rfl ?_); refine goesL_ (some 20) rfl rfl Try.func30 (by kernel_rfl) rfl #[.agg #[.bool true, .int .i64 0, .int .u64 q3, .int .u64 q4, .int .u64 q5, .int .u64 q6, .bool false], .int .i64 a1] rfl LMq ?_; (with_reducible refine (rnd_Round.calls true 0 q3 q4 q5 q6 false a1 q9 qa _ A7.out).mono ?_); rintro e w9 ⟨rfl, hb⟩; refine ⟨_, rfl, ?_⟩; replace HB := Aside0.mk (below_step (kH HB) hb); (try clear hb); (try clear hb2); (try clear hk); (try clear hi)))
 go_ret2
 exact ⟨by first | rfl | (simp [errW_none, errW_some] <;> rfl) | (simp [*, errW_none, errW_some] <;> rfl), kH HB⟩
end Go.Proofs.Ytbgefpeicmbgiaa.X
end
section
namespace Go.Proofs.Ytbgefpeicmbgiaa.X
open Go.RowKit Go.Proofs.YtbgefpeicmbgiaaW.PrintWords Go.Proofs.YtbgefpeicmbgiaaW.PrintLast Go.Proofs.YtbgefpeicmbgiaaW.PrintMore
attribute [local go_sem] max2_int min2_int max_two min_two max_three min_three max_four min_four   
set_option linter.unusedVariables false
set_option linter.unusedSimpArgs false
def whole_none.f (a0 : Int) (a1 : Int) : Option (Int × Int) := (pat_Class.f a0).bind fun q1 => (if q1 = 5 then (some (9221120237041090560, 1)) else ((pat_Class.f a1).bind fun q0 => (if q0 = 5 then (some (9221120237041090560, 1)) else (some (9221120237041090560, 0)))))
set_option maxHeartbeats 8000000 in
set_option maxRecDepth 100000 in
theorem whole_none.calls (a0 : Int) (a1 : Int) (r1 : Int) (r2 : Int) (w : World) (h : whole_none.f a0 a1 = some (r1, r2)) :
 Calls Try.prog 101 #[.int .u64 a0, .int .u64 a1] w fun e w' => e = .returned (.tuple #[.int .u64 r1, .int .u8 r2]) ∧ Below w.heap.size w w' := by
 have HB := Aside0.mk (Below.refl w.heap.size w); have H : ((pat_Class.f a0).bind fun q1 => (if q1 = 5 then (some (9221120237041090560, 1)) else ((pat_Class.f a1).bind fun q0 => (if q0 = 5 then (some (9221120237041090560, 1)) else (some (9221120237041090560, 0)))))) = some (r1, r2) := h; clear h; replace H := Option.bind_eq_some_iff.mp H; obtain ⟨q1, A30, H⟩ := H; replace H : (if q1 = 5 then (some (9221120237041090560, 1)) else ((pat_Class.f a1).bind fun q0 => (if q0 = 5 then (some (9221120237041090560, 1)) else (some (9221120237041090560, 0))))) = some (r1, r2) := H; have A3 := Aside0.mk A30; clear A30
 by_cases c4 : q1 = 5
 · rw [if_pos c4] at H
   have q2 : (q1 == 5) = true := beq_iff_eq.mpr c4; have q3 : (q1 != 5) = false := bne_eq_false_iff_eq.mpr c4; clear c4
   simp only [Option.some.injEq, Prod.mk.injEq] at H
   obtain ⟨rfl, rfl⟩ := H
   go_enter Try.func101, Try.ntmps101
   go_wp2_with (first | ((with_reducible refine gate_callee (f := 80) rfl ?_); refine goesL_ (some 7) rfl rfl Try.func80 (by kernel_rfl) rfl #[.int .u64 a0] rfl LMq ?_; (with_reducible refine (pat_Class.calls a0 q1 _ A3.out).mono ?_); rintro e w5 ⟨rfl, hb⟩; refine ⟨_, rfl, ?_⟩; replace HB := Aside0.mk (below_step (kH HB) hb); (try clear hb); (try clear hb2); (try clear hk); (try clear hi)))
   go_ret2
   exact ⟨by first | rfl | (simp [errW_none, errW_some] <;> rfl) | (simp [*, errW_none, errW_some] <;> rfl), kH HB⟩
 rw [if_neg c4] at H
 have q2 : (q1 == 5) = false := beq_eq_false_iff_ne.mpr c4; have q3 : (q1 != 5) = true := bne_iff_ne.mpr c4; replace H := Option.bind_eq_some_iff.mp H; obtain ⟨q0, A60, H⟩ := H; replace H : (if q0 = 5 then (some (9221120237041090560, 1)) else (some (9221120237041090560, 0))) = some (r1, r2) := H; have A6 := Aside0.mk A60; clear A60
 by_cases c7 : q0 = 5
 · rw [if_pos c7] at H
   have q4 : (q0 == 5) = true := beq_iff_eq.mpr c7; have q5 : (q0 != 5) = false := bne_eq_false_iff_eq.mpr c7; clear c7
   simp only [Option.some.injEq, Prod.mk.injEq] at H
   obtain ⟨rfl, rfl⟩ := H
   go_enter Try.func101, Try.ntmps101
   go_wp2_with (first | ((with_reducible refine gate_callee (f := 80) rfl ?_); refine goesL_ (some 7) rfl rfl Try.func80 (by kernel_rfl) rfl #[.int .u64 a0] rfl LMq ?_; (with_reducible refine (pat_Class.calls a0 q1 _ A3.out).mono ?_); rintro e w8 ⟨rfl, hb⟩; refine ⟨_, rfl, ?_⟩; replace HB := Aside0.mk (below_step (kH HB) hb); (try clear hb); (try clear hb2); (try clear hk); (try clear hi)) | (go_at_call 80; (with_reducible refine (pat_Class.calls a1 q0 _ A6.out).mono ?_); rintro e w9 ⟨rfl, hb⟩; replace HB := Aside0.mk (below_step (kH HB) hb); (try clear hb); (try clear hb2); (try clear hk); (try clear hi)))
   go_ret2
   exact ⟨by first | rfl | (simp [errW_none, errW_some] <;> rfl) | (simp [*, errW_none, errW_some] <;> rfl), kH HB⟩
 rw [if_neg c7] at H
 have q4 : (q0 == 5) = false := beq_eq_false_iff_ne.mpr c7; have q5 : (q0 != 5) = true := bne_iff_ne.mpr c7
 simp only [Option.some.injEq, Prod.mk.injEq] at H
 obtain ⟨rfl, rfl⟩ := H
 go_enter Try.func101, Try.ntmps101
 go_wp2_with (first | ((with_reducible refine gate_callee (f := 80) rfl ?_); refine goesL_ (some 7) rfl rfl Try.func80 (by kernel_rfl) rfl #[.int .u64 a0] rfl LMq ?_; (with_reducible refine (pat_Class.calls a0 q1 _ A3.out).mono ?_); rintro e w10 ⟨rfl, hb⟩; refine ⟨_, rfl, ?_⟩; replace HB := Aside0.mk (below_step (kH HB) hb); (try clear hb); (try clear hb2); (try clear hk); (try clear hi)) | (go_at_call 80; (with_reducible refine (pat_Class.calls a1 q0 _ A6.out).mono ?_); rintro e w11 ⟨rfl, hb⟩; replace HB := Aside0.mk (below_step (kH HB) hb); (try clear hb); (try clear hb2); (try clear hk); (try clear hi)))
 go_ret2
 exact ⟨by first | rfl | (simp [errW_none, errW_some] <;> rfl) | (simp [*, errW_none, errW_some] <;> rfl), kH HB⟩
end Go.Proofs.Ytbgefpeicmbgiaa.X
end
section
namespace Go.Proofs.Ytbgefpeicmbgiaa.X
open Go.RowKit Go.Proofs.YtbgefpeicmbgiaaW.PrintWords Go.Proofs.YtbgefpeicmbgiaaW.PrintLast Go.Proofs.YtbgefpeicmbgiaaW.PrintMore
attribute [local go_sem] max2_int min2_int max_two min_two max_three min_three max_four min_four   
set_option linter.unusedVariables false
set_option linter.unusedSimpArgs false
def ints_signed_int64.f (a0 : Bool) (a1 : Int) : Option (Int) := if a0 = true then (some (wrap64 (-(wrap64 (a1))))) else (some (wrap64 (a1)))
set_option maxHeartbeats 8000000 in
set_option maxRecDepth 100000 in
theorem ints_signed_int64.calls (a0 : Bool) (a1 : Int) (r : Int) (w : World) (h : ints_signed_int64.f a0 a1 = some r) :
 Calls Try.prog 35 #[.bool a0, .int .u64 a1] w fun e w' => e = .returned (.int .i64 r) ∧ Drawn0 w w' := by
 have H : (if a0 = true then (some (wrap64 (-(wrap64 (a1))))) else (some (wrap64 (a1)))) = some r := h; clear h
 by_cases c3 : a0 = true
 · subst c3
   have H1 : (some (wrap64 (-(wrap64 (a1))))) = some r := by rw [if_pos rfl] at H; exact H
   clear H; have H := H1; clear H1; obtain rfl := Option.some.inj H
   go_enter Try.func35, Try.ntmps35
   go_wp2
   go_ret
   exact ⟨by first | rfl | (simp; done) | (simp [*]; done) | (simp [wrap64]; done), by repeat (first | exact Drawn0.refl _ | apply Drawn0.step)⟩
 replace c3 := Bool.eq_false_iff.mpr c3; subst c3
 have H1 : (some (wrap64 (a1))) = some r := by rw [if_neg (show ¬ (false = true) by decide)] at H; exact H
 clear H; have H := H1; clear H1; obtain rfl := Option.some.inj H
 go_enter Try.func35, Try.ntmps35
 go_wp2
 go_ret
 exact ⟨by first | rfl | (simp; done) | (simp [*]; done) | (simp [wrap64]; done), by repeat (first | exact Drawn0.refl _ | apply Drawn0.step)⟩
end Go.Proofs.Ytbgefpeicmbgiaa.X
end
section
namespace Go.Proofs.Ytbgefpeicmbgiaa
set_option linter.unusedVariables false
set_option linter.unusedSimpArgs false
open Go.RowKit
def pV (p : Int) : Nat := (pS p).toNat * 2 ^ (pX p + 1074).toNat
theorem pE_fin {p : Int} (h : pC p < 3) : pE p < 2047 := by
  have h1 := pE_bd p
  unfold pC at h
  rcases (show pE p = 2047 ∨ pE p < 2047 by omega) with g | g
  · rw [if_pos g] at h
    split at h
    · omega
    · split at h <;> omega
  · exact g
theorem pV_eq {p : Int} (h : pC p < 3) : pE p = 0 ∧ pV p = (pF p).toNat ∨ 0 < pE p ∧ pE p < 2047 ∧ pV p = ((pF p).toNat + 4503599627370496) * 2 ^ (pE p - 1).toNat := by
  have h1 := pE_bd p
  have h2 := pF_bd p
  have h3 := pE_fin h
  have hE : ¬ pE p = 2047 := by omega
  unfold pV pX pS
  rw [if_neg hE, if_neg hE]
  by_cases g : 0 < pE p
  · right
    rw [if_pos g, if_pos g, show (pE p - 1075 + 1074).toNat = (pE p - 1).toNat by omega, show (pF p + 4503599627370496).toNat = (pF p).toNat + 4503599627370496 by omega]
    exact ⟨g, h3, rfl⟩
  · left
    rw [if_neg g, if_neg g, show (-1074 + 1074 : Int).toNat = 0 from rfl, Nat.pow_zero, Nat.mul_one]
    exact ⟨by omega, rfl⟩
theorem pA_EF (p : Int) : pA p = pE p * 4503599627370496 + pF p := by unfold pA pE pF; omega
theorem EF_inj {a b : Int} (h : pA a = pA b) : pE a = pE b ∧ pF a = pF b := by
  rw [pA_EF, pA_EF] at h
  have ea := pE_bd a
  have eb := pE_bd b
  have fa := pF_bd a
  have fb := pF_bd b
  omega
theorem pV_same {a b : Int} (h : pA a = pA b) : pV a = pV b := by
  obtain ⟨h1, h2⟩ := EF_inj h
  unfold pV pS pX
  rw [h1, h2]
theorem pA_self {p : Int} (h0 : 0 ≤ p) (h1 : p < 9223372036854775808) : pA p = p := by unfold pA; omega
theorem pA_sg {p : Int} (hp : U p) : p = pA p + sg (pM p) := by
  unfold U at hp
  unfold pA pM sg
  by_cases h : 9223372036854775808 ≤ p
  · rw [decide_eq_true h, if_pos rfl]; omega
  · rw [decide_eq_false h, if_neg (by decide)]; omega
theorem sgM {A : Int} (h0 : 0 ≤ A) (h1 : A < 9223372036854775808) (b : Bool) : pM (A + sg b) = b := by
  unfold pM
  cases b
  · exact decide_eq_false (by simp only [sg]; simp; omega)
  · exact decide_eq_true (by simp only [sg]; simp; omega)
theorem sgAA (A : Int) (b : Bool) : pA (A + sg b) = pA A := by
  unfold pA
  cases b <;> simp only [sg] <;> simp <;> omega
theorem C_same {a b : Int} (h : pA a = pA b) : pC a = pC b ∧ pX a = pX b ∧ pS a = pS b := by
  obtain ⟨h1, h2⟩ := EF_inj h
  unfold pC pX pS
  rw [h1, h2]
  exact ⟨rfl, rfl, rfl⟩
theorem sgU {A : Int} (h0 : 0 ≤ A) (h1 : A < 9223372036854775808) (b : Bool) : U (A + sg b) := by have := sg_bd b; unfold U; omega
theorem fin_of {p : Int} (h0 : 0 ≤ p) (h1 : p < 9218868437227405312) : pC p < 3 := (fin_iff p (by unfold U; omega)).1 (by rw [pA_self h0 (by omega)]; exact h1)
theorem of_fin {p : Int} (hp : U p) (h : pC p < 3) : pA p < 9218868437227405312 := (fin_iff p hp).2 h
theorem pA_pA (p : Int) : pA (pA p) = pA p := by unfold pA; omega
theorem cut_fit {s : Nat} {x n : Int} (h : n ≤ x) : cutH s x n = false ∧ cutR s x n = false := by
  unfold cutH cutR
  rw [if_pos h, if_pos h]
  exact ⟨rfl, rfl⟩
theorem round_fit {x : Int} {s : Nat} (hs : s < 2 ^ 53) (hx : -1074 ≤ x) (hx2 : x ≤ 971) :
    ∃ p, 0 ≤ p ∧ p < 9218868437227405312 ∧ pC p < 3 ∧ pV p = s * 2 ^ (x + 1074).toNat ∧ ∀ mi m, rRound mi x s m = (p + sg mi, 0) := by
  by_cases z : s = 0
  · refine ⟨0, by omega, by omega, by decide, ?_, fun mi m => ?_⟩
    · rw [z, Nat.zero_mul]; decide
    · unfold rRound; rw [if_pos z, Int.zero_add]
  · have hb : blen s ≤ 53 := blen_le_iff.2 hs
    have hN : rN x s ≤ x := by rcases rN_cases x s with h | h <;> omega
    obtain ⟨c1, c2⟩ := cut_fit (s := s) hN
    have ho : rOdd s x (rN x s) = false := by unfold rOdd; rw [c1, c2]; rfl
    have hQ := cutQ_no_mod z hN
    have hl := cutQ53_lt (x := x) z
    rw [show (2 : Nat) ^ 53 = 9007199254740992 from rfl] at hl
    have hn := rN_ge x s
    have hPQ : ∀ mi m, PQ mi x s m = ((cutQ s x (rN x s) : Nat) : Int) + (rN x s + 1074) * 4503599627370496 := fun mi m => by unfold PQ; rw [uu_exact _ _ _ _ ho]; rfl
    have hF : ∀ mi m, rFlag mi x s m = 0 := fun mi m => by
      rcases rFlag_cases mi x s m with g | g
      · exact g.1
      · rw [ho] at g; exact absurd g.2 (by decide)
    have e : ∀ mi m, rRound mi x s m = (((cutQ s x (rN x s) : Nat) : Int) + (rN x s + 1074) * 4503599627370496 + sg mi, 0) := fun mi m => by
      rw [round_eq _ _ _ _ z, hPQ, hF, if_neg (by omega)]
    have e0 := e false 0
    rw [show sg false = 0 from rfl, Int.add_zero] at e0
    obtain ⟨_, _, h3, h4, h5, h6, _⟩ := sq_exact z e0
    refine ⟨_, by omega, by omega, h4, ?_, e⟩
    unfold pV
    rw [h5, h6, hQ, Nat.mul_assoc, ← Nat.pow_add]
    congr 2
    omega
end Go.Proofs.Ytbgefpeicmbgiaa
end
section
namespace Go.Proofs.Ytbgefpeicmbgiaa
set_option linter.unusedVariables false
set_option linter.unusedSimpArgs false
open Go.RowKit
theorem tQ_le (mi : Bool) (e : Int) (s : Nat) (n m : Int) (b : Nat) (hb : e + (blen s : Int) ≤ n + b) : tQ mi e s n m ≤ 2 ^ b := by
  have hl := blen_lt s
  unfold tQ
  split
  · next h =>
    refine Nat.le_of_lt (Nat.lt_of_lt_of_le (Nat.mul_lt_mul_of_pos_right hl (Nat.two_pow_pos _)) ?_)
    rw [← Nat.pow_add]
    exact Nat.pow_le_pow_right (by omega) (by omega)
  · next h =>
    have : s / 2 ^ (n - e).toNat < 2 ^ b := by
      refine Nat.div_lt_of_lt_mul ?_
      rw [← Nat.pow_add]
      exact Nat.lt_of_lt_of_le hl (Nat.pow_le_pow_right (by omega) (by omega))
    split <;> omega
theorem tQ_md (mi : Bool) (e : Int) (s : Nat) (n m : Int) : tQ mi e s n (md m) = tQ mi e s n m := by unfold tQ tU; rw [upB_md]
def rV (mi : Bool) (V N : Nat) (m : Int) : Nat := V / 2 ^ (N + 1) + if upB m mi (decide (V / 2 ^ (N + 1) % 2 = 1)) (decide (V / 2 ^ N % 2 = 1)) (decide (V % 2 ^ N ≠ 0)) = true then 1 else 0
theorem V_parts {s : Nat} {e n : Int} (h : e < n) (k N : Nat) (hN : (n - e).toNat + k = N + 1) :
    s * 2 ^ k / 2 ^ (N + 1) = s / 2 ^ (n - e).toNat ∧ s * 2 ^ k / 2 ^ N = s / 2 ^ (n - e - 1).toNat ∧ s * 2 ^ k % 2 ^ N = s % 2 ^ (n - e - 1).toNat * 2 ^ k ∧ s * 2 ^ k % 2 ^ (N + 1) = s % 2 ^ (n - e).toNat * 2 ^ k := by
  have hN2 : N = (n - e - 1).toNat + k := by omega
  have hk := Nat.two_pow_pos k
  refine ⟨?_, ?_, ?_, ?_⟩
  · rw [← hN, Nat.pow_add, Nat.mul_div_mul_right _ _ hk]
  · rw [hN2, Nat.pow_add, Nat.mul_div_mul_right _ _ hk]
  · rw [hN2, Nat.pow_add, Nat.mul_mod_mul_right]
  · rw [← hN, Nat.pow_add, Nat.mul_mod_mul_right]
theorem tQ_V (mi : Bool) {e : Int} (s : Nat) {n : Int} (m : Int) {N : Nat} (he : -1074 ≤ e) (hN : n + 1074 = ((N + 1 : Nat) : Int)) :
    tQ mi e s n m = rV mi (s * 2 ^ (e + 1074).toNat) N m ∧ rOdd s e n = decide (s * 2 ^ (e + 1074).toNat % 2 ^ (N + 1) ≠ 0) := by
  by_cases c : n ≤ e
  · obtain ⟨c1, c2⟩ := cut_fit (s := s) c
    have e1 : s * 2 ^ (e + 1074).toNat = s * 2 ^ (e - n).toNat * 2 ^ (N + 1) := by
      rw [Nat.mul_assoc, ← Nat.pow_add]; congr 2; omega
    have e2 : s * 2 ^ (e + 1074).toNat = s * 2 ^ (e - n).toNat * 2 * 2 ^ N := by rw [e1, Nat.pow_succ, Nat.mul_assoc _ 2, Nat.mul_comm 2]
    have z1 : s * 2 ^ (e + 1074).toNat % 2 ^ (N + 1) = 0 := by rw [e1, Nat.mul_mod_left]
    have z2 : s * 2 ^ (e + 1074).toNat % 2 ^ N = 0 := by rw [e2, Nat.mul_mod_left]
    have z3 : s * 2 ^ (e + 1074).toNat / 2 ^ N % 2 = 0 := by rw [e2, Nat.mul_div_cancel _ (Nat.two_pow_pos _), Nat.mul_mod_left]
    refine ⟨?_, ?_⟩
    · unfold rV tQ
      rw [if_pos c, z2, z3, decide_eq_false (show ¬ (0 = 1) by omega), decide_eq_false (show ¬ (0 ≠ 0) by omega), upB_no, if_neg (by decide), e1, Nat.mul_div_cancel _ (Nat.two_pow_pos _), Nat.add_zero]
    · unfold rOdd
      rw [c1, c2, z1]; rfl
  · obtain ⟨p1, p2, p3, p4⟩ := V_parts (s := s) (show e < n by omega) (e + 1074).toNat N (by omega)
    have hk := Nat.two_pow_pos (e + 1074).toNat
    refine ⟨?_, ?_⟩
    · unfold rV tQ tU cutH cutR
      rw [if_neg c, if_neg c, if_neg c, p1, p2, p3]
      congr 2
      congr 2
      rw [Bool.eq_iff_iff]
      simp only [decide_eq_true_eq, ne_eq, Nat.mul_eq_zero]
      omega
    · rw [odd_of s (by omega), p4, Bool.eq_iff_iff]
      simp only [decide_eq_true_eq, ne_eq, Nat.mul_eq_zero]
      omega
theorem rV_exact (mi : Bool) (q N : Nat) (m : Int) : rV mi (q * 2 ^ (N + 1)) N m = q := by
  have e2 : q * 2 ^ (N + 1) = q * 2 * 2 ^ N := by rw [Nat.pow_succ, Nat.mul_assoc, Nat.mul_comm 2]
  have z2 : q * 2 ^ (N + 1) % 2 ^ N = 0 := by rw [e2, Nat.mul_mod_left]
  have z3 : q * 2 ^ (N + 1) / 2 ^ N % 2 = 0 := by rw [e2, Nat.mul_div_cancel _ (Nat.two_pow_pos _), Nat.mul_mod_left]
  unfold rV
  rw [z2, z3, decide_eq_false (show ¬ (0 = 1) by omega), decide_eq_false (show ¬ (0 ≠ 0) by omega), upB_no, if_neg (by decide), Nat.mul_div_cancel _ (Nat.two_pow_pos _), Nat.add_zero]
end Go.Proofs.Ytbgefpeicmbgiaa
end
section
namespace Go.Proofs.Ytbgefpeicmbgiaa
set_option linter.unusedVariables false
set_option linter.unusedSimpArgs false
open Go.RowKit
theorem pS_53 (a : Int) : (pS a).toNat < 2 ^ 53 := by
  have := pS_bd a
  rw [show (2 : Nat) ^ 53 = 9007199254740992 from rfl]
  omega
def wQ (a m : Int) : Nat := tQ (pM a) (pX a) (pS a).toNat 0 m
def wRnd (a m : Int) (told : Bool) : Int × Int := if 3 < pC a then qNone a a else if pC a = 3 then (a, 0) else if 0 ≤ pX a then (a, 0) else ((rRound (pM a) 0 (wQ a m) 0).1, if rOdd (pS a).toNat (pX a) 0 = true then (if told = true then 16 else 0) else 0)
theorem wQ_lt {a : Int} (m : Int) (h : pX a < 0) : wQ a m < 2 ^ 53 := by
  have hs := pS_53 a
  unfold wQ tQ
  rw [if_neg (by omega)]
  have h1 : (pS a).toNat / 2 ^ (0 - pX a).toNat ≤ (pS a).toNat / 2 ^ 1 := Nat.div_le_div_left (Nat.pow_le_pow_right (by omega) (by omega)) (by decide)
  rw [Nat.pow_one] at h1
  rw [show (2 : Nat) ^ 53 = 9007199254740992 from rfl] at hs ⊢
  split <;> omega
theorem wRnd_val {a : Int} (ha : U a) (h3 : pC a < 3) (m : Int) {N : Nat} (hN : N = 1073) : ∃ p, 0 ≤ p ∧ p < 9218868437227405312 ∧ pC p < 3 ∧ pV p = rV (pM a) (pV a) N m * 2 ^ (N + 1) ∧
    ∀ told, wRnd a m told = (p + sg (pM a), if pV a % 2 ^ (N + 1) ≠ 0 then (if told = true then 16 else 0) else 0) := by
  have hx := pX_bd a
  obtain ⟨t1, t2⟩ := tQ_V (pM a) (pS a).toNat (n := 0) m (N := N) hx.1 (by omega)
  have hV : (pS a).toNat * 2 ^ (pX a + 1074).toNat = pV a := rfl
  rw [hV] at t1 t2
  have n1 : ¬ 3 < pC a := by omega
  have n2 : ¬ pC a = 3 := by omega
  unfold wRnd
  simp only [if_neg n1, if_neg n2]
  by_cases c : 0 ≤ pX a
  · simp only [if_pos c]
    have e : pV a = (pS a).toNat * 2 ^ (pX a).toNat * 2 ^ (N + 1) := by
      have k : (pX a + 1074).toNat = (pX a).toNat + (N + 1) := by omega
      unfold pV
      rw [k, Nat.pow_add 2 (pX a).toNat (N + 1)]
      exact (Nat.mul_assoc _ _ _).symm
    refine ⟨pA a, (pA_bd a).1, of_fin ha h3, by rw [(C_same (pA_pA a)).1]; exact h3, ?_, fun told => ?_⟩
    · rw [pV_same (pA_pA a), e, rV_exact]
    · rw [← pA_sg ha, e, Nat.mul_mod_left, if_neg (by omega)]
  · simp only [if_neg c]
    obtain ⟨p, p0, p1, p2, p3, p4⟩ := round_fit (wQ_lt m (show pX a < 0 by omega)) (show -1074 ≤ (0 : Int) by omega) (by omega)
    have k : ((0 : Int) + 1074).toNat = N + 1 := by omega
    refine ⟨p, p0, p1, p2, ?_, fun told => ?_⟩
    · rw [p3, k]
      unfold wQ
      rw [t1]
    · rw [p4, t2]
      congr 1
      simp only [decide_eq_true_eq]
end Go.Proofs.Ytbgefpeicmbgiaa
end
section
namespace Go.Proofs.Ytbgefpeicmbgiaa
set_option linter.unusedVariables false
set_option linter.unusedSimpArgs false
open Go.RowKit
theorem pV_pat {q : Nat} {n : Int} (h0 : -1074 ≤ n) (hq : q ≤ 9007199254740992) (h52 : q < 4503599627370496 → n = -1074) (hP : (q : Int) + (n + 1074) * 4503599627370496 < 9218868437227405312) :
    pC ((q : Int) + (n + 1074) * 4503599627370496) < 3 ∧ pV ((q : Int) + (n + 1074) * 4503599627370496) = q * 2 ^ (n + 1074).toNat := by
  generalize hp : (q : Int) + (n + 1074) * 4503599627370496 = P at *
  have h3 : pC P < 3 := fin_of (by omega) hP
  refine ⟨h3, ?_⟩
  have hE : pE P = P / 4503599627370496 % 2048 := rfl
  have hF : pF P = P % 4503599627370496 := rfl
  by_cases c : q < 4503599627370496
  · have := h52 c
    subst this
    rcases pV_eq h3 with ⟨a, b⟩ | ⟨a, b, d⟩
    · rw [b, show ((-1074 : Int) + 1074).toNat = 0 from rfl, Nat.pow_zero, Nat.mul_one]; omega
    · exfalso; omega
  · rcases pV_eq h3 with ⟨a, b⟩ | ⟨a, b, d⟩
    · exfalso; omega
    · rw [d]
      by_cases e : q = 9007199254740992
      · obtain ⟨k, hk⟩ : ∃ k, (n + 1074).toNat = k := ⟨_, rfl⟩
        have e1 : (pE P - 1).toNat = k + 1 := by omega
        have e2 : (pF P).toNat = 0 := by omega
        rw [e1, e2, hk, e, Nat.pow_succ, Nat.zero_add, Nat.mul_comm (2 ^ k) 2, ← Nat.mul_assoc]
      · have e1 : (pE P - 1).toNat = (n + 1074).toNat := by omega
        have e2 : (pF P).toNat + 4503599627370496 = q := by omega
        rw [e1, e2]
theorem round_val (mi : Bool) (x : Int) {s : Nat} (m : Int) (hs : s ≠ 0) (h : PQ mi x s m < 9218868437227405312) :
    ∃ p, 0 ≤ p ∧ p < 9218868437227405312 ∧ pC p < 3 ∧ pV p = (cutQ s x (rN x s) + uu mi x s m) * 2 ^ (rN x s + 1074).toNat ∧ rRound mi x s m = (p + sg mi, rFlag mi x s m) := by
  have hlt := cutQ53_lt (x := x) hs
  have hge := cutQ_ge (x := x) hs
  have hn := rN_ge x s
  have hu := uu_le mi x s m
  rw [show (2 : Nat) ^ 53 = 9007199254740992 from rfl] at hlt
  rw [show (2 : Nat) ^ 52 = 4503599627370496 from rfl] at hge
  have hp := PQ_ge mi x s m
  unfold PQ at h hp
  obtain ⟨c, v⟩ := pV_pat (q := cutQ s x (rN x s) + uu mi x s m) hn (by omega) (fun g => by omega) h
  refine ⟨_, hp, h, c, v, ?_⟩
  rw [round_eq _ _ _ _ hs]
  unfold PQ
  rw [if_neg (by omega)]
theorem whole_of {p : Int} {R N : Nat} (hN : N = 1073) (h : pV p = R * 2 ^ (N + 1)) (mi : Bool) (m : Int) : tQ mi (pX p) (pS p).toNat 0 m = R ∧ rOdd (pS p).toNat (pX p) 0 = false := by
  have hx := pX_bd p
  obtain ⟨t1, t2⟩ := tQ_V mi (pS p).toNat (n := 0) m (N := N) hx.1 (by omega)
  have hV : (pS p).toNat * 2 ^ (pX p + 1074).toNat = pV p := rfl
  rw [hV, h] at t1 t2
  rw [rV_exact] at t1
  rw [Nat.mul_mod_left] at t2
  exact ⟨t1, t2⟩
theorem whole_round (mi : Bool) {A : Nat} (m : Int) (hA : A < 18446744073709551616) {N : Nat} (hN : N = 1073) :
    ∃ p R, 0 ≤ p ∧ p < 9218868437227405312 ∧ pC p < 3 ∧ pV p = R * 2 ^ (N + 1) ∧ (rRound mi 0 A m).1 = p + sg mi ∧
      (A < 9007199254740992 → R = A ∧ (rRound mi 0 A m).2 = 0) ∧
      ((m = 4 ∧ mi = false ∨ m = 3 ∧ mi = true) → R ≤ A) ∧ ((m = 3 ∧ mi = false ∨ m = 4 ∧ mi = true) → A ≤ R) ∧ (A ≤ 9223372036854775808 → R ≤ 9223372036854775808) := by
  by_cases c : A < 9007199254740992
  · obtain ⟨p, p0, p1, p2, p3, p4⟩ := round_fit (x := 0) (s := A) (by rw [show (2 : Nat) ^ 53 = 9007199254740992 from rfl]; exact c) (by omega) (by omega)
    refine ⟨p, A, p0, p1, p2, ?_, by rw [p4], fun _ => ⟨rfl, by rw [p4]⟩, fun _ => Nat.le_refl _, fun _ => Nat.le_refl _, fun h => h⟩
    rw [p3, show ((0 : Int) + 1074).toNat = N + 1 by omega]
  · have hs : A ≠ 0 := by omega
    have hb1 : 54 ≤ blen A := by
      rcases Nat.lt_or_ge (blen A) 54 with g | g
      · have := blen_le_iff.1 (show blen A ≤ 53 by omega)
        rw [show (2 : Nat) ^ 53 = 9007199254740992 from rfl] at this
        omega
      · exact g
    have hb2 : blen A ≤ 64 := blen_le_iff.2 hA
    have hn : rN 0 A = (blen A : Int) - 53 := by rcases rN_cases 0 A with h | h <;> omega
    obtain ⟨j, hj⟩ : ∃ j, blen A = 53 + j := ⟨blen A - 53, by omega⟩
    have hnj : rN 0 A = (j : Int) := by omega
    have hlt := cutQ53_lt (x := 0) hs
    rw [show (2 : Nat) ^ 53 = 9007199254740992 from rfl] at hlt
    have hu := uu_le mi 0 A m
    have hP : PQ mi 0 A m < 9218868437227405312 := by unfold PQ; omega
    obtain ⟨p, p0, p1, p2, p3, p4⟩ := round_val mi 0 m hs hP
    have hQ : cutQ A 0 (rN 0 A) = A / 2 ^ j := by
      unfold cutQ
      rw [if_neg (by omega)]
      congr 2
      omega
    have pj := Nat.two_pow_pos j
    have hdm := Nat.div_add_mod A (2 ^ j)
    have hml := Nat.mod_lt A pj
    refine ⟨p, (A / 2 ^ j + uu mi 0 A m) * 2 ^ j, p0, p1, p2, ?_, by rw [p4], fun g => absurd g c, fun g => ?_, fun g => ?_, fun g => ?_⟩
    · rw [p3, hQ, Nat.mul_assoc, ← Nat.pow_add]
      congr 2
      omega
    · have hz : uu mi 0 A m = 0 := by
        unfold uu upB
        rcases g with ⟨g1, g2⟩ | ⟨g1, g2⟩ <;> subst g1 g2 <;> simp
      rw [hz, Nat.add_zero]
      exact Nat.div_mul_le_self A _
    · have hod := odd_of A (e := 0) (n := rN 0 A) (by omega)
      rw [show (rN 0 A - 0).toNat = j by omega] at hod
      have hz : uu mi 0 A m = if A % 2 ^ j ≠ 0 then 1 else 0 := by
        have e : uu mi 0 A m = if rOdd A 0 (rN 0 A) = true then 1 else 0 := by
          unfold uu upB rOdd
          rcases g with ⟨g1, g2⟩ | ⟨g1, g2⟩ <;> subst g1 g2 <;> simp
        rw [e, hod]
        simp only [decide_eq_true_eq]
      rw [hz, Nat.add_mul]
      rw [Nat.mul_comm] at hdm
      split <;> omega
    · 
      have hj10 : j ≤ 11 := by omega
      obtain ⟨T, hT⟩ : ∃ T, 9223372036854775808 = T * 2 ^ j := ⟨2 ^ (63 - j), by rw [← Nat.pow_add, show 63 - j + j = 63 by omega]⟩
      have h1 : A / 2 ^ j ≤ T := by
        have := Nat.div_le_div_right (c := 2 ^ j) g
        rw [hT, Nat.mul_div_cancel _ pj] at this
        exact this
      rcases Nat.lt_or_ge (A / 2 ^ j) T with h2 | h2
      · rw [hT]; exact Nat.mul_le_mul_right _ (by omega)
      · have e : A = T * 2 ^ j := by
          have : A / 2 ^ j = T := by omega
          rw [this, Nat.mul_comm] at hdm
          omega
        have hod := odd_of A (e := 0) (n := rN 0 A) (by omega)
        rw [show (rN 0 A - 0).toNat = j by omega] at hod
        have ho : rOdd A 0 (rN 0 A) = false := by rw [hod, e, Nat.mul_mod_left]; rfl
        rw [uu_exact _ _ _ _ ho, Nat.add_zero]
        exact Nat.le_trans (Nat.div_mul_le_self A _) g
end Go.Proofs.Ytbgefpeicmbgiaa
end
section
namespace Go.Proofs.Ytbgefpeicmbgiaa
set_option linter.unusedVariables false
set_option linter.unusedSimpArgs false
open Go.RowKit
def nAm (p m : Int) (told : Bool) (B A : Int) : Bool × Int × Int :=
  if 3 < pC p then (false, 0, 1) else if pC p = 3 ∨ (if pM p = true then B else A) < (wQ p m : Int) then (pM p, if pM p = true then B else A, 1) else (pM p, (wQ p m : Int), if rOdd (pS p).toNat (pX p) 0 = true then (if told = true then 16 else 0) else 0)
theorem nAm_whole {p : Int} {R N : Nat} (h0 : 0 ≤ p) (h1 : p < 9218868437227405312) (hN : N = 1073) (h : pV p = R * 2 ^ (N + 1)) (mi : Bool) (m : Int) (told : Bool) (B A : Int) :
    nAm (p + sg mi) m told B A = if (if mi = true then B else A) < (R : Int) then (mi, if mi = true then B else A, 1) else (mi, (R : Int), 0) := by
  obtain ⟨c1, c2, c3⟩ := C_same (sgAA p mi)
  have hc := fin_of h0 h1
  obtain ⟨w1, w2⟩ := whole_of hN h mi m
  unfold nAm wQ
  rw [c1, c2, c3, sgM h0 (by omega) mi, w1, w2, if_neg (by omega)]
  by_cases c : (if mi = true then B else A) < (R : Int)
  · rw [if_pos (.inr c), if_pos c]
  · rw [if_neg (by omega), if_neg c, if_neg (by decide)]
theorem find_size {p : Int} {R N : Nat} (h3 : pC p < 3) (hN : N = 1073) (h : pV p = R * 2 ^ (N + 1)) :
    (11 < pX p → 18446744073709551616 ≤ R) ∧ (0 ≤ pX p → pX p ≤ 11 → (pS p).toNat * 2 ^ (pX p).toNat = R) ∧ (pX p < 0 → (pS p).toNat / 2 ^ (min (-pX p).toNat 63) = R) := by
  have hx := pX_bd p
  have hs := pS_53 p
  have hp := Nat.two_pow_pos (N + 1)
  unfold pV at h
  refine ⟨fun g => ?_, fun g g2 => ?_, fun g => ?_⟩
  · have h1 : (pS p).toNat * 2 ^ (pX p).toNat = R := by
      have k : (pX p + 1074).toNat = (pX p).toNat + (N + 1) := by omega
      rw [k, Nat.pow_add, ← Nat.mul_assoc] at h
      exact Nat.eq_of_mul_eq_mul_right hp h
    have h2 : 4503599627370496 ≤ (pS p).toNat := by
      have hE := pE_fin h3
      have hF := pF_bd p
      have hb := pE_bd p
      unfold pX at g
      unfold pS
      rw [if_neg (by omega)] at g ⊢
      by_cases e : 0 < pE p
      · rw [if_pos e]; omega
      · rw [if_neg e] at g; omega
    rw [← h1]
    have h3 : 2 ^ 12 ≤ 2 ^ (pX p).toNat := Nat.pow_le_pow_right (by omega) (by omega)
    exact Nat.mul_le_mul h2 h3
  · have k : (pX p + 1074).toNat = (pX p).toNat + (N + 1) := by omega
    rw [k, Nat.pow_add, ← Nat.mul_assoc] at h
    exact Nat.eq_of_mul_eq_mul_right hp h
  · obtain ⟨j, hj⟩ : ∃ j : Nat, -pX p = j := ⟨(-pX p).toNat, by omega⟩
    have k : N + 1 = j + (pX p + 1074).toNat := by omega
    rw [k, Nat.pow_add, ← Nat.mul_assoc] at h
    have h1 := Nat.eq_of_mul_eq_mul_right (Nat.two_pow_pos _) h
    rw [show (-pX p).toNat = j by omega, h1]
    by_cases c : j ≤ 63
    · rw [Nat.min_eq_left c, Nat.mul_div_cancel _ (Nat.two_pow_pos _)]
    · have hR : R = 0 := by
        rcases Nat.eq_zero_or_pos R with z | z
        · exact z
        · exfalso
          have a1 : 2 ^ 64 ≤ R * 2 ^ j := Nat.le_trans (Nat.pow_le_pow_right (by omega) (by omega)) (Nat.le_mul_of_pos_left _ z)
          rw [← h1] at a1
          have a2 : (2 : Nat) ^ 53 < 2 ^ 64 := by decide
          omega
      rw [hR, Nat.zero_mul, Nat.zero_div]
theorem wRnd_find {p : Int} (hp : U p) (h3 : pC p < 3) (m : Int) (told : Bool) {N : Nat} (hN : N = 1073) :
    ∃ q, 0 ≤ q ∧ q < 9218868437227405312 ∧ pC q < 3 ∧ pV q = wQ p m * 2 ^ (N + 1) ∧ wRnd p m told = (q + sg (pM p), if rOdd (pS p).toNat (pX p) 0 = true then (if told = true then 16 else 0) else 0) := by
  have hx := pX_bd p
  obtain ⟨q, q0, q1, q2, q3, q4⟩ := wRnd_val hp h3 m hN
  obtain ⟨t1, t2⟩ := tQ_V (pM p) (pS p).toNat (n := 0) m (N := N) hx.1 (by omega)
  have hV : (pS p).toNat * 2 ^ (pX p + 1074).toNat = pV p := rfl
  rw [hV] at t1 t2
  refine ⟨q, q0, q1, q2, ?_, ?_⟩
  · rw [q3, ← t1]; rfl
  · rw [q4, t2]
    simp only [decide_eq_true_eq]
end Go.Proofs.Ytbgefpeicmbgiaa
end
section
namespace Go.Proofs.Ytbgefpeicmbgiaa.X
open Go.RowKit Go.Proofs.YtbgefpeicmbgiaaW.PrintWords Go.Proofs.YtbgefpeicmbgiaaW.PrintLast Go.Proofs.YtbgefpeicmbgiaaW.PrintMore
attribute [local go_sem] max2_int min2_int max_two min_two max_three min_three max_four min_four   
set_option linter.unusedVariables false
set_option linter.unusedSimpArgs false
def ints_signed_int32.f (a0 : Bool) (a1 : Int) : Option (Int) := if a0 = true then (some (wrap32 (-(wrap32 (a1))))) else (some (wrap32 (a1)))
set_option maxHeartbeats 8000000 in
set_option maxRecDepth 100000 in
theorem ints_signed_int32.calls (a0 : Bool) (a1 : Int) (r : Int) (w : World) (h : ints_signed_int32.f a0 a1 = some r) :
 Calls Try.prog 42 #[.bool a0, .int .u64 a1] w fun e w' => e = .returned (.int .i32 r) ∧ Drawn0 w w' := by
 have H : (if a0 = true then (some (wrap32 (-(wrap32 (a1))))) else (some (wrap32 (a1)))) = some r := h; clear h
 by_cases c3 : a0 = true
 · subst c3
   have H1 : (some (wrap32 (-(wrap32 (a1))))) = some r := by rw [if_pos rfl] at H; exact H
   clear H; have H := H1; clear H1; obtain rfl := Option.some.inj H
   go_enter Try.func42, Try.ntmps42
   go_wp2
   go_ret
   exact ⟨by first | rfl | (simp; done) | (simp [*]; done) | (simp [wrap64]; done), by repeat (first | exact Drawn0.refl _ | apply Drawn0.step)⟩
 replace c3 := Bool.eq_false_iff.mpr c3; subst c3
 have H1 : (some (wrap32 (a1))) = some r := by rw [if_neg (show ¬ (false = true) by decide)] at H; exact H
 clear H; have H := H1; clear H1; obtain rfl := Option.some.inj H
 go_enter Try.func42, Try.ntmps42
 go_wp2
 go_ret
 exact ⟨by first | rfl | (simp; done) | (simp [*]; done) | (simp [wrap64]; done), by repeat (first | exact Drawn0.refl _ | apply Drawn0.step)⟩
end Go.Proofs.Ytbgefpeicmbgiaa.X
end
