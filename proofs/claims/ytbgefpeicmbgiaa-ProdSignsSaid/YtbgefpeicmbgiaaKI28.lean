import Derived.Test.YtbgefpeicmbgiaaKI4
section
namespace Go.Proofs.Ytbgefpeicmbgiaa.X
open Go.RowKit Go.Proofs.YtbgefpeicmbgiaaW.PrintWords Go.Proofs.YtbgefpeicmbgiaaW.PrintLast Go.Proofs.YtbgefpeicmbgiaaW.PrintMore
attribute [local go_sem] max2_int min2_int max_two min_two max_three min_three max_four min_four   
set_option linter.unusedVariables false
set_option linter.unusedSimpArgs false
def tillerlaw06_sides.f (a0 : Int) : Option (Int) := if a0 = 3 then (some 4) else (if a0 = 4 then (some 3) else (some a0))
set_option maxHeartbeats 8000000 in
set_option maxRecDepth 100000 in
theorem tillerlaw06_sides.calls (a0 : Int) (r : Int) (w : World) (h : tillerlaw06_sides.f a0 = some r) :
 Calls Try.prog 28 #[.int .i64 a0] w fun e w' => e = .returned (.int .i64 r) ∧ Drawn0 w w' := by
 have H : (if a0 = 3 then (some 4) else (if a0 = 4 then (some 3) else (some a0))) = some r := h; clear h
 by_cases c2 : a0 = 3
 · rw [if_pos c2] at H
   have q0 : (a0 == 3) = true := beq_iff_eq.mpr c2; have q1 : (a0 != 3) = false := bne_eq_false_iff_eq.mpr c2; clear c2; obtain rfl := Option.some.inj H
   go_enter Try.func28, Try.ntmps28
   go_wp2
   go_ret
   exact ⟨by first | rfl | (simp; done) | (simp [*]; done) | (simp [wrap64]; done), by repeat (first | exact Drawn0.refl _ | apply Drawn0.step)⟩
 rw [if_neg c2] at H
 have q0 : (a0 == 3) = false := beq_eq_false_iff_ne.mpr c2; have q1 : (a0 != 3) = true := bne_iff_ne.mpr c2
 by_cases c3 : a0 = 4
 · rw [if_pos c3] at H
   have q2 : (a0 == 4) = true := beq_iff_eq.mpr c3; have q3 : (a0 != 4) = false := bne_eq_false_iff_eq.mpr c3; clear c3; obtain rfl := Option.some.inj H
   go_enter Try.func28, Try.ntmps28
   go_wp2
   go_ret
   exact ⟨by first | rfl | (simp; done) | (simp [*]; done) | (simp [wrap64]; done), by repeat (first | exact Drawn0.refl _ | apply Drawn0.step)⟩
 rw [if_neg c3] at H
 have q2 : (a0 == 4) = false := beq_eq_false_iff_ne.mpr c3; have q3 : (a0 != 4) = true := bne_iff_ne.mpr c3; obtain rfl := Option.some.inj H
 go_enter Try.func28, Try.ntmps28
 go_wp2
 go_ret
 exact ⟨by first | rfl | (simp; done) | (simp [*]; done) | (simp [wrap64]; done), by repeat (first | exact Drawn0.refl _ | apply Drawn0.step)⟩
end Go.Proofs.Ytbgefpeicmbgiaa.X
end
section
namespace Go.Proofs.Ytbgefpeicmbgiaa.X
open Go.RowKit Go.Proofs.YtbgefpeicmbgiaaW.PrintWords Go.Proofs.YtbgefpeicmbgiaaW.PrintLast Go.Proofs.YtbgefpeicmbgiaaW.PrintMore
attribute [local go_sem] max2_int min2_int max_two min_two max_three min_three max_four min_four   
set_option linter.unusedVariables false
set_option linter.unusedSimpArgs false
def tillerlaw06_turned.f (a0 : Int) (a1 : Int) : Option (Bool) := if a0 = 9221120237041090560 then (if a1 = a0 then (some true) else (some (a0 == (Go.bits .xor .u64 a1 9223372036854775808)))) else (some (a0 == (Go.bits .xor .u64 a1 9223372036854775808)))
set_option maxHeartbeats 8000000 in
set_option maxRecDepth 100000 in
theorem tillerlaw06_turned.calls (a0 : Int) (a1 : Int) (r : Bool) (w : World) (h : tillerlaw06_turned.f a0 a1 = some r) :
 Calls Try.prog 29 #[.int .u64 a0, .int .u64 a1] w fun e w' => e = .returned (.bool r) ∧ Drawn0 w w' := by
 have H : (if a0 = 9221120237041090560 then (if a1 = a0 then (some true) else (some (a0 == (Go.bits .xor .u64 a1 9223372036854775808)))) else (some (a0 == (Go.bits .xor .u64 a1 9223372036854775808)))) = some r := h; clear h
 by_cases c3 : a0 = 9221120237041090560
 · rw [if_pos c3] at H
   have q0 : (a0 == 9221120237041090560) = true := beq_iff_eq.mpr c3; have q1 : (a0 != 9221120237041090560) = false := bne_eq_false_iff_eq.mpr c3; clear c3
   by_cases c4 : a1 = a0
   · rw [if_pos c4] at H
     have q2 : (a1 == a0) = true := beq_iff_eq.mpr c4; have q3 : (a1 != a0) = false := bne_eq_false_iff_eq.mpr c4; clear c4; obtain rfl := Option.some.inj H
     go_enter Try.func29, Try.ntmps29
     go_wp2
     go_ret
     exact ⟨by first | rfl | (simp; done) | (simp [*]; done) | (simp [wrap64]; done), by repeat (first | exact Drawn0.refl _ | apply Drawn0.step)⟩
   rw [if_neg c4] at H
   have q2 : (a1 == a0) = false := beq_eq_false_iff_ne.mpr c4; have q3 : (a1 != a0) = true := bne_iff_ne.mpr c4; obtain rfl := Option.some.inj H
   go_enter Try.func29, Try.ntmps29
   go_wp2
   go_ret
   exact ⟨by first | rfl | (simp; done) | (simp [*]; done) | (simp [wrap64]; done), by repeat (first | exact Drawn0.refl _ | apply Drawn0.step)⟩
 rw [if_neg c3] at H
 have q0 : (a0 == 9221120237041090560) = false := beq_eq_false_iff_ne.mpr c3; have q1 : (a0 != 9221120237041090560) = true := bne_iff_ne.mpr c3; obtain rfl := Option.some.inj H
 go_enter Try.func29, Try.ntmps29
 go_wp2
 go_ret
 exact ⟨by first | rfl | (simp; done) | (simp [*]; done) | (simp [wrap64]; done), by repeat (first | exact Drawn0.refl _ | apply Drawn0.step)⟩
end Go.Proofs.Ytbgefpeicmbgiaa.X
end
