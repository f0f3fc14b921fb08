-- printed by a turned print of this work's own (wip/mp.sh): Lean checks it
import Derived.Test.YtedjlpfggjcmfaaX0
namespace Go.Proofs.Ytedjlpfggjcmfaa.X
open Go.RowKit Go.Proofs.YtedjlpfggjcmfaaW.PrintWords Go.Proofs.YtedjlpfggjcmfaaW.PrintLast Go.Proofs.YtedjlpfggjcmfaaW.PrintMore
attribute [local go_sem] max2_int min2_int max_two min_two max_three min_three max_four min_four   -- for this text's walks alone
set_option linter.unusedVariables false
set_option linter.unusedSimpArgs false

set_option linter.unusedSimpArgs false in
theorem eqA41 (d : Nat) (w : World) (x0 y0 : Int) (x1 y1 : Int) (x2 y2 : Int) (x3 y3 : Int) :
 (Op.equalIn (d + 2) 41 (.agg #[.int .u64 x0, .int .u64 x1, .int .u64 x2, .int .u64 x3]) (.agg #[.int .u64 y0, .int .u64 y1, .int .u64 y2, .int .u64 y3])).run Try.prog w = .ok (x0 == y0 && (x1 == y1 && (x2 == y2 && (x3 == y3)))) w := by
 have hs : ∀ w, (sizeOf 22).run Try.prog w = .ok 1 w := fun w => by kernel_rfl
 have h1 : ∀ (x y : Int) w, (Op.equalIn (d + 1) 22 (.int .u64 x) (.int .u64 y)).run Try.prog w = .ok (x == y) w := fun x y w => run_equalIn_int w d 22 .u64 .u64 x y Try.underlying22
 have p0 : ∀ (x0 x1 x2 x3 : Int) (w : World), (part 22 #[.int .u64 x0, .int .u64 x1, .int .u64 x2, .int .u64 x3] 0).run Try.prog w = .ok (.int .u64 x0) w := fun _ _ _ _  w => by kernel_rfl
 have p1 : ∀ (x0 x1 x2 x3 : Int) (w : World), (part 22 #[.int .u64 x0, .int .u64 x1, .int .u64 x2, .int .u64 x3] 1).run Try.prog w = .ok (.int .u64 x1) w := fun _ _ _ _  w => by kernel_rfl
 have p2 : ∀ (x0 x1 x2 x3 : Int) (w : World), (part 22 #[.int .u64 x0, .int .u64 x1, .int .u64 x2, .int .u64 x3] 2).run Try.prog w = .ok (.int .u64 x2) w := fun _ _ _ _  w => by kernel_rfl
 have p3 : ∀ (x0 x1 x2 x3 : Int) (w : World), (part 22 #[.int .u64 x0, .int .u64 x1, .int .u64 x2, .int .u64 x3] 3).run Try.prog w = .ok (.int .u64 x3) w := fun _ _ _ _  w => by kernel_rfl
 have hr : List.range' 0 4 1 = [0, 1, 2, 3] := rfl
 unfold Op.equalIn
 simp only [Sem.run_bind, run_underlying Try.underlying41, Result.andThen_ok, hs, Std.Legacy.Range.forIn_eq_forIn_range', Std.Legacy.Range.size, List.forIn_cons, List.forIn_nil, hr, Nat.sub_zero, Nat.add_sub_cancel, Nat.div_one, Nat.mul_one, Nat.zero_mul, p0, p1, p2, p3, h1, Sem.run_ite, Sem.run_pure]
 cases hx0 : (x0 == y0) <;> simp only [Result.andThen_ok, Bool.not_true, Bool.not_false, Bool.false_eq_true, if_true, if_false, Sem.run_pure, Bool.false_and, Bool.true_and, Sem.run_bind, p0, p1, p2, p3, h1, Sem.run_ite]
 cases hx1 : (x1 == y1) <;> simp only [Result.andThen_ok, Bool.not_true, Bool.not_false, Bool.false_eq_true, if_true, if_false, Sem.run_pure, Bool.false_and, Bool.true_and, Sem.run_bind, p0, p1, p2, p3, h1, Sem.run_ite]
 cases hx2 : (x2 == y2) <;> simp only [Result.andThen_ok, Bool.not_true, Bool.not_false, Bool.false_eq_true, if_true, if_false, Sem.run_pure, Bool.false_and, Bool.true_and, Sem.run_bind, p0, p1, p2, p3, h1, Sem.run_ite]
 cases hx3 : (x3 == y3) <;> simp only [Result.andThen_ok, Bool.not_true, Bool.not_false, Bool.false_eq_true, if_true, if_false, Sem.run_pure, Bool.false_and, Bool.true_and, Sem.run_bind, p0, p1, p2, p3, h1, Sem.run_ite]
end Go.Proofs.Ytedjlpfggjcmfaa.X
