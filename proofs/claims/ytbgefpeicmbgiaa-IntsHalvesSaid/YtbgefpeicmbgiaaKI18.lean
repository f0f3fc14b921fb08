import Derived.Test.YtbgefpeicmbgiaaKI4
import Derived.Test.YtbgefpeicmbgiaaKI14
import Derived.Test.YtbgefpeicmbgiaaKIXtillerref04Round
section
namespace Go.Proofs.Ytbgefpeicmbgiaa.X
open Go.RowKit Go.Proofs.YtbgefpeicmbgiaaW.PrintWords Go.Proofs.YtbgefpeicmbgiaaW.PrintLast Go.Proofs.YtbgefpeicmbgiaaW.PrintMore
attribute [local go_sem] max2_int min2_int max_two min_two max_three min_three max_four min_four   
set_option linter.unusedVariables false
set_option linter.unusedSimpArgs false
def tillerref11_Of.f (k : Nat) (a0 : Bool) (a1 : Int) (a2 : Int) : Option (Int × Int) := (r2_Of.f k a1).bind fun q0 => ((r4_Round.f k a0 0 q0 a2).bind fun q1 => (some (q1.1, q1.2)))
theorem tillerref11_Of.mono : ∀ a0 a1 a2 k, LeO (tillerref11_Of.f k a0 a1 a2) (tillerref11_Of.f (k + 1) a0 a1 a2) := by
 intro a0 a1 a2 k
 unfold tillerref11_Of.f
 repeat' first
  | (with_reducible exact r2_Of.mono _ _)
  | (with_reducible exact r4_Round.mono _ _ _ _ _)
  | (with_reducible exact LeO.refl _)
  | (with_reducible exact LeO.none _)
  | (with_reducible refine LeO.ite ?_ ?_)
  | (with_reducible refine LeO.bind ?_ (fun _ => ?_))
  | exact r2_Of.mono _ _
  | exact r4_Round.mono _ _ _ _ _
  | exact LeO.none _
  | refine LeO.ite ?_ ?_
  | refine LeO.bind ?_ (fun _ => ?_)
set_option maxHeartbeats 8000000 in
set_option maxRecDepth 100000 in
theorem tillerref11_Of.calls (k : Nat) (a0 : Bool) (a1 : Int) (a2 : Int) (r1 : Int) (r2 : Int) (w : World) (h : tillerref11_Of.f k a0 a1 a2 = some (r1, r2)) :
 Calls Try.prog 14 #[.bool a0, .int .u64 a1, .int .i64 a2] w fun e w' => e = .returned (.tuple #[.int .u64 r1, .int .i64 r2]) ∧ Below w.heap.size w w' := by
 have hu67 := Try.underlying67; have HB := Aside0.mk (Below.refl w.heap.size w); have H : ((r2_Of.f k a1).bind fun q0 => ((r4_Round.f k a0 0 q0 a2).bind fun q1 => (some (q1.1, q1.2)))) = some (r1, r2) := h; clear h; replace H := Option.bind_eq_some_iff.mp H; obtain ⟨q0, A40, H⟩ := H; replace H : ((r4_Round.f k a0 0 q0 a2).bind fun q1 => (some (q1.1, q1.2))) = some (r1, r2) := H; have A4 := Aside0.mk A40; clear A40; replace H := Option.bind_eq_some_iff.mp H; obtain ⟨⟨q3, q4⟩, A50, H⟩ := H; replace H : (some (q3, q4)) = some (r1, r2) := H; have A5 := Aside0.mk A50; clear A50
 simp only [Option.some.injEq, Prod.mk.injEq] at H
 obtain ⟨rfl, rfl⟩ := H
 go_enter Try.func14, Try.ntmps14
 go_wp2_with (first | ((with_reducible refine gate_callee (f := 33) rfl ?_); refine goesL_ (some 10) rfl rfl Try.func33 (by kernel_rfl) rfl #[.int .u64 a1] rfl LMq ?_; (with_reducible refine (r2_Of.calls k a1 q0 _ A4.out).mono ?_); rintro e w6 ⟨v248, rfl, ho0, hb⟩; refine ⟨_, rfl, ?_⟩; have q2 := Aside0.mk (Kd.V_lower (Kd.V_mono (ok' := fun k_ => True) ho0 (fun k_ hk_ => trivial)) (below_size (kH HB))); replace HB := Aside0.mk (below_step (kH HB) hb); (try clear hb); (try clear hb2); (try clear hk); (try clear hi); (try clear ho0); obtain ⟨Ao7, co7, eo7⟩ := Kd.V_slice q2.out; subst eo7) | ((with_reducible refine gate_callee (f := 32) rfl ?_); refine goesL_ (some 13) rfl rfl Try.func32 (by kernel_rfl) rfl #[.agg #[.bool a0, .int .i64 0, .slice Ao7 q0.length co7], .int .i64 a2] rfl LMq ?_; (with_reducible refine (r4_Round.calls k a0 0 (fun k_ => True) _ _ q0 a2 q3 q4 _ ?side1 A5.out).mono ?_); (case side1 => exact q2.out); rintro e w8 ⟨rfl, hb⟩; refine ⟨_, rfl, ?_⟩; replace q2 := Aside0.mk (Kd.V_below (kV q2) hb); replace HB := Aside0.mk (below_step (kH HB) hb); (try clear hb); (try clear hb2); (try clear hk); (try clear hi)))
 go_ret2
 exact ⟨by first | rfl | (simp [errW_none, errW_some] <;> rfl) | (simp [*, errW_none, errW_some] <;> rfl), kH HB⟩
end Go.Proofs.Ytbgefpeicmbgiaa.X
end
section
namespace Go.Proofs.Ytbgefpeicmbgiaa.X
open Go.RowKit Go.Proofs.YtbgefpeicmbgiaaW.PrintWords Go.Proofs.YtbgefpeicmbgiaaW.PrintLast Go.Proofs.YtbgefpeicmbgiaaW.PrintMore
attribute [local go_sem] max2_int min2_int max_two min_two max_three min_three max_four min_four   
set_option linter.unusedVariables false
set_option linter.unusedSimpArgs false
def tillerlaw11_number.f (a0 : Bool) (a1 : Int) : Option (Int) := if a0 = true then (some (wrap64 (IntKind.u64.wrap (-a1)))) else (some (wrap64 (a1)))
set_option maxHeartbeats 8000000 in
set_option maxRecDepth 100000 in
theorem tillerlaw11_number.calls (a0 : Bool) (a1 : Int) (r : Int) (w : World) (h : tillerlaw11_number.f a0 a1 = some r) :
 Calls Try.prog 20 #[.bool a0, .int .u64 a1] w fun e w' => e = .returned (.int .i64 r) ∧ Drawn0 w w' := by
 have H : (if a0 = true then (some (wrap64 (IntKind.u64.wrap (-a1)))) else (some (wrap64 (a1)))) = some r := h; clear h
 by_cases c3 : a0 = true
 · subst c3
   have H1 : (some (wrap64 (IntKind.u64.wrap (-a1)))) = some r := by rw [if_pos rfl] at H; exact H
   clear H; have H := H1; clear H1; obtain rfl := Option.some.inj H
   go_enter Try.func20, Try.ntmps20
   go_wp2
   go_ret
   exact ⟨by first | rfl | (simp; done) | (simp [*]; done) | (simp [wrap64]; done), by repeat (first | exact Drawn0.refl _ | apply Drawn0.step)⟩
 replace c3 := Bool.eq_false_iff.mpr c3; subst c3
 have H1 : (some (wrap64 (a1))) = some r := by rw [if_neg (show ¬ (false = true) by decide)] at H; exact H
 clear H; have H := H1; clear H1; obtain rfl := Option.some.inj H
 go_enter Try.func20, Try.ntmps20
 go_wp2
 go_ret
 exact ⟨by first | rfl | (simp; done) | (simp [*]; done) | (simp [wrap64]; done), by repeat (first | exact Drawn0.refl _ | apply Drawn0.step)⟩
end Go.Proofs.Ytbgefpeicmbgiaa.X
end
