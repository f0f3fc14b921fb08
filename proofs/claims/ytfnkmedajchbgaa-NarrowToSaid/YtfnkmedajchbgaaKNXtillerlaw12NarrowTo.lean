import Derived.Test.YtfnkmedajchbgaaKN4
import Derived.Test.YtfnkmedajchbgaaKNXnarrowTo
import Derived.Test.YtfnkmedajchbgaaKN8
import Derived.Test.YtfnkmedajchbgaaKNXtillerref12To
namespace Go.Proofs.Ytfnkmedajchbgaa.X
open Go.RowKit Go.Proofs.YtfnkmedajchbgaaW.PrintWords Go.Proofs.YtfnkmedajchbgaaW.PrintLast Go.Proofs.YtfnkmedajchbgaaW.PrintMore
attribute [local go_sem] max2_int min2_int max_two min_two max_three min_three max_four min_four   
set_option linter.unusedVariables false
set_option linter.unusedSimpArgs false
def tillerlaw12_NarrowTo.f (k : Nat) (a0 : Int) (a1 : Int) : Option (Bool) := (narrow_To.f k a0 a1).bind fun q6 => ((tillerref12_To.f k a0 a1).bind fun q5 => (if q6.1 = q5.1 then (if (wrap64 (q6.2)) = q5.2 then ((tillerlaw12_sure.f k).bind fun q0 => (some q0)) else (some false)) else (some false)))
theorem tillerlaw12_NarrowTo.mono : ∀ a0 a1 k, LeO (tillerlaw12_NarrowTo.f k a0 a1) (tillerlaw12_NarrowTo.f (k + 1) a0 a1) := by
 intro a0 a1 k
 unfold tillerlaw12_NarrowTo.f
 repeat' first
  | (with_reducible exact narrow_To.mono _ _ _)
  | (with_reducible exact tillerlaw12_sure.mono _)
  | (with_reducible exact tillerref12_To.mono _ _ _)
  | (with_reducible exact LeO.refl _)
  | (with_reducible exact LeO.none _)
  | (with_reducible refine LeO.ite ?_ ?_)
  | (with_reducible refine LeO.bind ?_ (fun _ => ?_))
  | exact narrow_To.mono _ _ _
  | exact tillerlaw12_sure.mono _
  | exact tillerref12_To.mono _ _ _
  | exact LeO.none _
  | refine LeO.ite ?_ ?_
  | refine LeO.bind ?_ (fun _ => ?_)
set_option maxHeartbeats 8000000 in
set_option maxRecDepth 100000 in
theorem tillerlaw12_NarrowTo.calls (k : Nat) (a0 : Int) (a1 : Int) (r : Bool) (w : World) (h : tillerlaw12_NarrowTo.f k a0 a1 = some r) :
 Calls Try.prog 3 #[.int .u64 a0, .int .i64 a1] w fun e w' => e = .returned (.bool r) ∧ Below w.heap.size w w' := by
 have HB := Aside0.mk (Below.refl w.heap.size w); have H : ((narrow_To.f k a0 a1).bind fun q6 => ((tillerref12_To.f k a0 a1).bind fun q5 => (if q6.1 = q5.1 then (if (wrap64 (q6.2)) = q5.2 then ((tillerlaw12_sure.f k).bind fun q0 => (some q0)) else (some false)) else (some false)))) = some r := h; clear h; replace H := Option.bind_eq_some_iff.mp H; obtain ⟨⟨q1, q2⟩, A30, H⟩ := H; replace H : ((tillerref12_To.f k a0 a1).bind fun q5 => (if q1 = q5.1 then (if (wrap64 (q2)) = q5.2 then ((tillerlaw12_sure.f k).bind fun q0 => (some q0)) else (some false)) else (some false))) = some r := H; have A3 := Aside0.mk A30; clear A30; replace H := Option.bind_eq_some_iff.mp H; obtain ⟨⟨q3, q4⟩, A40, H⟩ := H; replace H : (if q1 = q3 then (if (wrap64 (q2)) = q4 then ((tillerlaw12_sure.f k).bind fun q0 => (some q0)) else (some false)) else (some false)) = some r := H; have A4 := Aside0.mk A40; clear A40
 by_cases c5 : q1 = q3
 · rw [if_pos c5] at H
   have q7 : (q1 == q3) = true := beq_iff_eq.mpr c5; have q8 : (q1 != q3) = false := bne_eq_false_iff_eq.mpr c5; clear c5
   by_cases c6 : (wrap64 (q2)) = q4
   · rw [if_pos c6] at H
     have q9 : ((wrap64 (q2)) == q4) = true := beq_iff_eq.mpr c6; have qa : ((wrap64 (q2)) != q4) = false := bne_eq_false_iff_eq.mpr c6; clear c6; replace H := Option.bind_eq_some_iff.mp H; obtain ⟨q0, A70, H⟩ := H; replace H : (some q0) = some r := H; have A7 := Aside0.mk A70; clear A70; obtain rfl := Option.some.inj H
     go_enter Try.func3, Try.ntmps3
     go_wp2_with (first | ((with_reducible refine gate_callee (f := 12) rfl ?_); refine goesL_ (some 12) rfl rfl Try.func12 (by kernel_rfl) rfl #[.int .u64 a0, .int .i64 a1] rfl LMq ?_; (with_reducible refine (narrow_To.calls k a0 a1 q1 q2 _ A3.out).mono ?_); rintro e w8 ⟨rfl, hb⟩; refine ⟨_, rfl, ?_⟩; replace HB := Aside0.mk (below_step (kH HB) hb); (try clear hb); (try clear hb2); (try clear hk); (try clear hi)) | ((with_reducible refine gate_callee (f := 13) rfl ?_); refine goesL_ (some 18) rfl rfl Try.func13 (by kernel_rfl) rfl #[.int .u64 a0, .int .i64 a1] rfl LMq ?_; (with_reducible refine (tillerref12_To.calls k a0 a1 q3 q4 _ A4.out).mono ?_); rintro e w9 ⟨rfl, hb⟩; refine ⟨_, rfl, ?_⟩; replace HB := Aside0.mk (below_step (kH HB) hb); (try clear hb); (try clear hb2); (try clear hk); (try clear hi)) | (go_at_call 14; (with_reducible refine (tillerlaw12_sure.calls k  q0 _ A7.out).mono ?_); rintro e w10 ⟨rfl, hb⟩; replace HB := Aside0.mk (below_step (kH HB) hb); (try clear hb); (try clear hb2); (try clear hk); (try clear hi)))
     go_ret
     exact ⟨by first | rfl | (simp [errW_none, errW_some] <;> rfl) | (simp [*, errW_none, errW_some] <;> rfl), kH HB⟩
   rw [if_neg c6] at H
   have q9 : ((wrap64 (q2)) == q4) = false := beq_eq_false_iff_ne.mpr c6; have qa : ((wrap64 (q2)) != q4) = true := bne_iff_ne.mpr c6; obtain rfl := Option.some.inj H
   go_enter Try.func3, Try.ntmps3
   go_wp2_with (first | ((with_reducible refine gate_callee (f := 12) rfl ?_); refine goesL_ (some 12) rfl rfl Try.func12 (by kernel_rfl) rfl #[.int .u64 a0, .int .i64 a1] rfl LMq ?_; (with_reducible refine (narrow_To.calls k a0 a1 q1 q2 _ A3.out).mono ?_); rintro e w11 ⟨rfl, hb⟩; refine ⟨_, rfl, ?_⟩; replace HB := Aside0.mk (below_step (kH HB) hb); (try clear hb); (try clear hb2); (try clear hk); (try clear hi)) | ((with_reducible refine gate_callee (f := 13) rfl ?_); refine goesL_ (some 18) rfl rfl Try.func13 (by kernel_rfl) rfl #[.int .u64 a0, .int .i64 a1] rfl LMq ?_; (with_reducible refine (tillerref12_To.calls k a0 a1 q3 q4 _ A4.out).mono ?_); rintro e w12 ⟨rfl, hb⟩; refine ⟨_, rfl, ?_⟩; replace HB := Aside0.mk (below_step (kH HB) hb); (try clear hb); (try clear hb2); (try clear hk); (try clear hi)))
   go_ret
   exact ⟨by first | rfl | (simp [errW_none, errW_some] <;> rfl) | (simp [*, errW_none, errW_some] <;> rfl), kH HB⟩
 rw [if_neg c5] at H
 have q7 : (q1 == q3) = false := beq_eq_false_iff_ne.mpr c5; have q8 : (q1 != q3) = true := bne_iff_ne.mpr c5; obtain rfl := Option.some.inj H
 go_enter Try.func3, Try.ntmps3
 go_wp2_with (first | ((with_reducible refine gate_callee (f := 12) rfl ?_); refine goesL_ (some 12) rfl rfl Try.func12 (by kernel_rfl) rfl #[.int .u64 a0, .int .i64 a1] rfl LMq ?_; (with_reducible refine (narrow_To.calls k a0 a1 q1 q2 _ A3.out).mono ?_); rintro e w13 ⟨rfl, hb⟩; refine ⟨_, rfl, ?_⟩; replace HB := Aside0.mk (below_step (kH HB) hb); (try clear hb); (try clear hb2); (try clear hk); (try clear hi)) | ((with_reducible refine gate_callee (f := 13) rfl ?_); refine goesL_ (some 18) rfl rfl Try.func13 (by kernel_rfl) rfl #[.int .u64 a0, .int .i64 a1] rfl LMq ?_; (with_reducible refine (tillerref12_To.calls k a0 a1 q3 q4 _ A4.out).mono ?_); rintro e w14 ⟨rfl, hb⟩; refine ⟨_, rfl, ?_⟩; replace HB := Aside0.mk (below_step (kH HB) hb); (try clear hb); (try clear hb2); (try clear hk); (try clear hi)))
 go_ret
 exact ⟨by first | rfl | (simp [errW_none, errW_some] <;> rfl) | (simp [*, errW_none, errW_some] <;> rfl), kH HB⟩
def tillerlaw12_NarrowTo.Pure : Prop := ∀ (a0 : Int) (a1 : Int), (Lit.int .u64 a0).wf = true → (Lit.int .i64 a1).wf = true → ∃ k, tillerlaw12_NarrowTo.f k a0 a1 = some true
theorem tillerlaw12_NarrowTo.walk (P : tillerlaw12_NarrowTo.Pure) (a0 : Int) (a1 : Int) (w : World) (w0 : (Lit.int .u64 a0).wf = true) (w1 : (Lit.int .i64 a1).wf = true) :
 Calls Try.prog 3 #[.int .u64 a0, .int .i64 a1] w fun e w' => e = .returned (.bool true) ∧ Below w.heap.size w w' := by
 obtain ⟨k, h⟩ := P a0 a1 w0 w1; refine (tillerlaw12_NarrowTo.calls k a0 a1 true w h).mono ?_; rintro e w' ⟨rfl, hd⟩; exact ⟨rfl, hd⟩
end Go.Proofs.Ytfnkmedajchbgaa.X
