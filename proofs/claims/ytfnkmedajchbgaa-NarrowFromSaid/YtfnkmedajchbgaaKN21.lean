import Derived.Test.YtfnkmedajchbgaaKN4
import Derived.Test.YtfnkmedajchbgaaKN8
import Derived.Test.YtfnkmedajchbgaaKN19
section
namespace Go.Proofs.Ytfnkmedajchbgaa.X
open Go.RowKit Go.Proofs.YtfnkmedajchbgaaW.PrintWords Go.Proofs.YtfnkmedajchbgaaW.PrintLast Go.Proofs.YtfnkmedajchbgaaW.PrintMore
attribute [local go_sem] max2_int min2_int max_two min_two max_three min_three max_four min_four   
set_option linter.unusedVariables false
set_option linter.unusedSimpArgs false
def tillerlaw12_NarrowFrom.f (k : Nat) (a0 : Int) : Option (Bool) := (narrow_From.f k a0).bind fun q6 => ((tillerref12_From.f k a0).bind fun q5 => (if q6.1 = q5.1 then (if (wrap64 (q6.2)) = q5.2 then ((tillerlaw12_sure.f k).bind fun q0 => (some q0)) else (some false)) else (some false)))
theorem tillerlaw12_NarrowFrom.mono : ∀ a0 k, LeO (tillerlaw12_NarrowFrom.f k a0) (tillerlaw12_NarrowFrom.f (k + 1) a0) := by
 intro a0 k
 unfold tillerlaw12_NarrowFrom.f
 repeat' first
  | (with_reducible exact narrow_From.mono _ _)
  | (with_reducible exact tillerlaw12_sure.mono _)
  | (with_reducible exact tillerref12_From.mono _ _)
  | (with_reducible exact LeO.refl _)
  | (with_reducible exact LeO.none _)
  | (with_reducible refine LeO.ite ?_ ?_)
  | (with_reducible refine LeO.bind ?_ (fun _ => ?_))
  | exact narrow_From.mono _ _
  | exact tillerlaw12_sure.mono _
  | exact tillerref12_From.mono _ _
  | exact LeO.none _
  | refine LeO.ite ?_ ?_
  | refine LeO.bind ?_ (fun _ => ?_)
set_option maxHeartbeats 8000000 in
set_option maxRecDepth 100000 in
theorem tillerlaw12_NarrowFrom.calls (k : Nat) (a0 : Int) (r : Bool) (w : World) (h : tillerlaw12_NarrowFrom.f k a0 = some r) :
 Calls Try.prog 4 #[.int .u32 a0] w fun e w' => e = .returned (.bool r) ∧ Below w.heap.size w w' := by
 have HB := Aside0.mk (Below.refl w.heap.size w); have H : ((narrow_From.f k a0).bind fun q6 => ((tillerref12_From.f k a0).bind fun q5 => (if q6.1 = q5.1 then (if (wrap64 (q6.2)) = q5.2 then ((tillerlaw12_sure.f k).bind fun q0 => (some q0)) else (some false)) else (some false)))) = some r := h; clear h; replace H := Option.bind_eq_some_iff.mp H; obtain ⟨⟨q1, q2⟩, A20, H⟩ := H; replace H : ((tillerref12_From.f k a0).bind fun q5 => (if q1 = q5.1 then (if (wrap64 (q2)) = q5.2 then ((tillerlaw12_sure.f k).bind fun q0 => (some q0)) else (some false)) else (some false))) = some r := H; have A2 := Aside0.mk A20; clear A20; replace H := Option.bind_eq_some_iff.mp H; obtain ⟨⟨q3, q4⟩, A30, H⟩ := H; replace H : (if q1 = q3 then (if (wrap64 (q2)) = q4 then ((tillerlaw12_sure.f k).bind fun q0 => (some q0)) else (some false)) else (some false)) = some r := H; have A3 := Aside0.mk A30; clear A30
 by_cases c4 : q1 = q3
 · rw [if_pos c4] at H
   have q7 : (q1 == q3) = true := beq_iff_eq.mpr c4; have q8 : (q1 != q3) = false := bne_eq_false_iff_eq.mpr c4; clear c4
   by_cases c5 : (wrap64 (q2)) = q4
   · rw [if_pos c5] at H
     have q9 : ((wrap64 (q2)) == q4) = true := beq_iff_eq.mpr c5; have qa : ((wrap64 (q2)) != q4) = false := bne_eq_false_iff_eq.mpr c5; clear c5; replace H := Option.bind_eq_some_iff.mp H; obtain ⟨q0, A60, H⟩ := H; replace H : (some q0) = some r := H; have A6 := Aside0.mk A60; clear A60; obtain rfl := Option.some.inj H
     go_enter Try.func4, Try.ntmps4
     go_wp2_with (first | ((with_reducible refine gate_callee (f := 15) rfl ?_); refine goesL_ (some 9) rfl rfl Try.func15 (by kernel_rfl) rfl #[.int .u32 a0] rfl LMq ?_; (with_reducible refine (narrow_From.calls k a0 q1 q2 _ A2.out).mono ?_); rintro e w7 ⟨rfl, hb⟩; refine ⟨_, rfl, ?_⟩; replace HB := Aside0.mk (below_step (kH HB) hb); (try clear hb); (try clear hb2); (try clear hk); (try clear hi)) | ((with_reducible refine gate_callee (f := 16) rfl ?_); refine goesL_ (some 14) rfl rfl Try.func16 (by kernel_rfl) rfl #[.int .u32 a0] rfl LMq ?_; (with_reducible refine (tillerref12_From.calls k a0 q3 q4 _ A3.out).mono ?_); rintro e w8 ⟨rfl, hb⟩; refine ⟨_, rfl, ?_⟩; replace HB := Aside0.mk (below_step (kH HB) hb); (try clear hb); (try clear hb2); (try clear hk); (try clear hi)) | (go_at_call 14; (with_reducible refine (tillerlaw12_sure.calls k  q0 _ A6.out).mono ?_); rintro e w9 ⟨rfl, hb⟩; replace HB := Aside0.mk (below_step (kH HB) hb); (try clear hb); (try clear hb2); (try clear hk); (try clear hi)))
     go_ret
     exact ⟨by first | rfl | (simp [errW_none, errW_some] <;> rfl) | (simp [*, errW_none, errW_some] <;> rfl), kH HB⟩
   rw [if_neg c5] at H
   have q9 : ((wrap64 (q2)) == q4) = false := beq_eq_false_iff_ne.mpr c5; have qa : ((wrap64 (q2)) != q4) = true := bne_iff_ne.mpr c5; obtain rfl := Option.some.inj H
   go_enter Try.func4, Try.ntmps4
   go_wp2_with (first | ((with_reducible refine gate_callee (f := 15) rfl ?_); refine goesL_ (some 9) rfl rfl Try.func15 (by kernel_rfl) rfl #[.int .u32 a0] rfl LMq ?_; (with_reducible refine (narrow_From.calls k a0 q1 q2 _ A2.out).mono ?_); rintro e w10 ⟨rfl, hb⟩; refine ⟨_, rfl, ?_⟩; replace HB := Aside0.mk (below_step (kH HB) hb); (try clear hb); (try clear hb2); (try clear hk); (try clear hi)) | ((with_reducible refine gate_callee (f := 16) rfl ?_); refine goesL_ (some 14) rfl rfl Try.func16 (by kernel_rfl) rfl #[.int .u32 a0] rfl LMq ?_; (with_reducible refine (tillerref12_From.calls k a0 q3 q4 _ A3.out).mono ?_); rintro e w11 ⟨rfl, hb⟩; refine ⟨_, rfl, ?_⟩; replace HB := Aside0.mk (below_step (kH HB) hb); (try clear hb); (try clear hb2); (try clear hk); (try clear hi)))
   go_ret
   exact ⟨by first | rfl | (simp [errW_none, errW_some] <;> rfl) | (simp [*, errW_none, errW_some] <;> rfl), kH HB⟩
 rw [if_neg c4] at H
 have q7 : (q1 == q3) = false := beq_eq_false_iff_ne.mpr c4; have q8 : (q1 != q3) = true := bne_iff_ne.mpr c4; obtain rfl := Option.some.inj H
 go_enter Try.func4, Try.ntmps4
 go_wp2_with (first | ((with_reducible refine gate_callee (f := 15) rfl ?_); refine goesL_ (some 9) rfl rfl Try.func15 (by kernel_rfl) rfl #[.int .u32 a0] rfl LMq ?_; (with_reducible refine (narrow_From.calls k a0 q1 q2 _ A2.out).mono ?_); rintro e w12 ⟨rfl, hb⟩; refine ⟨_, rfl, ?_⟩; replace HB := Aside0.mk (below_step (kH HB) hb); (try clear hb); (try clear hb2); (try clear hk); (try clear hi)) | ((with_reducible refine gate_callee (f := 16) rfl ?_); refine goesL_ (some 14) rfl rfl Try.func16 (by kernel_rfl) rfl #[.int .u32 a0] rfl LMq ?_; (with_reducible refine (tillerref12_From.calls k a0 q3 q4 _ A3.out).mono ?_); rintro e w13 ⟨rfl, hb⟩; refine ⟨_, rfl, ?_⟩; replace HB := Aside0.mk (below_step (kH HB) hb); (try clear hb); (try clear hb2); (try clear hk); (try clear hi)))
 go_ret
 exact ⟨by first | rfl | (simp [errW_none, errW_some] <;> rfl) | (simp [*, errW_none, errW_some] <;> rfl), kH HB⟩
def tillerlaw12_NarrowFrom.Pure : Prop := ∀ (a0 : Int), (Lit.int .u32 a0).wf = true → ∃ k, tillerlaw12_NarrowFrom.f k a0 = some true
theorem tillerlaw12_NarrowFrom.walk (P : tillerlaw12_NarrowFrom.Pure) (a0 : Int) (w : World) (w0 : (Lit.int .u32 a0).wf = true) :
 Calls Try.prog 4 #[.int .u32 a0] w fun e w' => e = .returned (.bool true) ∧ Below w.heap.size w w' := by
 obtain ⟨k, h⟩ := P a0 w0; refine (tillerlaw12_NarrowFrom.calls k a0 true w h).mono ?_; rintro e w' ⟨rfl, hd⟩; exact ⟨rfl, hd⟩
end Go.Proofs.Ytfnkmedajchbgaa.X
end
section
namespace Go.Proofs.Ytfnkmedajchbgaa
set_option linter.unusedVariables false
set_option linter.unusedSimpArgs false
open Go.RowKit X Go.Proofs.YtfnkmedajchbgaaW.PrintWords
theorem NarrowFrom : tillerlaw12_NarrowFrom.Pure := by
  intro q w0
  have hq := U32_wf w0
  obtain ⟨K, h⟩ := ref_from12_ev hq
  replace h : ∀ k, K ≤ k → tillerref12_From.f k q = some (nFrom q) := h
  have hf := nFrom_fl q
  refine ⟨K + 5, ?_⟩
  unfold tillerlaw12_NarrowFrom.f
  rw [from_spec (K + 3) hq, Option.bind_some, h (K + 5) (by omega), Option.bind_some, if_pos rfl, if_pos (by unfold wrap64; omega), sure12 K]
  rfl
end Go.Proofs.Ytfnkmedajchbgaa
end
section
namespace Go.Proofs.Ytfnkmedajchbgaa.Pure
set_option linter.unusedVariables false
set_option linter.unusedSimpArgs false
theorem NarrowFrom : Go.Proofs.Ytfnkmedajchbgaa.X.tillerlaw12_NarrowFrom.Pure := Go.Proofs.Ytfnkmedajchbgaa.NarrowFrom
end Go.Proofs.Ytfnkmedajchbgaa.Pure
end
