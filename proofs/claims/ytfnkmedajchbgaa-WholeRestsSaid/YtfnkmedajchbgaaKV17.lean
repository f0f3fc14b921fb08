import Derived.Test.YtfnkmedajchbgaaKV4
import Derived.Test.YtfnkmedajchbgaaKVXwholeMod
import Derived.Test.YtfnkmedajchbgaaKVXwholeRem
import Derived.Test.YtfnkmedajchbgaaKV11
import Derived.Test.YtfnkmedajchbgaaKVXtillerref02Parts
import Derived.Test.YtfnkmedajchbgaaKVXtillerref02Shr
import Derived.Test.YtfnkmedajchbgaaKVXtillerref04Round
import Derived.Test.YtfnkmedajchbgaaKVXtillerref08Rest
set_option linter.unusedVariables false
set_option linter.unusedSimpArgs false
section
namespace Go.Proofs.Ytfnkmedajchbgaa.X
open Go.RowKit Go.Proofs.YtfnkmedajchbgaaW.PrintWords Go.Proofs.YtfnkmedajchbgaaW.PrintLast Go.Proofs.YtfnkmedajchbgaaW.PrintMore
attribute [local go_sem] max2_int min2_int max_two min_two max_three min_three max_four min_four
def tillerlaw08_WholeRests.f (k : Nat) (a0 : Int) (a1 : Int) : Option (Bool) := (whole_Rem.f k a0 a1).bind fun qc => ((r8_Rest.f k a0 a1 true).bind fun qb => ((whole_Mod.f k a0 a1).bind fun q8 => ((r8_Rest.f k a0 a1 false).bind fun q0 => (if qc.1 = qb.1 then (if (wrap64 (qc.2)) = qb.2 then (if q8.1 = q0.1 then (if (wrap64 (q8.2)) = q0.2 then ((tillerlaw08_sure.f k).bind fun q1 => (some q1)) else (some false)) else (some false)) else (some false)) else (some false)))))
theorem tillerlaw08_WholeRests.mono : ∀ a0 a1 k, LeO (tillerlaw08_WholeRests.f k a0 a1) (tillerlaw08_WholeRests.f (k + 1) a0 a1) := by
 intro a0 a1 k
 unfold tillerlaw08_WholeRests.f
 repeat' (with_reducible first | exact tillerlaw08_sure.mono _ | exact r8_Rest.mono _ _ _ _ | exact whole_Mod.mono _ _ _ | exact whole_Rem.mono _ _ _ | exact LeO.refl _ | exact LeO.none _ | refine LeO.ite ?_ ?_ | refine LeO.bind ?_ (fun _ => ?_))
set_option maxHeartbeats 8000000 in
set_option maxRecDepth 100000 in
theorem tillerlaw08_WholeRests.calls (k : Nat) (a0 : Int) (a1 : Int) (r : Bool) (w : World) (h : tillerlaw08_WholeRests.f k a0 a1 = some r) :
 Calls Try.prog 7 #[.int .u64 a0, .int .u64 a1] w fun e w' => e = .returned (.bool r) ∧ Below w.heap.size w w' := by
 have HB := aK (Below.refl w.heap.size w); have H : ((whole_Rem.f k a0 a1).bind fun qc => ((r8_Rest.f k a0 a1 true).bind fun qb => ((whole_Mod.f k a0 a1).bind fun q8 => ((r8_Rest.f k a0 a1 false).bind fun q0 => (if qc.1 = qb.1 then (if (wrap64 (qc.2)) = qb.2 then (if q8.1 = q0.1 then (if (wrap64 (q8.2)) = q0.2 then ((tillerlaw08_sure.f k).bind fun q1 => (some q1)) else (some false)) else (some false)) else (some false)) else (some false)))))) = some r := h; clear h; replace H := Option.bind_eq_some_iff.mp H; obtain ⟨⟨q2, q3⟩, A30, H⟩ := H; replace H : ((r8_Rest.f k a0 a1 true).bind fun qb => ((whole_Mod.f k a0 a1).bind fun q8 => ((r8_Rest.f k a0 a1 false).bind fun q0 => (if q2 = qb.1 then (if (wrap64 (q3)) = qb.2 then (if q8.1 = q0.1 then (if (wrap64 (q8.2)) = q0.2 then ((tillerlaw08_sure.f k).bind fun q1 => (some q1)) else (some false)) else (some false)) else (some false)) else (some false))))) = some r := H; have A3 := aK A30; clear A30; replace H := Option.bind_eq_some_iff.mp H; obtain ⟨⟨q4, q5⟩, A40, H⟩ := H; replace H : ((whole_Mod.f k a0 a1).bind fun q8 => ((r8_Rest.f k a0 a1 false).bind fun q0 => (if q2 = q4 then (if (wrap64 (q3)) = q5 then (if q8.1 = q0.1 then (if (wrap64 (q8.2)) = q0.2 then ((tillerlaw08_sure.f k).bind fun q1 => (some q1)) else (some false)) else (some false)) else (some false)) else (some false)))) = some r := H; have A4 := aK A40; clear A40; replace H := Option.bind_eq_some_iff.mp H; obtain ⟨⟨q6, q7⟩, A50, H⟩ := H; replace H : ((r8_Rest.f k a0 a1 false).bind fun q0 => (if q2 = q4 then (if (wrap64 (q3)) = q5 then (if q6 = q0.1 then (if (wrap64 (q7)) = q0.2 then ((tillerlaw08_sure.f k).bind fun q1 => (some q1)) else (some false)) else (some false)) else (some false)) else (some false))) = some r := H; have A5 := aK A50; clear A50; replace H := Option.bind_eq_some_iff.mp H; obtain ⟨⟨q9, qa⟩, A60, H⟩ := H; replace H : (if q2 = q4 then (if (wrap64 (q3)) = q5 then (if q6 = q9 then (if (wrap64 (q7)) = qa then ((tillerlaw08_sure.f k).bind fun q1 => (some q1)) else (some false)) else (some false)) else (some false)) else (some false)) = some r := H; have A6 := aK A60; clear A60
 by_cases c7 : q2 = q4
 · rw [if_pos c7] at H
   have qe : (q2 == q4) = true := beq_iff_eq.mpr c7; have qf : (q2 != q4) = false := bne_eq_false_iff_eq.mpr c7; clear c7
   by_cases c8 : (wrap64 (q3)) = q5
   · rw [if_pos c8] at H
     have qg : ((wrap64 (q3)) == q5) = true := beq_iff_eq.mpr c8; have qh : ((wrap64 (q3)) != q5) = false := bne_eq_false_iff_eq.mpr c8; clear c8
     by_cases c9 : q6 = q9
     · rw [if_pos c9] at H
       have qi : (q6 == q9) = true := beq_iff_eq.mpr c9; have qj : (q6 != q9) = false := bne_eq_false_iff_eq.mpr c9; clear c9
       by_cases c10 : (wrap64 (q7)) = qa
       · rw [if_pos c10] at H
         have qk : ((wrap64 (q7)) == qa) = true := beq_iff_eq.mpr c10; have ql : ((wrap64 (q7)) != qa) = false := bne_eq_false_iff_eq.mpr c10; clear c10; replace H := Option.bind_eq_some_iff.mp H; obtain ⟨q1, qd, H⟩ := H; replace H : (some q1) = some r := H; have A11 := aK qd; clear qd; obtain rfl := Option.some.inj H
         go_enter Try.func7, Try.ntmps7
         go_wp2_with (first | ((with_reducible refine gate_callee (f := 17) rfl ?_); refine goesL_ (some 16) rfl rfl Try.func17 (by kernel_rfl) rfl #[.int .u64 a0, .int .u64 a1] rfl LMq ?_; (with_reducible refine (whole_Rem.calls k a0 a1 q2 q3 _ A3.out).mono ?_); rintro e w12 ⟨rfl, hb⟩; refine ⟨_, rfl, ?_⟩; replace HB := aK (below_step (kH HB) hb); (try clear hb); (try clear hb2); (try clear hk); (try clear hi)) | ((with_reducible refine gate_callee (f := 18) rfl ?_); refine goesL_ (some 22) rfl rfl Try.func18 (by kernel_rfl) rfl #[.int .u64 a0, .int .u64 a1, .bool true] rfl LMq ?_; (with_reducible refine (r8_Rest.calls k a0 a1 true q4 q5 _ A4.out).mono ?_); rintro e w13 ⟨rfl, hb⟩; refine ⟨_, rfl, ?_⟩; replace HB := aK (below_step (kH HB) hb); (try clear hb); (try clear hb2); (try clear hk); (try clear hi)) | ((with_reducible refine gate_callee (f := 19) rfl ?_); refine goesL_ (some 28) rfl rfl Try.func19 (by kernel_rfl) rfl #[.int .u64 a0, .int .u64 a1] rfl LMq ?_; (with_reducible refine (whole_Mod.calls k a0 a1 q6 q7 _ A5.out).mono ?_); rintro e w14 ⟨rfl, hb⟩; refine ⟨_, rfl, ?_⟩; replace HB := aK (below_step (kH HB) hb); (try clear hb); (try clear hb2); (try clear hk); (try clear hi)) | ((with_reducible refine gate_callee (f := 18) rfl ?_); refine goesL_ (some 34) rfl rfl Try.func18 (by kernel_rfl) rfl #[.int .u64 a0, .int .u64 a1, .bool false] rfl LMq ?_; (with_reducible refine (r8_Rest.calls k a0 a1 false q9 qa _ A6.out).mono ?_); rintro e w15 ⟨rfl, hb⟩; refine ⟨_, rfl, ?_⟩; replace HB := aK (below_step (kH HB) hb); (try clear hb); (try clear hb2); (try clear hk); (try clear hi)) | (go_at_call 20; (with_reducible refine (tillerlaw08_sure.calls k  q1 _ A11.out).mono ?_); rintro e w16 ⟨rfl, hb⟩; replace HB := aK (below_step (kH HB) hb); (try clear hb); (try clear hb2); (try clear hk); (try clear hi)))
         go_ret
         exact ⟨by first | rfl | (simp [errW_none, errW_some] <;> rfl) | (simp [*, errW_none, errW_some] <;> rfl), kH HB⟩
       rw [if_neg c10] at H
       have qk : ((wrap64 (q7)) == qa) = false := beq_eq_false_iff_ne.mpr c10; have ql : ((wrap64 (q7)) != qa) = true := bne_iff_ne.mpr c10; obtain rfl := Option.some.inj H
       go_enter Try.func7, Try.ntmps7
       go_wp2_with (first | ((with_reducible refine gate_callee (f := 17) rfl ?_); refine goesL_ (some 16) rfl rfl Try.func17 (by kernel_rfl) rfl #[.int .u64 a0, .int .u64 a1] rfl LMq ?_; (with_reducible refine (whole_Rem.calls k a0 a1 q2 q3 _ A3.out).mono ?_); rintro e w17 ⟨rfl, hb⟩; refine ⟨_, rfl, ?_⟩; replace HB := aK (below_step (kH HB) hb); (try clear hb); (try clear hb2); (try clear hk); (try clear hi)) | ((with_reducible refine gate_callee (f := 18) rfl ?_); refine goesL_ (some 22) rfl rfl Try.func18 (by kernel_rfl) rfl #[.int .u64 a0, .int .u64 a1, .bool true] rfl LMq ?_; (with_reducible refine (r8_Rest.calls k a0 a1 true q4 q5 _ A4.out).mono ?_); rintro e w18 ⟨rfl, hb⟩; refine ⟨_, rfl, ?_⟩; replace HB := aK (below_step (kH HB) hb); (try clear hb); (try clear hb2); (try clear hk); (try clear hi)) | ((with_reducible refine gate_callee (f := 19) rfl ?_); refine goesL_ (some 28) rfl rfl Try.func19 (by kernel_rfl) rfl #[.int .u64 a0, .int .u64 a1] rfl LMq ?_; (with_reducible refine (whole_Mod.calls k a0 a1 q6 q7 _ A5.out).mono ?_); rintro e w19 ⟨rfl, hb⟩; refine ⟨_, rfl, ?_⟩; replace HB := aK (below_step (kH HB) hb); (try clear hb); (try clear hb2); (try clear hk); (try clear hi)) | ((with_reducible refine gate_callee (f := 18) rfl ?_); refine goesL_ (some 34) rfl rfl Try.func18 (by kernel_rfl) rfl #[.int .u64 a0, .int .u64 a1, .bool false] rfl LMq ?_; (with_reducible refine (r8_Rest.calls k a0 a1 false q9 qa _ A6.out).mono ?_); rintro e w20 ⟨rfl, hb⟩; refine ⟨_, rfl, ?_⟩; replace HB := aK (below_step (kH HB) hb); (try clear hb); (try clear hb2); (try clear hk); (try clear hi)))
       go_ret
       exact ⟨by first | rfl | (simp [errW_none, errW_some] <;> rfl) | (simp [*, errW_none, errW_some] <;> rfl), kH HB⟩
     rw [if_neg c9] at H
     have qi : (q6 == q9) = false := beq_eq_false_iff_ne.mpr c9; have qj : (q6 != q9) = true := bne_iff_ne.mpr c9; obtain rfl := Option.some.inj H
     go_enter Try.func7, Try.ntmps7
     go_wp2_with (first | ((with_reducible refine gate_callee (f := 17) rfl ?_); refine goesL_ (some 16) rfl rfl Try.func17 (by kernel_rfl) rfl #[.int .u64 a0, .int .u64 a1] rfl LMq ?_; (with_reducible refine (whole_Rem.calls k a0 a1 q2 q3 _ A3.out).mono ?_); rintro e w21 ⟨rfl, hb⟩; refine ⟨_, rfl, ?_⟩; replace HB := aK (below_step (kH HB) hb); (try clear hb); (try clear hb2); (try clear hk); (try clear hi)) | ((with_reducible refine gate_callee (f := 18) rfl ?_); refine goesL_ (some 22) rfl rfl Try.func18 (by kernel_rfl) rfl #[.int .u64 a0, .int .u64 a1, .bool true] rfl LMq ?_; (with_reducible refine (r8_Rest.calls k a0 a1 true q4 q5 _ A4.out).mono ?_); rintro e w22 ⟨rfl, hb⟩; refine ⟨_, rfl, ?_⟩; replace HB := aK (below_step (kH HB) hb); (try clear hb); (try clear hb2); (try clear hk); (try clear hi)) | ((with_reducible refine gate_callee (f := 19) rfl ?_); refine goesL_ (some 28) rfl rfl Try.func19 (by kernel_rfl) rfl #[.int .u64 a0, .int .u64 a1] rfl LMq ?_; (with_reducible refine (whole_Mod.calls k a0 a1 q6 q7 _ A5.out).mono ?_); rintro e w23 ⟨rfl, hb⟩; refine ⟨_, rfl, ?_⟩; replace HB := aK (below_step (kH HB) hb); (try clear hb); (try clear hb2); (try clear hk); (try clear hi)) | ((with_reducible refine gate_callee (f := 18) rfl ?_); refine goesL_ (some 34) rfl rfl Try.func18 (by kernel_rfl) rfl #[.int .u64 a0, .int .u64 a1, .bool false] rfl LMq ?_; (with_reducible refine (r8_Rest.calls k a0 a1 false q9 qa _ A6.out).mono ?_); rintro e w24 ⟨rfl, hb⟩; refine ⟨_, rfl, ?_⟩; replace HB := aK (below_step (kH HB) hb); (try clear hb); (try clear hb2); (try clear hk); (try clear hi)))
     go_ret
     exact ⟨by first | rfl | (simp [errW_none, errW_some] <;> rfl) | (simp [*, errW_none, errW_some] <;> rfl), kH HB⟩
   rw [if_neg c8] at H
   have qg : ((wrap64 (q3)) == q5) = false := beq_eq_false_iff_ne.mpr c8; have qh : ((wrap64 (q3)) != q5) = true := bne_iff_ne.mpr c8; obtain rfl := Option.some.inj H
   go_enter Try.func7, Try.ntmps7
   go_wp2_with (first | ((with_reducible refine gate_callee (f := 17) rfl ?_); refine goesL_ (some 16) rfl rfl Try.func17 (by kernel_rfl) rfl #[.int .u64 a0, .int .u64 a1] rfl LMq ?_; (with_reducible refine (whole_Rem.calls k a0 a1 q2 q3 _ A3.out).mono ?_); rintro e w25 ⟨rfl, hb⟩; refine ⟨_, rfl, ?_⟩; replace HB := aK (below_step (kH HB) hb); (try clear hb); (try clear hb2); (try clear hk); (try clear hi)) | ((with_reducible refine gate_callee (f := 18) rfl ?_); refine goesL_ (some 22) rfl rfl Try.func18 (by kernel_rfl) rfl #[.int .u64 a0, .int .u64 a1, .bool true] rfl LMq ?_; (with_reducible refine (r8_Rest.calls k a0 a1 true q4 q5 _ A4.out).mono ?_); rintro e w26 ⟨rfl, hb⟩; refine ⟨_, rfl, ?_⟩; replace HB := aK (below_step (kH HB) hb); (try clear hb); (try clear hb2); (try clear hk); (try clear hi)) | ((with_reducible refine gate_callee (f := 19) rfl ?_); refine goesL_ (some 28) rfl rfl Try.func19 (by kernel_rfl) rfl #[.int .u64 a0, .int .u64 a1] rfl LMq ?_; (with_reducible refine (whole_Mod.calls k a0 a1 q6 q7 _ A5.out).mono ?_); rintro e w27 ⟨rfl, hb⟩; refine ⟨_, rfl, ?_⟩; replace HB := aK (below_step (kH HB) hb); (try clear hb); (try clear hb2); (try clear hk); (try clear hi)) | ((with_reducible refine gate_callee (f := 18) rfl ?_); refine goesL_ (some 34) rfl rfl Try.func18 (by kernel_rfl) rfl #[.int .u64 a0, .int .u64 a1, .bool false] rfl LMq ?_; (with_reducible refine (r8_Rest.calls k a0 a1 false q9 qa _ A6.out).mono ?_); rintro e w28 ⟨rfl, hb⟩; refine ⟨_, rfl, ?_⟩; replace HB := aK (below_step (kH HB) hb); (try clear hb); (try clear hb2); (try clear hk); (try clear hi)))
   go_ret
   exact ⟨by first | rfl | (simp [errW_none, errW_some] <;> rfl) | (simp [*, errW_none, errW_some] <;> rfl), kH HB⟩
 rw [if_neg c7] at H
 have qe : (q2 == q4) = false := beq_eq_false_iff_ne.mpr c7; have qf : (q2 != q4) = true := bne_iff_ne.mpr c7; obtain rfl := Option.some.inj H
 go_enter Try.func7, Try.ntmps7
 go_wp2_with (first | ((with_reducible refine gate_callee (f := 17) rfl ?_); refine goesL_ (some 16) rfl rfl Try.func17 (by kernel_rfl) rfl #[.int .u64 a0, .int .u64 a1] rfl LMq ?_; (with_reducible refine (whole_Rem.calls k a0 a1 q2 q3 _ A3.out).mono ?_); rintro e w29 ⟨rfl, hb⟩; refine ⟨_, rfl, ?_⟩; replace HB := aK (below_step (kH HB) hb); (try clear hb); (try clear hb2); (try clear hk); (try clear hi)) | ((with_reducible refine gate_callee (f := 18) rfl ?_); refine goesL_ (some 22) rfl rfl Try.func18 (by kernel_rfl) rfl #[.int .u64 a0, .int .u64 a1, .bool true] rfl LMq ?_; (with_reducible refine (r8_Rest.calls k a0 a1 true q4 q5 _ A4.out).mono ?_); rintro e w30 ⟨rfl, hb⟩; refine ⟨_, rfl, ?_⟩; replace HB := aK (below_step (kH HB) hb); (try clear hb); (try clear hb2); (try clear hk); (try clear hi)) | ((with_reducible refine gate_callee (f := 19) rfl ?_); refine goesL_ (some 28) rfl rfl Try.func19 (by kernel_rfl) rfl #[.int .u64 a0, .int .u64 a1] rfl LMq ?_; (with_reducible refine (whole_Mod.calls k a0 a1 q6 q7 _ A5.out).mono ?_); rintro e w31 ⟨rfl, hb⟩; refine ⟨_, rfl, ?_⟩; replace HB := aK (below_step (kH HB) hb); (try clear hb); (try clear hb2); (try clear hk); (try clear hi)) | ((with_reducible refine gate_callee (f := 18) rfl ?_); refine goesL_ (some 34) rfl rfl Try.func18 (by kernel_rfl) rfl #[.int .u64 a0, .int .u64 a1, .bool false] rfl LMq ?_; (with_reducible refine (r8_Rest.calls k a0 a1 false q9 qa _ A6.out).mono ?_); rintro e w32 ⟨rfl, hb⟩; refine ⟨_, rfl, ?_⟩; replace HB := aK (below_step (kH HB) hb); (try clear hb); (try clear hb2); (try clear hk); (try clear hi)))
 go_ret
 exact ⟨by first | rfl | (simp [errW_none, errW_some] <;> rfl) | (simp [*, errW_none, errW_some] <;> rfl), kH HB⟩
def tillerlaw08_WholeRests.Pure : Prop := ∀ (a0 : Int) (a1 : Int), (Lit.int .u64 a0).wf = true → (Lit.int .u64 a1).wf = true → ∃ k, tillerlaw08_WholeRests.f k a0 a1 = some true
theorem tillerlaw08_WholeRests.walk (P : tillerlaw08_WholeRests.Pure) (a0 : Int) (a1 : Int) (w : World) (w0 : (Lit.int .u64 a0).wf = true) (w1 : (Lit.int .u64 a1).wf = true) :
 Calls Try.prog 7 #[.int .u64 a0, .int .u64 a1] w fun e w' => e = .returned (.bool true) ∧ Below w.heap.size w w' := by
 obtain ⟨k, h⟩ := P a0 a1 w0 w1; refine (tillerlaw08_WholeRests.calls k a0 a1 true w h).mono ?_; rintro e w' ⟨rfl, hd⟩; exact ⟨rfl, hd⟩
end Go.Proofs.Ytfnkmedajchbgaa.X
end
section
namespace Go.Proofs.Ytfnkmedajchbgaa
open Go.RowKit X Go.Proofs.YtfnkmedajchbgaaW.PrintWords
theorem nok_zeros (m : Nat) : nok (List.replicate m 0) := fun d hd => by have := List.eq_of_mem_replicate hd; omega
theorem nv_zeros (m : Nat) : nv (List.replicate m 0) = 0 := by
  induction m with
  | zero => rfl
  | succ m ih => rw [List.replicate_succ]; show (0 : Int).toNat + 65536 * nv (List.replicate m 0) = 0; rw [ih]; rfl
theorem two_16 {r : Nat} (h : r < 16) : 2 ^ r ≤ 32768 ∧ 1 ≤ 2 ^ r := ⟨by have := Nat.pow_le_pow_right (n := 2) (by omega) (show r ≤ 15 by omega); omega, Nat.two_pow_pos r⟩
theorem tmod_16 (n : Nat) : Int.tmod (n : Int) 16 = ((n % 16 : Nat) : Int) := by rw [Int.tmod_eq_emod_of_nonneg (by omega)]; omega
theorem tdiv_16 {n : Nat} (h : n < 4000000000000000000) : wrap64 (Int.tdiv (n : Int) 16) = ((n / 16 : Nat) : Int) := by rw [Int.tdiv_eq_ediv_of_nonneg (by omega)]; unfold wrap64; omega
section
variable {x y B : Nat}
theorem shl_loop1 (hB : B ≤ 1000000) (hx : x < 65536 ^ B) (q p : Nat) (hq : q ≤ 1000000) (hp : p ≤ 32768) : ∀ (d i c : Nat) (out : List Int), i + d = B → nok out → out.length = q + i → c < 65536 →
    nv out + 65536 ^ (q + i) * (c + x / 65536 ^ i * p) = 65536 ^ q * (x * p) → Ev (fun k => r2_Shl.l1 k (ln x) out (p : Int) (c : Int) (i : Int)) (ln (65536 ^ q * (x * p))) := by
  have fin : ∀ (i c : Nat) (out : List Int), i ≤ B → nok out → out.length = q + i → c < 65536 → nv out + 65536 ^ (q + i) * (c + x / 65536 ^ i * p) = 65536 ^ q * (x * p) → ¬ 65536 ^ i ≤ x → Ev (fun k => r2_Shl.l1 k (ln x) out (p : Int) (c : Int) (i : Int)) (ln (65536 ^ q * (x * p))) := by
    intro i c out hi hok hlen hc hv h1
    rw [div_zero_of h1, Nat.zero_mul, Nat.add_zero] at hv
    refine Ev.step (f := fun k => (r2_trim.f k (out ++ [(c : Int)])).bind fun t => some t) (fun k => ?_) (trim_to (nok_append hok (nok_one (by omega) (by omega))) (by simp; omega) (by rw [nv_append, nv_one, hlen, Int.toNat_natCast]; exact hv))
    simp only [r2_Shl.l1]
    rw [if_neg (len_neg h1), if_pos (by omega)]
  intro d
  induction d with
  | zero =>
    intro i c out hi hok hlen hc hv
    exact fin i c out (by omega) hok hlen hc hv (by rw [show i = B by omega]; omega)
  | succ d ih =>
    intro i c out hi hok hlen hc hv
    by_cases h1 : 65536 ^ i ≤ x
    · have hx' := div_step x i
      generalize hX : x / 65536 ^ (i + 1) = X at *
      generalize hdx : x / 65536 ^ i % 65536 = dx at *
      have bx : dx < 65536 := by omega
      have bm : dx * p ≤ 65535 * 32768 := Nat.mul_le_mul (by omega) hp
      generalize hm : dx * p = m at *
      refine Ev.step (f := fun k => r2_Shl.l1 k (ln x) (out ++ [(((c + m) % 65536 : Nat) : Int)]) (p : Int) (((c + m) / 65536 : Nat) : Int) ((i + 1 : Nat) : Int)) (fun k => ?_) (ih _ _ _ (by omega) (nok_append hok (nok_one (by omega) (by omega))) (by simp [hlen]; omega) (by omega) ?_)
      · simp only [r2_Shl.l1]
        rw [if_pos (len_pos h1), if_pos (by omega), if_pos (by omega), w1 (by omega), rd_ln, hdx]
        have e : ((dx : Nat) : Int) * (p : Int) = (m : Int) := by rw [← hm]; push_cast; rfl
        have eD : ((c : Int) + (m : Int)) % 65536 = (((c + m) % 65536 : Nat) : Int) := by omega
        have eC : (((c : Int) + (m : Int)) % 4294967296) / 65536 = (((c + m) / 65536 : Nat) : Int) := by omega
        rw [e, eD, eC]
      · rw [nv_append, hlen, nv_one, Int.toNat_natCast, hX, ← hv, hx', ← Nat.add_assoc q i 1, Nat.add_assoc, pw_step]
        congr 2
        rw [Nat.add_mul, hm, Nat.mul_assoc]
        generalize X * p = Z
        omega
    · exact fin i c out (by omega) hok hlen hc hv h1
theorem shl_loop0 (hB : B ≤ 1000000) (hx : x < 65536 ^ B) (n : Nat) (hn : n ≤ 10000000) : ∀ (d j : Nat), j + d = n % 16 → Ev (fun k => r2_Shl.l0 k (ln x) (n : Int) (List.replicate (n / 16) 0) ((2 ^ j : Nat) : Int) (j : Int)) (ln (x * 2 ^ n)) := by
  intro d
  induction d with
  | zero =>
    intro j hj
    have h2 := two_16 (show n % 16 < 16 by omega)
    have := shl_loop1 hB hx (n / 16) (2 ^ (n % 16)) (by omega) h2.1 B 0 0 (List.replicate (n / 16) 0) (by omega) (nok_zeros _) (by simp) (by omega) (by rw [nv_zeros, Nat.pow_zero, Nat.div_one]; simp)
    rw [show 65536 ^ (n / 16) * (x * 2 ^ (n % 16)) = x * 2 ^ n by rw [← pow_16 n, Nat.mul_left_comm]] at this
    refine Ev.step (f := fun k => r2_Shl.l1 k (ln x) (List.replicate (n / 16) 0) ((2 ^ (n % 16) : Nat) : Int) ((0 : Nat) : Int) ((0 : Nat) : Int)) (fun k => ?_) this
    simp only [r2_Shl.l0]
    rw [tmod_16, if_neg (by omega), show j = n % 16 by omega]
    rfl
  | succ d ih =>
    intro j hj
    have h2 := two_16 (show j < 16 by omega)
    refine Ev.step (f := fun k => r2_Shl.l0 k (ln x) (n : Int) (List.replicate (n / 16) 0) ((2 ^ (j + 1) : Nat) : Int) ((j + 1 : Nat) : Int)) (fun k => ?_) (ih (j + 1) (by omega))
    simp only [r2_Shl.l0]
    rw [tmod_16, if_pos (by omega), w1 (by omega), Nat.pow_succ]
    congr 1
    omega
theorem shl_ev (hB : B ≤ 1000000) (hx : x < 65536 ^ B) (n : Nat) (hn : n ≤ 10000000) : Ev (fun k => r2_Shl.f k (ln x) (n : Int)) (ln (x * 2 ^ n)) := by
  by_cases h0 : x = 0
  · subst h0
    refine Ev.congr (f := fun _ => some _) (fun k => ?_) (Ev.now _)
    unfold r2_Shl.f
    rw [ln_zero, Nat.zero_mul, ln_zero]
    rfl
  · have h1 : 0 < (ln x).length := ln_lt_iff.2 (by rw [Nat.pow_zero]; omega)
    refine Ev.congr (f := fun k => r2_Shl.l0 k (ln x) (n : Int) (List.replicate (n / 16) 0) ((2 ^ 0 : Nat) : Int) ((0 : Nat) : Int)) (fun k => ?_) (shl_loop0 hB hx n hn (n % 16) 0 (by omega))
    unfold r2_Shl.f
    rw [if_neg (by omega), tdiv_16 (by omega), if_pos (by omega), Int.toNat_natCast, if_pos (by omega)]
    rfl
theorem shr_part {z r : Nat} (h : r < 16) : z / 2 ^ r % 65536 = z % 65536 / 2 ^ r + z / 65536 % 65536 % 2 ^ r * (65536 / 2 ^ r) := by
  have h5 : r = 0 ∨ r = 1 ∨ r = 2 ∨ r = 3 ∨ r = 4 ∨ r = 5 ∨ r = 6 ∨ r = 7 ∨ r = 8 ∨ r = 9 ∨ r = 10 ∨ r = 11 ∨ r = 12 ∨ r = 13 ∨ r = 14 ∨ r = 15 := by omega
  rcases h5 with rfl | rfl | rfl | rfl | rfl | rfl | rfl | rfl | rfl | rfl | rfl | rfl | rfl | rfl | rfl | rfl <;> simp <;> omega
theorem shr_loop2 (hB : B ≤ 1000000) (hx : x < 65536 ^ B) (n : Nat) (lost : Bool) : ∀ (d i : Nat) (out : List Int), i + d = B → n / 16 ≤ i → nok out → out.length = i - n / 16 →
    nv out + 65536 ^ (i - n / 16) * (x / 65536 ^ i / 2 ^ (n % 16)) = x / 2 ^ n → Ev (fun k => r2_Shr.l2 k (ln x) lost ((2 ^ (n % 16) : Nat) : Int) out (i : Int)) (ln (x / 2 ^ n), lost) := by
  have h2 := two_16 (show n % 16 < 16 by omega)
  have fin : ∀ (i : Nat) (out : List Int), i ≤ B → nok out → out.length = i - n / 16 → nv out + 65536 ^ (i - n / 16) * (x / 65536 ^ i / 2 ^ (n % 16)) = x / 2 ^ n → ¬ 65536 ^ i ≤ x → Ev (fun k => r2_Shr.l2 k (ln x) lost ((2 ^ (n % 16) : Nat) : Int) out (i : Int)) (ln (x / 2 ^ n), lost) := by
    intro i out hi hok hlen hv h1
    rw [div_zero_of h1, Nat.zero_div, Nat.mul_zero, Nat.add_zero] at hv
    have hT := trim_ev hok (by omega)
    rw [hv] at hT
    refine Ev.step (f := fun k => (r2_trim.f k out).bind fun t => some (t, lost)) (fun k => ?_) (Ev.bind hT (Ev.now _))
    simp only [r2_Shr.l2]
    rw [if_neg (len_neg h1)]
  intro d
  induction d with
  | zero =>
    intro i out hi hge hok hlen hv
    exact fin i out (by omega) hok hlen hv (by rw [show i = B by omega]; omega)
  | succ d ih =>
    intro i out hi hge hok hlen hv
    by_cases h1 : 65536 ^ i ≤ x
    · have hp := shr_part (z := x / 65536 ^ i) (r := n % 16) (by omega)
      have e1 : x / 65536 ^ i / 65536 = x / 65536 ^ (i + 1) := by rw [Nat.div_div_eq_div_mul, ← Nat.pow_succ]
      rw [e1] at hp
      have b1 : x / 65536 ^ i / 2 ^ (n % 16) % 65536 < 65536 := Nat.mod_lt _ (by decide)
      refine Ev.step (f := fun k => r2_Shr.l2 k (ln x) lost ((2 ^ (n % 16) : Nat) : Int) (out ++ [((x / 65536 ^ i / 2 ^ (n % 16) % 65536 : Nat) : Int)]) ((i + 1 : Nat) : Int)) (fun k => ?_) (ih _ _ (by omega) (by omega) (nok_append hok (nok_one (by omega) (by omega))) (by simp [hlen]; omega) ?_)
      · simp only [r2_Shr.l2]
        rw [if_pos (len_pos h1), if_pos (by omega), if_neg (by omega), w1 (by omega), at_ln]
        simp only [Option.bind_some]
        rw [if_pos (by omega), rd_ln]
        congr 2
        rw [hp]
        rw [hp] at b1
        have b4 : x / 65536 ^ (i + 1) % 65536 % 2 ^ (n % 16) * (65536 / 2 ^ (n % 16)) < 65537 := Nat.lt_succ_of_lt (Nat.lt_of_le_of_lt (Nat.le_add_left _ (x / 65536 ^ i % 65536 / 2 ^ (n % 16))) b1)
        have t1 : Int.tdiv ((x / 65536 ^ i % 65536 : Nat) : Int) ((2 ^ (n % 16) : Nat) : Int) = ((x / 65536 ^ i % 65536 / 2 ^ (n % 16) : Nat) : Int) := by rw [Int.tdiv_eq_ediv_of_nonneg (by omega)]; rfl
        have t2 : Int.tmod ((x / 65536 ^ (i + 1) % 65536 : Nat) : Int) ((2 ^ (n % 16) : Nat) : Int) = ((x / 65536 ^ (i + 1) % 65536 % 2 ^ (n % 16) : Nat) : Int) := by rw [Int.tmod_eq_emod_of_nonneg (by omega)]; rfl
        have t3 : Int.tdiv 65536 ((2 ^ (n % 16) : Nat) : Int) = ((65536 / 2 ^ (n % 16) : Nat) : Int) := by rw [Int.tdiv_eq_ediv_of_nonneg (by omega)]; rfl
        have wr : ∀ v : Nat, v < 65537 → IntKind.u32.wrap (v : Int) = (v : Int) := fun v hv => by rw [IntKind.wrap_u32]; omega
        have b2 : x / 65536 ^ i % 65536 / 2 ^ (n % 16) ≤ 65535 := Nat.le_trans (Nat.div_le_self _ _) (by omega)
        have b3 : 65536 / 2 ^ (n % 16) ≤ 65536 := Nat.div_le_self _ _
        rw [t1, t2, t3, wr _ (by omega), wr _ (by omega), ← Int.natCast_mul, wr _ b4, ← Int.natCast_add, wr _ (by clear t1 t2 t3; omega)]
      · rw [nv_append, hlen, nv_one, Int.toNat_natCast, show i + 1 - n / 16 = (i - n / 16) + 1 by omega, Nat.add_assoc, pw_step, ← hv]
        congr 2
        have e2 : x / 65536 ^ (i + 1) / 2 ^ (n % 16) = x / 65536 ^ i / 2 ^ (n % 16) / 65536 := by rw [← e1, Nat.div_div_eq_div_mul (x / 65536 ^ i) 65536, Nat.mul_comm 65536, ← Nat.div_div_eq_div_mul]
        rw [e2]
        omega
    · exact fin i out (by omega) hok hlen hv h1
theorem shr_loop1 (hB : B ≤ 1000000) (hx : x < 65536 ^ B) (n : Nat) (hn : n ≤ 10000000) (hin : 65536 ^ (n / 16) ≤ x) : ∀ (d j : Nat), j + d = n % 16 →
    Ev (fun k => r2_Shr.l1 k (ln x) (n : Int) (decide (x % 65536 ^ (n / 16) ≠ 0)) ((n / 16 : Nat) : Int) ((2 ^ j : Nat) : Int) (j : Int)) (ln (x / 2 ^ n), decide (x % 2 ^ n ≠ 0)) := by
  have hbd : n / 16 ≤ B := by
    have h1 := ln_lt_iff.2 hin
    have h2 := ln_length hx
    omega
  intro d
  induction d with
  | zero =>
    intro j hj
    have h2 := two_16 (show n % 16 < 16 by omega)
    have hl := shr_loop2 hB hx n (decide (x % 2 ^ n ≠ 0)) (B - n / 16) (n / 16) [] (by omega) (Nat.le_refl _) nok_nil (by simp) (by rw [Nat.sub_self, Nat.pow_zero, Nat.one_mul, Nat.div_div_eq_div_mul, pow_16]; simp [nv])
    have hd := rd_ln x (n / 16)
    have hm : x % 2 ^ n = x % 65536 ^ (n / 16) + 65536 ^ (n / 16) * (x / 65536 ^ (n / 16) % 2 ^ (n % 16)) := by rw [← pow_16 n, Nat.mod_mul]
    have hmm : x / 65536 ^ (n / 16) % 65536 % 2 ^ (n % 16) = x / 65536 ^ (n / 16) % 2 ^ (n % 16) := Nat.mod_mod_of_dvd _ (by rw [show (65536 : Nat) = 2 ^ 16 from rfl]; exact Nat.pow_dvd_pow 2 (by omega))
    have hpos := p16 (n / 16)
    refine Ev.step (f := fun k => r2_Shr.j3 k (ln x) (decide (x % 2 ^ n ≠ 0)) ((n / 16 : Nat) : Int) ((2 ^ (n % 16) : Nat) : Int)) (fun k => ?_) (Ev.step (fun k => by simp only [r2_Shr.j3]) hl)
    simp only [r2_Shr.l1]
    rw [tmod_16, if_neg (by omega), show j = n % 16 by omega]
    by_cases z : x % 65536 ^ (n / 16) = 0
    · rw [decide_eq_false (by omega), if_neg (by decide), if_pos (by omega), if_pos (len_pos hin), if_neg (by omega), hd]
      congr 1
      rw [Int.tmod_eq_emod_of_nonneg (by omega), Bool.eq_iff_iff, decide_eq_true_iff, bne_iff_ne, hm, z, Nat.zero_add, ← hmm]
      rw [show (((x / 65536 ^ (n / 16) % 65536 : Nat) : Int) % ((2 ^ (n % 16) : Nat) : Int)) = ((x / 65536 ^ (n / 16) % 65536 % 2 ^ (n % 16) : Nat) : Int) from rfl]
      generalize x / 65536 ^ (n / 16) % 65536 % 2 ^ (n % 16) = t at *
      constructor
      · intro h g
        rcases Nat.mul_eq_zero.1 g with g | g
        · omega
        · omega
      · intro h g
        have : t = 0 := by omega
        subst this
        exact h (Nat.mul_zero _)
    · rw [decide_eq_true z, if_pos rfl, decide_eq_true (by omega)]
  | succ d ih =>
    intro j hj
    have h2 := two_16 (show j < 16 by omega)
    refine Ev.step (f := fun k => r2_Shr.l1 k (ln x) (n : Int) (decide (x % 65536 ^ (n / 16) ≠ 0)) ((n / 16 : Nat) : Int) ((2 ^ (j + 1) : Nat) : Int) ((j + 1 : Nat) : Int)) (fun k => ?_) (ih (j + 1) (by omega))
    simp only [r2_Shr.l1]
    rw [tmod_16, if_pos (by omega), w1 (by omega), Nat.pow_succ]
    congr 1
    omega
theorem shr_loop0 (hB : B ≤ 1000000) (hx : x < 65536 ^ B) (n : Nat) (hn : n ≤ 10000000) : ∀ (d i : Nat), i + d = n / 16 →
    Ev (fun k => r2_Shr.l0 k (ln x) (n : Int) (decide (x % 65536 ^ i ≠ 0)) ((n / 16 : Nat) : Int) (i : Int)) (ln (x / 2 ^ n), decide (x % 2 ^ n ≠ 0)) := by
  have out : ∀ i, i ≤ n / 16 → ¬ 65536 ^ i ≤ x → Ev (fun k => r2_Shr.j1 k (ln x) (n : Int) (decide (x % 65536 ^ i ≠ 0)) ((n / 16 : Nat) : Int)) (ln (x / 2 ^ n), decide (x % 2 ^ n ≠ 0)) := by
    intro i hi h1
    have h2 : 65536 ^ i ≤ 65536 ^ (n / 16) := Nat.pow_le_pow_right (by omega) hi
    have h3 : 65536 ^ (n / 16) ≤ 2 ^ n := by rw [← pow_16 n]; exact Nat.le_mul_of_pos_right _ (Nat.two_pow_pos _)
    refine Ev.step (f := fun _ => some _) (fun k => ?_) (Ev.now _)
    simp only [r2_Shr.j1]
    have := len_neg (x := x) (i := n / 16) (by omega)
    rw [if_pos (by omega), Nat.mod_eq_of_lt (by omega), Nat.mod_eq_of_lt (by omega), Nat.div_eq_of_lt (by omega), ln_zero]
  intro d
  induction d with
  | zero =>
    intro i hi
    obtain rfl : i = n / 16 := by omega
    by_cases h1 : 65536 ^ (n / 16) ≤ x
    · refine Ev.step (f := fun k => r2_Shr.j1 k (ln x) (n : Int) (decide (x % 65536 ^ (n / 16) ≠ 0)) ((n / 16 : Nat) : Int)) (fun k => ?_) (Ev.step (f := fun k => r2_Shr.l1 k (ln x) (n : Int) (decide (x % 65536 ^ (n / 16) ≠ 0)) ((n / 16 : Nat) : Int) ((2 ^ 0 : Nat) : Int) ((0 : Nat) : Int)) (fun k => ?_) (shr_loop1 hB hx n hn h1 (n % 16) 0 (by omega)))
      · simp only [r2_Shr.l0]
        rw [if_neg (by omega)]
      · simp only [r2_Shr.j1]
        have := len_pos h1
        rw [if_neg (by omega)]
        rfl
    · refine Ev.step (fun k => ?_) (out _ (Nat.le_refl _) h1)
      simp only [r2_Shr.l0]
      rw [if_neg (by omega)]
  | succ d ih =>
    intro i hi
    by_cases h1 : 65536 ^ i ≤ x
    · have hm : x % 65536 ^ (i + 1) = x % 65536 ^ i + 65536 ^ i * (x / 65536 ^ i % 65536) := by rw [Nat.pow_succ, Nat.mod_mul]
      have hpos := p16 i
      refine Ev.step (f := fun k => r2_Shr.l0 k (ln x) (n : Int) (decide (x % 65536 ^ (i + 1) ≠ 0)) ((n / 16 : Nat) : Int) ((i + 1 : Nat) : Int)) (fun k => ?_) (ih (i + 1) (by omega))
      simp only [r2_Shr.l0]
      rw [if_pos (by omega), if_pos (len_pos h1), w1 (by omega), rd_ln]
      by_cases z : x % 65536 ^ i = 0
      · rw [decide_eq_false (by omega), if_neg (by decide), if_pos (by omega)]
        congr 1
        rw [Bool.eq_iff_iff, decide_eq_true_iff, bne_iff_ne, hm, z, Nat.zero_add]
        generalize x / 65536 ^ i % 65536 = t at *
        constructor
        · intro h g
          rcases Nat.mul_eq_zero.1 g with g | g
          · omega
          · omega
        · intro h g
          have : t = 0 := by omega
          subst this
          exact h (Nat.mul_zero _)
      · rw [decide_eq_true z, if_pos rfl, decide_eq_true (by omega)]
    · refine Ev.step (fun k => ?_) (out i (by omega) h1)
      simp only [r2_Shr.l0]
      rw [if_pos (by omega), if_neg (len_neg h1)]
theorem shr_ev (hB : B ≤ 1000000) (hx : x < 65536 ^ B) (n : Nat) (h0 : n ≠ 0) (hn : n ≤ 10000000) : Ev (fun k => r2_Shr.f k (ln x) (n : Int)) (ln (x / 2 ^ n), decide (x % 2 ^ n ≠ 0)) := by
  refine Ev.congr (f := fun k => r2_Shr.l0 k (ln x) (n : Int) (decide (x % 65536 ^ 0 ≠ 0)) ((n / 16 : Nat) : Int) ((0 : Nat) : Int)) (fun k => ?_) (shr_loop0 hB hx n hn (n / 16) 0 (by omega))
  unfold r2_Shr.f
  rw [if_neg (by omega), tdiv_16 (by omega), Nat.pow_zero, Nat.mod_one]
  rfl
end
end Go.Proofs.Ytfnkmedajchbgaa
end
section
namespace Go.Proofs.Ytfnkmedajchbgaa
open Go.RowKit X Go.Proofs.YtfnkmedajchbgaaW.PrintWords
theorem one_B {B : Nat} (h : 1 ≤ B) : 1 < 65536 ^ B := by
  have := Nat.pow_le_pow_right (n := 65536) (by omega) h
  rw [Nat.pow_one] at this
  omega
section
variable {B : Nat}
theorem of_one : Ev (fun k => r2_Of.f k 1) (ln 1) := of_ev (n := 1) (by unfold U; omega)
theorem to_j3 (hB : B ≤ 1000000) {q : Nat} (hq : q < 65536 ^ B) (h1 : 1 ≤ B) (up : Bool) : Ev (fun k => r4_To.j3 k (ln q) up) (ln (q + if up = true then 1 else 0), true) := by
  cases up
  · refine Ev.step (f := fun _ => some _) (fun k => ?_) (Ev.now _)
    simp only [r4_To.j3]
    rw [if_neg (by decide), if_neg (by decide), Nat.add_zero]
  · refine Ev.step (f := fun k => (r2_Of.f k 1).bind fun t281 => ((r2_Add.f k (ln q) t281).bind fun t284 => (some (t284, true)))) (fun k => ?_) (Ev.bind of_one (Ev.bind (add_ev hB hq (one_B h1)) (Ev.now _)))
    simp only [r4_To.j3]
    first | rw [if_pos rfl] | rw [if_pos trivial]
theorem to_j2 (hB : B ≤ 1000000) {q : Nat} (hq : q < 65536 ^ B) (h1 : 1 ≤ B) (m : Int) (H J mi : Bool) (e : Int) (X : List Int) : Ev (fun k => r4_To.j2 k m (ln q) H J mi e X) (ln (q + if (if m = 1 then H else if m = 2 then false else if m = 3 then !mi else if m = 4 then mi else J) = true then 1 else 0), true) := by
  have h3 := to_j3 hB hq h1
  refine Ev.step (f := fun k => r4_To.j3 k (ln q) (if m = 1 then H else if m = 2 then false else if m = 3 then !mi else if m = 4 then mi else J)) (fun k => ?_) (h3 _)
  simp only [r4_To.j2]
  by_cases c1 : m = 1
  · rw [if_pos c1, if_pos c1]
  · rw [if_neg c1, if_neg c1]
    by_cases c2 : m = 2
    · rw [if_pos c2, if_pos c2]
    · rw [if_neg c2, if_neg c2]
      by_cases c3 : m = 3
      · rw [if_pos c3, if_pos c3]
      · rw [if_neg c3, if_neg c3]
        by_cases c4 : m = 4
        · rw [if_pos c4, if_pos c4]
        · rw [if_neg c4, if_neg c4]
theorem to_j1 (hB : B ≤ 1000000) {q : Nat} (hq : q < 65536 ^ B) (h1 : 1 ≤ B) (m : Int) (H just mi : Bool) (e : Int) (X : List Int) : Ev (fun k => r4_To.j1 k m (ln q) H just mi e X) (ln (q + if (if m = 1 then H else if m = 2 then false else if m = 3 then !mi else if m = 4 then mi else H && (!just || decide (q % 2 = 1))) = true then 1 else 0), true) := by
  refine Ev.step (f := fun k => r4_To.j2 k m (ln q) H (H && (!just || decide (q % 2 = 1))) mi e X) (fun k => ?_) (to_j2 hB hq h1 m H _ mi e X)
  simp only [r4_To.j1]
  cases H
  · rw [if_neg (by decide)]; rfl
  · first | rw [if_pos rfl] | rw [if_pos trivial]
    cases just
    · rw [if_neg (by decide)]; rfl
    · first | rw [if_pos rfl] | rw [if_pos trivial]
      by_cases h0 : q = 0
      · subst h0
        rw [ln_zero]
        rfl
      · have hl : 0 < (ln q).length := ln_lt_iff.2 (by rw [Nat.pow_zero]; omega)
        have hr := rd_ln q 0
        rw [Nat.pow_zero, Nat.div_one] at hr
        rw [if_pos (by omega), if_pos (by omega), show (0 : Int) = ((0 : Nat) : Int) from rfl, hr, Int.tmod_eq_emod_of_nonneg (by omega)]
        congr 1
        rw [Bool.eq_iff_iff]
        simp only [beq_iff_eq, Bool.true_and, Bool.not_true, Bool.false_or, decide_eq_true_eq]
        omega
theorem to_j0 (hB : B ≤ 1000000) {q r : Nat} (hq : q < 65536 ^ B) (hr : r < 65536 ^ B) (b : Nat) (hb : 2 ^ b < 65536 ^ B) (hbl : b ≤ 10000000) (m : Int) (H mi : Bool) (e : Int) (X : List Int) (h1 : 1 ≤ B) :
    Ev (fun k => r4_To.j0 k m ((b + 1 : Nat) : Int) (ln q) H (ln r) mi e X) (ln (q + if (if m = 1 then H else if m = 2 then false else if m = 3 then !mi else if m = 4 then mi else H && (!(H && decide (r = 2 ^ b)) || decide (q % 2 = 1))) = true then 1 else 0), true) := by
  cases H
  · have := to_j1 hB hq h1 m false false mi e X
    refine Ev.step (f := fun k => r4_To.j1 k m (ln q) false false mi e X) (fun k => ?_) this
    simp only [r4_To.j0]
    rw [if_neg (by decide)]
  · have hS := shl_ev hB (one_B h1) b hbl
    rw [Nat.one_mul] at hS
    have hC := cmp_ev hB hr hb
    have ej : (cmpI r (2 ^ b) == 0) = decide (r = 2 ^ b) := by
      rw [Bool.eq_iff_iff]
      simp only [beq_iff_eq, decide_eq_true_eq]
      unfold cmpI
      split
      · omega
      · split <;> omega
    have := to_j1 hB hq h1 m true (decide (r = 2 ^ b)) mi e X
    rw [← ej] at this
    refine Ev.step (f := fun k => (r2_Of.f k 1).bind fun t273 => ((r2_Shl.f k t273 (b : Int)).bind fun t276 => ((r2_Cmp.f k (ln r) t276).bind fun t279 => (r4_To.j1 k m (ln q) true (t279 == 0) mi e X)))) (fun k => ?_) (Ev.bind of_one (Ev.bind hS (Ev.bind hC ?_)))
    · simp only [r4_To.j0]
      first | rw [if_pos rfl, show wrap64 (((b + 1 : Nat) : Int) - 1) = (b : Int) by unfold wrap64; omega] | rw [if_pos trivial, show wrap64 (((b + 1 : Nat) : Int) - 1) = (b : Int) by unfold wrap64; omega]
    · rw [← ej]
      simp only [Bool.true_and] at this ⊢
      exact this
theorem to_ev (hB : B ≤ 1000000) (h1 : 1 ≤ B) {s : Nat} {e n m : Int} (mi : Bool) (hs : s < 65536 ^ B) (he : -2000000 ≤ e) (he2 : e ≤ 2000000) (hn : -2000000 ≤ n) (hn2 : n ≤ 2000000) (hm : m = 0 ∨ m = 1 ∨ m = 2 ∨ m = 3 ∨ m = 4) (hbig : 2 ^ (n - e).toNat < 65536 ^ B) :
    Ev (fun k => r4_To.f k mi e (ln s) n m) (ln (tQ mi e s n m), rOdd s e n) := by
  by_cases c : n ≤ e
  · have hS := shl_ev hB hs (e - n).toNat (by omega)
    have e1 : tQ mi e s n m = s * 2 ^ (e - n).toNat := by unfold tQ; rw [if_pos c]
    have e2 : rOdd s e n = false := by unfold rOdd cutH cutR; rw [if_pos c, if_pos c]; rfl
    rw [e1, e2]
    refine Ev.congr (f := fun k => (r2_Shl.f k (ln s) (((e - n).toNat : Nat) : Int)).bind fun t258 => some (t258, false)) (fun k => ?_) (Ev.bind hS (Ev.now _))
    unfold r4_To.f
    rw [if_pos (by omega), show wrap64 (e - n) = (((e - n).toNat : Nat) : Int) by unfold wrap64; omega]
  · obtain ⟨b, hb⟩ : ∃ b, (n - e).toNat = b + 1 := ⟨(n - e).toNat - 1, by omega⟩
    rw [hb] at hbig
    have hbb : 2 ^ b < 65536 ^ B := by rw [Nat.pow_succ] at hbig; omega
    have ew : wrap64 (n - e) = ((b + 1 : Nat) : Int) := by unfold wrap64; omega
    have ew2 : wrap64 (((b + 1 : Nat) : Int) - 1) = (b : Int) := by unfold wrap64; omega
    have hR := shr_ev hB hs (b + 1) (by omega) (by omega)
    have hq : s / 2 ^ (b + 1) < 65536 ^ B := Nat.lt_of_le_of_lt (Nat.div_le_self _ _) hs
    have hodd := odd_of s (show e < n by omega)
    rw [hb] at hodd
    have hH : cutH s e n = decide (s / 2 ^ b % 2 = 1) := by unfold cutH; rw [if_neg c, show (n - e - 1).toNat = b by omega]
    have hRr : cutR s e n = decide (s % 2 ^ b ≠ 0) := by unfold cutR; rw [if_neg c, show (n - e - 1).toNat = b by omega]
    rw [hodd]
    by_cases z : s % 2 ^ (b + 1) = 0
    · have e1 : tQ mi e s n m = s / 2 ^ (b + 1) := by
        have ho : rOdd s e n = false := by rw [odd_of s (by omega), hb]; exact decide_eq_false (by omega)
        unfold rOdd at ho
        unfold tQ tU
        rw [if_neg c, hb, (Bool.or_eq_false_iff.1 ho).1, (Bool.or_eq_false_iff.1 ho).2, upB_no]
        rfl
      rw [e1, decide_eq_false (by omega)]
      rw [decide_eq_false (by omega)] at hR
      refine Ev.congr (f := fun k => (r2_Shr.f k (ln s) ((b + 1 : Nat) : Int)).bind fun bt261 => (if bt261.2 = true then ((r2_Bit.f k (ln s) (b : Int)).bind fun t265 => ((r2_Len.f k (ln s)).bind fun t266 => (if ((b + 1 : Nat) : Int) ≤ t266 then ((r2_Shl.f k bt261.1 ((b + 1 : Nat) : Int)).bind fun t267 => ((r2_Sub.f k (ln s) t267).bind fun t270 => (r4_To.j0 k m ((b + 1 : Nat) : Int) bt261.1 (t265 == 1) t270 mi e (ln s)))) else (r4_To.j0 k m ((b + 1 : Nat) : Int) bt261.1 (t265 == 1) (ln s) mi e (ln s))))) else (some (bt261.1, false)))) (fun k => ?_) (Ev.bind hR ?_)
      · unfold r4_To.f
        rw [if_neg (by omega), ew, ew2]
      · exact Ev.congr (fun k => by rw [if_neg Bool.false_ne_true]) (Ev.now _)
    · rw [decide_eq_true z]
      rw [decide_eq_true z] at hR
      have hBit := bit_ev s b (by omega)
      have hLen := len_ev hB hs
      have eb : (((s / 2 ^ b % 2 : Nat) : Int) == 1) = cutH s e n := by rw [hH, Bool.eq_iff_iff]; simp only [beq_iff_eq, decide_eq_true_eq]; omega
      have hrest : s % 2 ^ (b + 1) < 65536 ^ B := Nat.lt_of_le_of_lt (Nat.mod_le _ _) hs
      have hj0 := to_j0 hB hq hrest b hbb (by omega) m (cutH s e n) mi e (ln s) h1
      have hlost : (cutH s e n || cutR s e n) = true := by have := odd_of s (show e < n by omega); unfold rOdd at this; rw [this, hb]; exact decide_eq_true z
      have ejust : (cutH s e n && decide (s % 2 ^ (b + 1) = 2 ^ b)) = (cutH s e n && !cutR s e n) := by
        rw [hH, hRr]
        have := mod_two_pow s b
        have hp := Nat.two_pow_pos b
        by_cases t : s / 2 ^ b % 2 = 1
        · rw [decide_eq_true t, Bool.true_and, Bool.true_and, this, t, Bool.eq_iff_iff]
          simp only [decide_eq_true_eq, Bool.not_eq_true', decide_eq_false_iff_not]
          omega
        · rw [decide_eq_false t]; rfl
      have eT : tQ mi e s n m = s / 2 ^ (b + 1) + if tU mi e s n m = true then 1 else 0 := by unfold tQ; rw [if_neg c, hb]
      have eU : tU mi e s n m = upB m mi (decide (s / 2 ^ (b + 1) % 2 = 1)) (cutH s e n) (cutR s e n) := by unfold tU; rw [hb]
      rw [ejust, upB_lost m mi (decide (s / 2 ^ (b + 1) % 2 = 1)) _ _ hlost hm, ← eU, ← eT] at hj0
      refine Ev.congr (f := fun k => (r2_Shr.f k (ln s) ((b + 1 : Nat) : Int)).bind fun bt261 => (if bt261.2 = true then ((r2_Bit.f k (ln s) (b : Int)).bind fun t265 => ((r2_Len.f k (ln s)).bind fun t266 => (if ((b + 1 : Nat) : Int) ≤ t266 then ((r2_Shl.f k bt261.1 ((b + 1 : Nat) : Int)).bind fun t267 => ((r2_Sub.f k (ln s) t267).bind fun t270 => (r4_To.j0 k m ((b + 1 : Nat) : Int) bt261.1 (t265 == 1) t270 mi e (ln s)))) else (r4_To.j0 k m ((b + 1 : Nat) : Int) bt261.1 (t265 == 1) (ln s) mi e (ln s))))) else (some (bt261.1, false)))) (fun k => ?_) (Ev.bind hR (Ev.congr (fun k => by first | rw [if_pos rfl] | rw [if_pos trivial]) (Ev.bind hBit (Ev.bind hLen ?_))))
      · unfold r4_To.f
        rw [if_neg (by omega), ew, ew2]
      · simp only [eb]
        by_cases hl : ((b + 1 : Nat) : Int) ≤ (blen s : Int)
        · have hS := shl_ev hB hq (b + 1) (by omega)
          have hm2 := Nat.div_add_mod s (2 ^ (b + 1))
          have hsub := sub_ev hB hs (y := s / 2 ^ (b + 1) * 2 ^ (b + 1)) (Nat.div_mul_le_self _ _)
          rw [show s - s / 2 ^ (b + 1) * 2 ^ (b + 1) = s % 2 ^ (b + 1) by rw [Nat.mul_comm]; omega] at hsub
          exact Ev.congr (fun k => by rw [if_pos hl]) (Ev.bind hS (Ev.bind hsub hj0))
        · have : s < 2 ^ (b + 1) := blen_le_iff.1 (by omega)
          rw [Nat.mod_eq_of_lt this] at hj0
          exact Ev.congr (fun k => by rw [if_neg hl]) hj0
end
end Go.Proofs.Ytfnkmedajchbgaa
end
section
namespace Go.Proofs.Ytfnkmedajchbgaa
open Go.RowKit X Go.Proofs.YtfnkmedajchbgaaW.PrintWords
def overA (mi : Bool) (m : Int) : Int := if m = 2 ∨ (m = 3 ∧ mi = true) ∨ (m = 4 ∧ mi = false) then 9218868437227405311 else 9218868437227405312
theorem overA_bd (mi : Bool) (m : Int) : 0 ≤ overA mi m ∧ overA mi m < 9223372036854775808 := by unfold overA; split <;> omega
theorem over4_eq (mi : Bool) (m : Int) : r4_over.f mi m = some (overA mi m) := by
  unfold r4_over.f overA
  by_cases h2 : m = 2
  · rw [if_pos h2, if_pos (.inl h2)]
  · rw [if_neg h2]
    by_cases h3 : m = 3
    · subst h3; cases mi <;> simp
    · rw [if_neg h3]
      by_cases h4 : m = 4
      · subst h4; cases mi <;> simp
      · simp [h2, h3, h4]
theorem signed4_eq {a : Int} (h0 : 0 ≤ a) (h1 : a < 9223372036854775808) (mi : Bool) : r4_signed.f a mi = some (a + sg mi) := by
  unfold r4_signed.f sg
  cases mi
  · simp
  · rw [if_pos rfl, if_pos rfl, IntKind.wrap_u64]
    congr 1
    omega
theorem round_j4 (k : Nat) (n f : Int) (q : Nat) (mi : Bool) (e : Int) (X : List Int) (hn : -1074 ≤ n) (hn2 : n ≤ 971) (hq : q < 9007199254740992) (h52 : q < 4503599627370496 → n = -1074) :
    r4_Round.j4 (k + 1) n f (q : Int) mi e X = some ((q : Int) + (n + 1074) * 4503599627370496 + sg mi, f) := by
  simp only [r4_Round.j4]
  by_cases c : (q : Int) ≥ 4503599627370496
  · have e0 : wrap64 (n + 1075) = n + 1075 := by unfold wrap64; omega
    have e1 : IntKind.u64.wrap ((IntKind.u64.wrap ((IntKind.u64.wrap ((IntKind.u64.wrap (n + 1075)) * 4503599627370496)) + (q : Int))) - 4503599627370496) = (q : Int) + (n + 1074) * 4503599627370496 := by simp only [IntKind.wrap_u64]; omega
    rw [if_pos c, e0, e1, signed4_eq (by omega) (by omega)]
    rfl
  · rw [if_neg c, signed4_eq (by omega) (by omega), Option.bind_some]
    have := h52 (by omega)
    subst this
    simp
def fin2 (mi : Bool) (n : Int) (q : Nat) (m f : Int) : Int × Int := if 9218868437227405312 ≤ (q : Int) + (n + 1074) * 4503599627370496 then (overA mi m + sg mi, 20) else ((q : Int) + (n + 1074) * 4503599627370496 + sg mi, f)
theorem small_B {B q : Nat} (hB : 130000 ≤ B) (hq : q < 18446744073709551616) : q < 65536 ^ B := by
  have := Nat.pow_le_pow_right (n := 65536) (by omega) (show 4 ≤ B by omega)
  rw [show 65536 ^ 4 = 18446744073709551616 from rfl] at this
  omega
section
variable {B : Nat}
theorem round_j3 (hB : B ≤ 1000000) (hB2 : 130000 ≤ B) {n : Int} {q : Nat} (m f : Int) (mi : Bool) (e : Int) (X : List Int) (hn : -1074 ≤ n) (hn2 : n ≤ 2000) (hq : q ≤ 9007199254740992) (h52 : q < 4503599627370496 → n = -1074) :
    Ev (fun k => r4_Round.j3 k m n (ln q) f mi e X) (fin2 mi n q m f) := by
  have hqB : q < 65536 ^ B := small_B hB2 (by omega)
  have hL := len_ev hB hqB
  have hLow := low_ev q (by have := ln_length hqB; omega)
  rw [Nat.mod_eq_of_lt (by omega)] at hLow
  have hb : blen q ≤ 54 := blen_le_iff.2 (by rw [show (2 : Nat) ^ 54 = 18014398509481984 from rfl]; omega)
  have hov := overA_bd mi m
  refine Ev.step (f := fun k => (r2_Len.f k (ln q)).bind fun t305 => (if (wrap64 (t305 + n)) > 1024 then ((r4_over.f mi m).bind fun t306 => ((r4_signed.f t306 mi).bind fun t307 => (some (t307, 20)))) else ((r2_Low.f k (ln q)).bind fun t308 => (if t308 = 9007199254740992 then (r4_Round.j4 k (wrap64 (n + 1)) f 4503599627370496 mi e X) else (r4_Round.j4 k n f t308 mi e X))))) (fun k => by simp only [r4_Round.j3]) (Ev.bind hL ?_)
  have ew : wrap64 ((blen q : Int) + n) = (blen q : Int) + n := by unfold wrap64; omega
  have ew1 : wrap64 (n + 1) = n + 1 := by unfold wrap64; omega
  unfold fin2
  simp only [ew, ew1]
  by_cases c : (blen q : Int) + n > 1024
  · have hP : 9218868437227405312 ≤ (q : Int) + (n + 1074) * 4503599627370496 := by
      rcases Nat.lt_or_ge q 4503599627370496 with g | g
      · have := h52 g; omega
      · rcases Nat.lt_or_ge q 9007199254740992 with g2 | g2
        · have := blen_53 g g2; omega
        · have : q = 9007199254740992 := by omega
          subst this; have := blen_54; omega
    rw [if_pos hP]
    refine Ev.congr (fun k => ?_) (Ev.now _)
    rw [if_pos c, over4_eq, Option.bind_some, signed4_eq hov.1 hov.2, Option.bind_some]
  · have hP : ¬ 9218868437227405312 ≤ (q : Int) + (n + 1074) * 4503599627370496 := by
      rcases Nat.lt_or_ge q 4503599627370496 with g | g
      · have := h52 g; omega
      · rcases Nat.lt_or_ge q 9007199254740992 with g2 | g2
        · have := blen_53 g g2; omega
        · have : q = 9007199254740992 := by omega
          subst this; have := blen_54; omega
    rw [if_neg hP]
    refine Ev.congr (fun k => by rw [if_neg c]) (Ev.bind hLow ?_)
    by_cases c3 : (q : Int) = 9007199254740992
    · refine Ev.congr (fun k => by rw [if_pos c3]) (Ev.step (fun k => round_j4 k (n + 1) f 4503599627370496 mi e X (by omega) ?_ (by omega) (by omega)) ?_)
      · have : q = 9007199254740992 := by omega
        subst this; have := blen_54; omega
      · refine Ev.congr (fun k => ?_) (Ev.now _)
        congr 2
        omega
    · refine Ev.congr (fun k => by rw [if_neg c3]) (Ev.step (fun k => round_j4 k n f q mi e X hn ?_ (by omega) h52) (Ev.now _))
      rcases Nat.lt_or_ge q 4503599627370496 with g | g
      · have := h52 g; omega
      · have := blen_53 g (by omega); omega
theorem fin2_round (mi : Bool) (e : Int) (s : Nat) (m : Int) (hs : s ≠ 0) : fin2 mi (rN e s) (tQ mi e s (rN e s) m) m (rFlag mi e s m) = rRound mi e s m := by
  rw [round_eq _ _ _ _ hs, tQ_rN _ _ _ _ hs]
  rfl
theorem pow_B {t : Nat} (hB2 : 130000 ≤ B) (h : t ≤ 2000000) : 2 ^ t < 65536 ^ B := by
  rw [show (65536 : Nat) = 2 ^ 16 from rfl, ← Nat.pow_mul]
  exact (Nat.pow_lt_pow_iff_right (by omega)).2 (by omega)
theorem round_j2 (hB : B ≤ 1000000) (hB2 : 130000 ≤ B) (mi : Bool) {e : Int} {s : Nat} {m : Int} (hs : s ≠ 0) (hsB : s < 65536 ^ B) (he : -900000 ≤ e) (he2 : e ≤ 900000) (ht : -1300 ≤ e + (blen s : Int)) (ht2 : e + (blen s : Int) ≤ 1100) (hm : m = 0 ∨ m = 1 ∨ m = 2 ∨ m = 3 ∨ m = 4) :
    Ev (fun k => r4_Round.j2 k m (e + (blen s : Int)) mi e (ln s)) (rRound mi e s m) := by
  have ew : wrap64 (e + (blen s : Int) - 53) = e + (blen s : Int) - 53 := by unfold wrap64; omega
  have hbl := blen_pos hs
  have hTf := to_ev hB (by omega) mi hsB (e := e) (n := e + (blen s : Int) - 53) (m := m) (by omega) (by omega) (by omega) (by omega) hm (pow_B hB2 (by omega))
  obtain ⟨f1, f2, f3⟩ := tQ_53 mi e s m hs
  have hLf := len_ev hB (x := tQ mi e s (e + (blen s : Int) - 53) m) (small_B hB2 (by omega))
  have htf := tiny_iff mi e s m hs
  have hbf : blen (tQ mi e s (e + (blen s : Int) - 53) m) ≤ 54 := blen_le_iff.2 (by rw [show (2 : Nat) ^ 54 = 18014398509481984 from rfl]; omega)
  have hfin := fin2_round mi e s m hs
  have hq1 := tQ_rN mi e s m hs
  have hqlt := cutQ53_lt (x := e) hs
  have hqge := cutQ_ge (x := e) hs
  have huu := uu_le mi e s m
  rw [show (2 : Nat) ^ 53 = 9007199254740992 from rfl] at hqlt
  rw [show (2 : Nat) ^ 52 = 4503599627370496 from rfl] at hqge
  have hng := rN_ge e s
  by_cases c : e + (blen s : Int) - 53 < -1074
  · have hN : rN e s = -1074 := by unfold rN rTop; rw [if_pos c]
    rw [hN] at hfin hq1 hqlt hqge hng
    have hT := to_ev hB (by omega) mi hsB (e := e) (n := -1074) (m := m) (by omega) (by omega) (by omega) (by omega) hm (pow_B hB2 (by omega))
    have h3 := fun f => round_j3 hB hB2 (n := -1074) (q := tQ mi e s (-1074) m) m f mi e (ln s) (by omega) (by omega) (by omega) (fun _ => rfl)
    refine Ev.step (f := fun k => (r4_To.f k mi e (ln s) (-1074) m).bind fun bt296 => (if bt296.2 = true then ((r4_To.f k mi e (ln s) (e + (blen s : Int) - 53) m).bind fun bt300 => ((r2_Len.f k bt300.1).bind fun t304 => (if (wrap64 ((wrap64 (t304 + (e + (blen s : Int)))) - 53)) ≤ (-1022) then (r4_Round.j3 k m (-1074) bt296.1 24 mi e (ln s)) else (r4_Round.j3 k m (-1074) bt296.1 16 mi e (ln s))))) else (r4_Round.j3 k m (-1074) bt296.1 0 mi e (ln s)))) (fun k => ?_) (Ev.bind hT ?_)
    · simp only [r4_Round.j2]
      rw [ew, show mx (e + (blen s : Int) - 53) (-1074) = -1074 from if_pos c]
    · unfold rFlag at hfin
      rw [hN] at hfin
      cases ho : rOdd s e (-1074)
      · rw [ho, if_neg (by decide)] at hfin
        exact Ev.congr (fun k => by simp only [ho]; rw [if_neg (by decide)]) (hfin ▸ h3 0)
      · rw [ho, if_pos rfl] at hfin
        refine Ev.congr (fun k => by simp only [ho]; rw [if_pos trivial]) (Ev.bind hTf (Ev.bind hLf ?_))
        have ew2 : wrap64 ((wrap64 ((blen (tQ mi e s (e + (blen s : Int) - 53) m) : Int) + (e + (blen s : Int)))) - 53) = (blen (tQ mi e s (e + (blen s : Int) - 53) m) : Int) + (e + (blen s : Int)) - 53 := by unfold wrap64; omega
        simp only [ew2]
        by_cases ct : (blen (tQ mi e s (e + (blen s : Int) - 53) m) : Int) + (e + (blen s : Int)) - 53 ≤ -1022
        · rw [if_pos (htf.1 ct)] at hfin
          exact Ev.congr (fun k => by rw [if_pos ct]) (hfin ▸ h3 24)
        · rw [if_neg (fun h => ct (htf.2 h))] at hfin
          exact Ev.congr (fun k => by rw [if_neg ct]) (hfin ▸ h3 16)
  · have hN : rN e s = e + (blen s : Int) - 53 := by unfold rN rTop; rw [if_neg c]
    rw [hN] at hfin hq1 hqlt hqge hng
    have h3 := fun f => round_j3 hB hB2 (n := e + (blen s : Int) - 53) (q := tQ mi e s (e + (blen s : Int) - 53) m) m f mi e (ln s) (by omega) (by omega) (by omega) (fun h => by omega)
    refine Ev.step (f := fun k => (r4_To.f k mi e (ln s) (e + (blen s : Int) - 53) m).bind fun bt311 => (if bt311.2 = true then ((r4_To.f k mi e (ln s) (e + (blen s : Int) - 53) m).bind fun bt315 => ((r2_Len.f k bt315.1).bind fun t319 => (if (wrap64 ((wrap64 (t319 + (e + (blen s : Int)))) - 53)) ≤ (-1022) then (r4_Round.j3 k m (e + (blen s : Int) - 53) bt311.1 24 mi e (ln s)) else (r4_Round.j3 k m (e + (blen s : Int) - 53) bt311.1 16 mi e (ln s))))) else (r4_Round.j3 k m (e + (blen s : Int) - 53) bt311.1 0 mi e (ln s)))) (fun k => ?_) (Ev.bind hTf ?_)
    · simp only [r4_Round.j2]
      rw [ew, show mx (e + (blen s : Int) - 53) (-1074) = e + (blen s : Int) - 53 from if_neg c]
    · unfold rFlag at hfin
      rw [hN] at hfin
      cases ho : rOdd s e (e + (blen s : Int) - 53)
      · rw [ho, if_neg (by decide)] at hfin
        exact Ev.congr (fun k => by simp only [ho]; rw [if_neg (by decide)]) (hfin ▸ h3 0)
      · rw [ho, if_pos rfl] at hfin
        refine Ev.congr (fun k => by simp only [ho]; rw [if_pos trivial]) (Ev.bind hTf (Ev.bind hLf ?_))
        have ew2 : wrap64 ((wrap64 ((blen (tQ mi e s (e + (blen s : Int) - 53) m) : Int) + (e + (blen s : Int)))) - 53) = (blen (tQ mi e s (e + (blen s : Int) - 53) m) : Int) + (e + (blen s : Int)) - 53 := by unfold wrap64; omega
        simp only [ew2]
        by_cases ct : (blen (tQ mi e s (e + (blen s : Int) - 53) m) : Int) + (e + (blen s : Int)) - 53 ≤ -1022
        · rw [if_pos (htf.1 ct)] at hfin
          exact Ev.congr (fun k => by rw [if_pos ct]) (hfin ▸ h3 24)
        · rw [if_neg (fun h => ct (htf.2 h))] at hfin
          exact Ev.congr (fun k => by rw [if_neg ct]) (hfin ▸ h3 16)
theorem round_j1 (hB : B ≤ 1000000) (hB2 : 130000 ≤ B) (mi : Bool) {e : Int} {s : Nat} {m : Int} (hsB : s < 65536 ^ B) (hbl : blen s ≤ 1000000) (he : -900000 ≤ e) (he2 : e ≤ 900000) (hm : m = 0 ∨ m = 1 ∨ m = 2 ∨ m = 3 ∨ m = 4) :
    Ev (fun k => r4_Round.j1 k m mi e (ln s)) (rRound mi e s m) := by
  by_cases hs : s = 0
  · subst hs
    refine Ev.step (f := fun _ => some _) (fun k => ?_) (Ev.now _)
    simp only [r4_Round.j1]
    rw [ln_zero, if_pos (by rfl), signed4_eq (by omega) (by omega), Option.bind_some]
    unfold rRound
    rw [if_pos rfl, Int.zero_add]
  · have hL := len_ev hB hsB
    have hl : 0 < (ln s).length := ln_lt_iff.2 (by rw [Nat.pow_zero]; omega)
    have ew : wrap64 (e + (blen s : Int)) = e + (blen s : Int) := by unfold wrap64; omega
    have hov := overA_bd mi m
    refine Ev.step (f := fun k => (r2_Len.f k (ln s)).bind fun t290 => (if (wrap64 (e + t290)) > 1100 then ((r4_over.f mi m).bind fun t291 => ((r4_signed.f t291 mi).bind fun t292 => (some (t292, 20)))) else (if (wrap64 (e + t290)) < (-1200) then ((r2_Of.f k 1).bind fun t293 => (r4_Round.j2 k m (-1299) mi (-1300) t293)) else (r4_Round.j2 k m (wrap64 (e + t290)) mi e (ln s))))) (fun k => by simp only [r4_Round.j1]; rw [if_neg (by omega)]) (Ev.bind hL ?_)
    simp only [ew]
    by_cases c : e + (blen s : Int) > 1100
    · have hN : rN e s = e + (blen s : Int) - 53 := by rcases rN_cases e s with g | g <;> omega
      have hP : 9218868437227405312 ≤ PQ mi e s m := by
        have := cutQ_ge (x := e) hs (by omega)
        rw [show (2 : Nat) ^ 52 = 4503599627370496 from rfl] at this
        unfold PQ
        omega
      rw [round_eq _ _ _ _ hs, if_pos hP]
      refine Ev.congr (fun k => ?_) (Ev.now _)
      rw [if_pos c, over4_eq, Option.bind_some, signed4_eq hov.1 hov.2, Option.bind_some]
      rfl
    · by_cases c2 : e + (blen s : Int) < -1200
      · rw [round_far mi m hs c2]
        have := round_j2 hB hB2 mi (e := -1300) (s := 1) (m := m) (by omega) (one_B (by omega)) (by omega) (by omega) (by decide) (by decide) hm
        rw [show (-1300 : Int) + (blen 1 : Int) = -1299 by decide] at this
        exact Ev.congr (fun k => by rw [if_neg c, if_pos c2]) (Ev.bind of_one this)
      · exact Ev.congr (fun k => by rw [if_neg c, if_neg c2]) (round_j2 hB hB2 mi hs hsB he he2 (by omega) (by omega) hm)
theorem ref_round_ev (hB : B ≤ 1000000) (hB2 : 130000 ≤ B) (mi : Bool) {e : Int} {s : Nat} (m : Int) (hsB : s < 65536 ^ B) (hbl : blen s ≤ 1000000) (he : -900000 ≤ e) (he2 : e ≤ 900000) :
    Ev (fun k => r4_Round.f k mi e (ln s) m) (rRound mi e s m) := by
  rw [← round_md]
  have h1 := round_j1 hB hB2 mi (e := e) (s := s) (m := md m) hsB hbl he he2 (md_in m)
  by_cases c1 : m < 0
  · have e0 : md m = 0 := by unfold md; rw [if_pos (.inl c1)]
    rw [e0] at h1 ⊢
    refine Ev.congr (f := fun k => r4_Round.j0 k m true mi e (ln s)) (fun k => by unfold r4_Round.f; rw [if_pos c1]) (Ev.step (fun k => ?_) h1)
    simp only [r4_Round.j0]
    rw [if_pos trivial]
  · refine Ev.congr (f := fun k => r4_Round.j0 k m (decide (m > 4)) mi e (ln s)) (fun k => by unfold r4_Round.f; rw [if_neg c1]) ?_
    by_cases c2 : m > 4
    · have e0 : md m = 0 := by unfold md; rw [if_pos (.inr c2)]
      rw [e0] at h1 ⊢
      rw [decide_eq_true c2]
      refine Ev.step (fun k => ?_) h1
      simp only [r4_Round.j0]
      rw [if_pos trivial]
    · have e0 : md m = m := by unfold md; rw [if_neg (by omega)]
      rw [e0] at h1 ⊢
      rw [decide_eq_false c2]
      refine Ev.step (fun k => ?_) h1
      simp only [r4_Round.j0]
      rw [if_neg (by decide)]
end
end Go.Proofs.Ytfnkmedajchbgaa
end
section
namespace Go.Proofs.Ytfnkmedajchbgaa
open Go.RowKit X Go.Proofs.YtfnkmedajchbgaaW.PrintWords
section
variable {x y B : Nat}
theorem small_loop (hB : B ≤ 1000000) (hx : x < 65536 ^ B) (p m0 : Nat) (hp : p < 4294967296) (hm0 : m0 < 4294967296) : ∀ (d i c : Nat) (out : List Int), i + d = B + 2 → nok out → out.length = i → c < 4294967296 →
    nv out + 65536 ^ i * (c + x / 65536 ^ i * p) = x * p + m0 → Ev (fun k => r2_Small.l0 k (ln x) (p : Int) out (c : Int) (i : Int)) (ln (x * p + m0)) := by
  have wr : ∀ v : Nat, v < 18446744073709551616 → IntKind.u64.wrap (v : Int) = (v : Int) := fun v hv => by rw [IntKind.wrap_u64]; omega
  intro d
  induction d with
  | zero =>
    intro i c out hi hok hlen hc hv
    have hP : 65536 ^ i = 65536 ^ B * 65536 * 65536 := by rw [show i = B + 1 + 1 by omega, Nat.pow_succ, Nat.pow_succ]
    have h1 : ¬ 65536 ^ i ≤ x := by omega
    rw [div_zero_of h1, Nat.zero_mul, Nat.add_zero] at hv
    have hc0 : c = 0 := by
      rcases Nat.lt_or_ge 0 c with g | g
      · have g1 : 65536 ^ i * 1 ≤ 65536 ^ i * c := Nat.mul_le_mul_left _ g
        have g2 : x * p ≤ x * 4294967295 := Nat.mul_le_mul_left _ (by omega)
        omega
      · omega
    subst hc0
    refine Ev.step (f := fun k => (r2_trim.f k out).bind fun t => some t) (fun k => ?_) (trim_to hok (by omega) (by omega))
    simp only [r2_Small.l0]
    rw [if_neg (len_neg h1), if_neg (by omega)]
  | succ d ih =>
    intro i c out hi hok hlen hc hv
    have hx' := div_step x i
    generalize hX : x / 65536 ^ (i + 1) = X at *
    generalize hdx : x / 65536 ^ i % 65536 = dx at *
    have bx : dx < 65536 := by omega
    have bm : dx * p ≤ 65535 * 4294967295 := Nat.mul_le_mul (by omega) (by omega)
    generalize hm : dx * p = m at *
    have e : ((dx : Nat) : Int) * (p : Int) = (m : Int) := by rw [← hm]; push_cast; rfl
    have next := ih (i + 1) ((c + m) / 65536) (out ++ [(((c + m) % 65536 : Nat) : Int)]) (by omega) (nok_append hok (nok_one (by omega) (by omega))) (by simp [hlen]) (by omega) (by
      rw [nv_append, hlen, nv_one, Int.toNat_natCast, hX, ← hv, hx', Nat.add_assoc, pw_step]
      congr 2
      rw [Nat.add_mul, hm, Nat.mul_assoc]
      generalize X * p = Z
      omega)
    have go : (Int.tmod (IntKind.u64.wrap ((c : Int) + (IntKind.u64.wrap ((IntKind.u64.wrap ((dx : Nat) : Int)) * (IntKind.u64.wrap (p : Int)))))) 65536) % 4294967296 = (((c + m) % 65536 : Nat) : Int) := by
      rw [wr _ (by omega), wr _ (by omega), e, wr _ (by omega), ← Int.natCast_add, wr _ (by omega), Int.tmod_eq_emod_of_nonneg (by omega)]
      omega
    have go2 : IntKind.u64.wrap (Int.tdiv (IntKind.u64.wrap ((c : Int) + (IntKind.u64.wrap ((IntKind.u64.wrap ((dx : Nat) : Int)) * (IntKind.u64.wrap (p : Int)))))) 65536) = (((c + m) / 65536 : Nat) : Int) := by
      rw [wr _ (by omega), wr _ (by omega), e, wr _ (by omega), ← Int.natCast_add, wr _ (by omega), Int.tdiv_eq_ediv_of_nonneg (by omega)]
      exact wr ((c + m) / 65536) (by omega)
    by_cases h1 : 65536 ^ i ≤ x
    · refine Ev.step (fun k => ?_) next
      simp only [r2_Small.l0]
      rw [if_pos (len_pos h1), at_ln]
      simp only [Option.bind_some]
      rw [if_pos (by omega), w1 (by omega), hdx, go, go2]
    · by_cases h2 : 0 < c
      · refine Ev.step (fun k => ?_) next
        simp only [r2_Small.l0]
        rw [if_neg (len_neg h1), if_pos (by omega), at_ln]
        simp only [Option.bind_some]
        rw [if_pos (by omega), w1 (by omega), hdx, go, go2]
      · have h3 : c = 0 := by omega
        subst h3
        rw [div_zero_of h1, Nat.zero_mul, Nat.zero_add, Nat.mul_zero, Nat.add_zero] at hv
        refine Ev.step (f := fun k => (r2_trim.f k out).bind fun t => some t) (fun k => ?_) (trim_to hok (by omega) hv)
        simp only [r2_Small.l0]
        rw [if_neg (len_neg h1), if_neg (by omega)]
theorem small_ev (hB : B ≤ 1000000) (hx : x < 65536 ^ B) (p m : Nat) (hp : p < 4294967296) (hm : m < 4294967296) : Ev (fun k => r2_Small.f k (ln x) (p : Int) (m : Int)) (ln (x * p + m)) := by
  refine Ev.congr (fun k => ?_) (small_loop hB hx p m hp hm (B + 2) 0 m [] (by omega) nok_nil rfl hm (by rw [Nat.pow_zero, Nat.div_one, Nat.one_mul]; simp [nv]; omega))
  unfold r2_Small.f
  rw [show IntKind.u64.wrap (m : Int) = (m : Int) by rw [IntKind.wrap_u64]; omega]
  rfl
end
end Go.Proofs.Ytfnkmedajchbgaa
end
section
namespace Go.Proofs.Ytfnkmedajchbgaa
open Go.RowKit X Go.Proofs.YtfnkmedajchbgaaW.PrintWords
theorem nv_set {l : List Int} (i : Nat) (hi : i < l.length) (d : Int) : nv (l.set i d) + 65536 ^ i * (l.getD i 0).toNat = nv l + 65536 ^ i * d.toNat := by
  induction l generalizing i with
  | nil => simp at hi
  | cons e l ih =>
    cases i with
    | zero => simp [nv]; omega
    | succ i =>
      have := ih i (by simpa using hi)
      show e.toNat + 65536 * nv (l.set i d) + 65536 ^ (i + 1) * (l.getD i 0).toNat = e.toNat + 65536 * nv l + 65536 ^ (i + 1) * d.toNat
      rw [Nat.pow_succ', Nat.mul_assoc, Nat.mul_assoc, Nat.add_assoc, ← Nat.mul_add, this, Nat.mul_add, Nat.add_assoc]
theorem nok_set {l : List Int} (h : nok l) (i : Nat) {d : Int} (h0 : 0 ≤ d) (h1 : d < 65536) : nok (l.set i d) := fun e he => by
  rcases List.mem_or_eq_of_mem_set he with g | g
  · exact h e g
  · subst g; exact ⟨h0, h1⟩
theorem wr64 (v : Nat) (hv : v < 18446744073709551616) : IntKind.u64.wrap (v : Int) = (v : Int) := by rw [IntKind.wrap_u64]; omega
theorem wr64m (v w : Nat) (hv : v * w < 18446744073709551616) : IntKind.u64.wrap ((v : Int) * (w : Int)) = ((v * w : Nat) : Int) := by rw [← Int.natCast_mul]; exact wr64 _ hv
theorem wr64a (v w : Nat) (hv : v + w < 18446744073709551616) : IntKind.u64.wrap ((v : Int) + (w : Int)) = ((v + w : Nat) : Int) := by rw [← Int.natCast_add]; exact wr64 _ hv
end Go.Proofs.Ytfnkmedajchbgaa
end
section
namespace Go.Proofs.Ytfnkmedajchbgaa
open Go.RowKit X Go.Proofs.YtfnkmedajchbgaaW.PrintWords
section
variable {x y B : Nat}
theorem parts_l1 (hB : B + 1 ≤ 1000000) (hy : y < 65536 ^ B) (hy0 : y ≠ 0) (r : Nat) (hr : r < 65536 * y) (X : List Int) (qs : List Int) (n8 : Int) (j : Nat) (hj : j < qs.length) (hq : qs.length < 4000000000000000000) (out : List Int × List Int)
    (next : Ev (fun k => r2_Parts.l0 k X (ln y) (ln (r % y)) (qs.set j ((r / y : Nat) : Int)) n8 ((j : Int) - 1)) out) :
    ∀ (e g : Nat), g = r / y + e → g ≤ 65535 → Ev (fun k => r2_Parts.l1 k X (ln y) (ln r) qs n8 (j : Int) (g : Int) (ln (y * g))) out := by
  have hdm := Nat.div_add_mod r y
  generalize r / y = q at *
  have hml := Nat.mod_lt r (show 0 < y by omega)
  have hP : 65536 ^ (B + 1) = 65536 ^ B * 65536 := Nat.pow_succ ..
  have hrB : r < 65536 ^ (B + 1) := by omega
  intro e
  induction e with
  | zero =>
    intro g hg hle
    rw [Nat.add_zero] at hg
    rw [hg] at hle ⊢
    have hsub : r - y * (q) = r % y := by omega
    have hsb := sub_ev hB hrB (y := y * (q)) (by omega)
    rw [hsub] at hsb
    have hc := cmp_ev hB (x := y * (q)) (y := r) (by omega) hrB
    have ec : ¬ cmpI (y * (q)) r > 0 := by unfold cmpI; split; omega; split <;> omega
    refine Ev.step (f := fun k => (r2_Cmp.f k (ln (y * (q))) (ln r)).bind fun t207 => (if t207 > 0 then ((r2_Sub.f k (ln (y * (q))) (ln y)).bind fun t208 => (r2_Parts.l1 k X (ln y) (ln r) qs n8 (j : Int) (IntKind.u64.wrap (((q : Nat) : Int) - 1)) t208)) else ((r2_Sub.f k (ln r) (ln (y * (q)))).bind fun t211 => (if 0 ≤ (j : Int) then (if (j : Int) < (qs.length : Int) then (r2_Parts.l0 k X (ln y) t211 (qs.set ((j : Int) : Int).toNat ((((q : Nat) : Int)) % 4294967296)) n8 (wrap64 ((j : Int) - 1))) else (none)) else (none))))) (fun k => by simp only [r2_Parts.l1]) (Ev.bind hc ?_)
    refine Ev.congr (fun k => by rw [if_neg ec]) (Ev.bind hsb (Ev.congr (fun k => ?_) next))
    rw [if_pos (by omega), if_pos (by omega), Int.toNat_natCast]
    congr 1
    · rw [show ((q : Int) % 4294967296) = (q : Int) by omega]
    · unfold wrap64; omega
  | succ e ih =>
    intro g hg hle
    have hgt : r < y * g := by
      have : y * (q + 1) ≤ y * g := Nat.mul_le_mul_left _ (by omega)
      rw [Nat.mul_add, Nat.mul_one] at this
      omega
    have hyg : y * g ≤ y * 65535 := Nat.mul_le_mul_left _ hle
    have e1 : y * g - y = y * (g - 1) := by rw [Nat.mul_sub, Nat.mul_one]
    have hsb := sub_ev hB (x := y * g) (y := y) (by omega) (Nat.le_mul_of_pos_right _ (by omega))
    rw [e1] at hsb
    have hc := cmp_ev hB (x := y * g) (y := r) (by omega) hrB
    have ec : cmpI (y * g) r > 0 := by unfold cmpI; rw [if_neg (by omega), if_pos hgt]; decide
    refine Ev.step (f := fun k => (r2_Cmp.f k (ln (y * g)) (ln r)).bind fun t207 => (if t207 > 0 then ((r2_Sub.f k (ln (y * g)) (ln y)).bind fun t208 => (r2_Parts.l1 k X (ln y) (ln r) qs n8 (j : Int) (IntKind.u64.wrap (((g : Nat) : Int) - 1)) t208)) else ((r2_Sub.f k (ln r) (ln (y * g))).bind fun t211 => (if 0 ≤ (j : Int) then (if (j : Int) < (qs.length : Int) then (r2_Parts.l0 k X (ln y) t211 (qs.set ((j : Int) : Int).toNat (((g : Nat) : Int) % 4294967296)) n8 (wrap64 ((j : Int) - 1))) else (none)) else (none))))) (fun k => by simp only [r2_Parts.l1]) (Ev.bind hc ?_)
    refine Ev.congr (fun k => by rw [if_pos ec]) (Ev.bind hsb (Ev.congr (fun k => ?_) (ih (g - 1) (by omega) (by omega))))
    congr 1
    rw [IntKind.wrap_u64]
    omega
theorem guess_ge {r z : Nat} (hz : y / 65536 ^ z ≠ 0) : r / y ≤ r / 65536 ^ z / (y / 65536 ^ z) := by
  rw [Nat.le_div_iff_mul_le (Nat.pos_of_ne_zero hz), Nat.le_div_iff_mul_le (p16 z), Nat.mul_assoc]
  have h1 : y / 65536 ^ z * 65536 ^ z ≤ y := Nat.div_mul_le_self _ _
  have h2 : r / y * (y / 65536 ^ z * 65536 ^ z) ≤ r / y * y := Nat.mul_le_mul_left _ h1
  exact Nat.le_trans h2 (Nat.div_mul_le_self _ _)
theorem parts_l0 (hB : B + 1 ≤ 1000000) (hx : x < 65536 ^ B) (hy : y < 65536 ^ B) (hy0 : y ≠ 0) : ∀ (m : Nat) (qs : List Int), m ≤ (ln x).length → nok qs → qs.length = (ln x).length → nv qs = 65536 ^ m * (x / 65536 ^ m / y) →
    Ev (fun k => r2_Parts.l0 k (ln x) (ln y) (ln (x / 65536 ^ m % y)) qs ((ln y).length : Int) ((m : Int) - 1)) (ln (x / y), ln (x % y)) := by
  have lx := ln_length hx
  have ly := ln_length hy
  intro m
  induction m with
  | zero =>
    intro qs hm hok hlen hv
    rw [Nat.pow_zero, Nat.div_one, Nat.one_mul] at hv
    have hT := trim_ev hok (by omega)
    rw [hv] at hT
    refine Ev.step (f := fun k => (r2_trim.f k qs).bind fun t => some (t, ln (x % y))) (fun k => ?_) (Ev.bind hT (Ev.now _))
    simp only [r2_Parts.l0]
    rw [if_neg (by omega), Nat.pow_zero, Nat.div_one]
  | succ j ih =>
    intro qs hm hok hlen hv
    have hd := div_step x j
    generalize hr0 : x / 65536 ^ (j + 1) % y = r0 at *
    have hr0l : r0 < y := by rw [← hr0]; exact Nat.mod_lt _ (by omega)
    generalize hdj : x / 65536 ^ j % 65536 = dj at *
    have hdjl : dj < 65536 := by omega
    have hq0 := Nat.div_add_mod (x / 65536 ^ (j + 1)) y
    rw [hr0] at hq0
    generalize hQ : x / 65536 ^ (j + 1) / y = Q at *
    have hr : dj + 65536 * r0 < 65536 * y := by omega
    have exj : x / 65536 ^ j = (dj + 65536 * r0) + y * (65536 * Q) := by
      rw [hd, ← hq0, Nat.mul_add, Nat.mul_left_comm]; omega
    have emod : x / 65536 ^ j % y = (dj + 65536 * r0) % y := by rw [exj, Nat.add_mul_mod_self_left]
    have ediv : x / 65536 ^ j / y = (dj + 65536 * r0) / y + 65536 * Q := by rw [exj, Nat.add_mul_div_left _ _ (by omega)]
    generalize hR : dj + 65536 * r0 = r at *
    have hP : 65536 ^ (B + 1) = 65536 ^ B * 65536 := Nat.pow_succ ..
    have hrB : r < 65536 ^ (B + 1) := by omega
    have hyB : y < 65536 ^ (B + 1) := by omega
    have hTr := trim_ev (l := [(dj : Int)] ++ ln r0) (nok_append (nok_one (by omega) (by omega)) (nok_ln _)) (by have := ln_length (n := r0) (L := B) (by omega); simp; omega)
    rw [nv_append, nv_one, nv_ln, Int.toNat_natCast, List.length_singleton, Nat.pow_one, hR] at hTr
    have hc := cmp_ev hB hrB hyB
    have e0 : ((j + 1 : Nat) : Int) - 1 = (j : Int) := by omega
    have ew : wrap64 ((j : Int) - 1) = (j : Int) - 1 := by unfold wrap64; omega
    have hlr := ln_length (n := r0) (L := B) (by omega)
    have hsl : ([(dj : Int)] : List Int).length + (ln r0).length < 35184372088832 := by rw [List.length_singleton]; omega
    by_cases hlt : r < y
    · have ec : cmpI r y < 0 := by unfold cmpI; rw [if_pos hlt]; decide
      have next := ih qs (by omega) hok hlen (by rw [hv, ediv, Nat.div_eq_of_lt hlt, Nat.zero_add, Nat.pow_succ, Nat.mul_assoc])
      rw [emod, Nat.mod_eq_of_lt hlt] at next
      obtain ⟨K1, h1⟩ := hTr
      obtain ⟨K2, h2⟩ := hc
      obtain ⟨K3, h3⟩ := next
      replace h1 : ∀ k, K1 ≤ k → r2_trim.f k ([(dj : Int)] ++ ln r0) = some (ln r) := h1
      replace h2 : ∀ k, K2 ≤ k → r2_Cmp.f k (ln r) (ln y) = some (cmpI r y) := h2
      refine ⟨K1 + K2 + K3 + 1, fun k hk => ?_⟩
      obtain ⟨k, rfl⟩ : ∃ k', k = k' + 1 := ⟨k - 1, by omega⟩
      simp only [r2_Parts.l0]
      rw [e0, if_pos (by omega), if_pos (by omega), if_pos (by omega), rd_ln, hdj, Option.bind_some, if_pos hsl, h1 k (by omega), Option.bind_some, h2 k (by omega), Option.bind_some, if_pos ec, ew]
      exact h3 k (by omega)
    · have ec : ¬ cmpI r y < 0 := by unfold cmpI; rw [if_neg hlt]; split <;> omega
      have hq : r / y ≤ 65535 := by have := Nat.div_lt_of_lt_mul (m := r) (n := y) (k := 65536) (by rw [Nat.mul_comm]; omega); omega
      have hqset : nv (qs.set j ((r / y : Nat) : Int)) = 65536 ^ j * (x / 65536 ^ j / y) := by
        have h1 := nv_set j (by omega) ((r / y : Nat) : Int) (l := qs)
        rw [getD_nv hok, hv, Nat.pow_succ, Nat.mul_assoc, Nat.mul_div_cancel_left _ (p16 j), Nat.mul_mod_right] at h1
        rw [ediv, Nat.mul_add]
        simp only [Int.toNat_natCast, Nat.mul_zero, Nat.add_zero, Int.natCast_zero, Int.toNat_zero] at h1
        omega
      have next := ih (qs.set j ((r / y : Nat) : Int)) (by omega) (nok_set hok j (Int.natCast_nonneg _) (Int.ofNat_lt.2 (Nat.lt_of_le_of_lt hq (by decide)))) (by rw [List.length_set]; exact hlen) hqset
      rw [emod] at next
      have l1 := parts_l1 hB hy hy0 r hr (ln x) qs ((ln y).length : Int) j (by omega) (by omega) _ next
      have hly : 0 < (ln y).length := ln_lt_iff.2 (by rw [Nat.pow_zero]; omega)
      obtain ⟨n, hn⟩ : ∃ n, (ln y).length = n + 1 := ⟨(ln y).length - 1, by omega⟩
      have g1 : 65536 ^ n ≤ y := ln_lt_iff.1 (by omega)
      have g2 : ¬ 65536 ^ (n + 1) ≤ y := mt ln_lt_iff.2 (by omega)
      have en1 : wrap64 (((n + 1 : Nat) : Int) - 1) = (n : Int) := by unfold wrap64; omega
      have key : ∃ (a b c d e : Nat), a < 65536 ∧ b < 65536 ∧ c < 65536 ∧ d < 65536 ∧ e < 65536 ∧ r2_at.f (ln r) ((n + 1 : Nat) : Int) = some (a : Int) ∧ r2_at.f (ln r) (n : Int) = some (b : Int) ∧ r2_at.f (ln r) (wrap64 (((n + 1 : Nat) : Int) - 2)) = some (c : Int) ∧
          rd (ln y) (n : Int) = (d : Int) ∧ r2_at.f (ln y) (wrap64 (((n + 1 : Nat) : Int) - 2)) = some (e : Int) ∧ d * 65536 + e ≠ 0 ∧ r / y ≤ (a * 4294967296 + b * 65536 + c) / (d * 65536 + e) := by
        have hyn : y / 65536 ^ n < 65536 := Nat.div_lt_of_lt_mul (by rw [Nat.pow_succ] at g2; omega)
        have hyn0 : y / 65536 ^ n ≠ 0 := Nat.ne_of_gt (Nat.div_pos g1 (p16 n))
        have hrn : r / 65536 ^ (n + 1) < 65536 := Nat.div_lt_of_lt_mul (by omega)
        cases n with
        | zero =>
          refine ⟨r / 65536 ^ 1 % 65536, r / 65536 ^ 0 % 65536, 0, y / 65536 ^ 0 % 65536, 0, by omega, by omega, by omega, by omega, by omega, at_ln r 1, at_ln r 0, at_neg _ (by unfold wrap64; omega), rd_ln y 0, at_neg _ (by unfold wrap64; omega), ?_, ?_⟩
          · rw [Nat.mod_eq_of_lt hyn]; omega
          · simp only [Nat.pow_zero, Nat.pow_one, Nat.div_one, Nat.zero_add, Nat.add_zero] at hyn hyn0 hrn ⊢
            rw [Nat.mod_eq_of_lt hyn, Nat.mod_eq_of_lt hrn]
            rw [show r / 65536 * 4294967296 + r % 65536 * 65536 = r * 65536 by omega, Nat.mul_div_mul_right _ _ (by omega)]
            exact Nat.le_refl _
        | succ z =>
          have ez : wrap64 (((z + 1 + 1 : Nat) : Int) - 2) = (z : Int) := by unfold wrap64; omega
          rw [ez]
          have h1 := div_step r z
          have h2 := div_step r (z + 1)
          have h3 := div_step y z
          refine ⟨r / 65536 ^ (z + 1 + 1) % 65536, r / 65536 ^ (z + 1) % 65536, r / 65536 ^ z % 65536, y / 65536 ^ (z + 1) % 65536, y / 65536 ^ z % 65536, by omega, by omega, by omega, by omega, by omega, at_ln r _, at_ln r _, at_ln r _, rd_ln y _, at_ln y _, ?_, ?_⟩
          · rw [Nat.mod_eq_of_lt hyn]; omega
          · have := guess_ge (y := y) (r := r) (z := z) (by omega)
            rw [Nat.mod_eq_of_lt hyn, Nat.mod_eq_of_lt hrn]
            rw [show r / 65536 ^ (z + 1 + 1) * 4294967296 + r / 65536 ^ (z + 1) % 65536 * 65536 + r / 65536 ^ z % 65536 = r / 65536 ^ z by omega, show y / 65536 ^ (z + 1) * 65536 + y / 65536 ^ z % 65536 = y / 65536 ^ z by omega]
            exact this
      obtain ⟨a, b, c, d, e, la, lb, lc, ld, le, ha, hb, hcc, hd2, he, hne, hge⟩ := key
      have eT : IntKind.u64.wrap ((IntKind.u64.wrap ((IntKind.u64.wrap ((IntKind.u64.wrap (a : Int)) * 4294967296)) + (IntKind.u64.wrap ((IntKind.u64.wrap (b : Int)) * 65536)))) + (IntKind.u64.wrap (c : Int))) = ((a * 4294967296 + b * 65536 + c : Nat) : Int) := by
        rw [wr64 a (by omega), wr64 b (by omega), wr64 c (by omega), show (4294967296 : Int) = ((4294967296 : Nat) : Int) from rfl, show (65536 : Int) = ((65536 : Nat) : Int) from rfl, wr64m _ _ (by omega), wr64m _ _ (by omega), wr64a _ _ (by omega), wr64a _ _ (by omega)]
      have eD : IntKind.u64.wrap ((IntKind.u64.wrap ((IntKind.u64.wrap (d : Int)) * 65536)) + (IntKind.u64.wrap (e : Int))) = ((d * 65536 + e : Nat) : Int) := by
        rw [wr64 d (by omega), wr64 e (by omega), show (65536 : Int) = ((65536 : Nat) : Int) from rfl, wr64m _ _ (by omega), wr64a _ _ (by omega)]
      have eG : IntKind.u64.wrap (Int.tdiv ((a * 4294967296 + b * 65536 + c : Nat) : Int) ((d * 65536 + e : Nat) : Int)) = (((a * 4294967296 + b * 65536 + c) / (d * 65536 + e) : Nat) : Int) := by
        rw [Int.tdiv_eq_ediv_of_nonneg (by omega)]
        exact wr64 ((a * 4294967296 + b * 65536 + c) / (d * 65536 + e)) (Nat.lt_of_le_of_lt (Nat.div_le_self _ _) (by omega))
      generalize hG : (a * 4294967296 + b * 65536 + c) / (d * 65536 + e) = G at *
      obtain ⟨K1, h1⟩ := hTr
      obtain ⟨K2, h2⟩ := hc
      by_cases hbig : 65535 < G
      · obtain ⟨K3, h3⟩ := l1 (65535 - r / y) 65535 (by omega) (by omega)
        obtain ⟨K4, h4⟩ := small_ev hB hyB 65535 0 (by omega) (by omega)
        rw [Nat.add_zero] at h4
        replace h1 : ∀ k, K1 ≤ k → r2_trim.f k ([(dj : Int)] ++ ln r0) = some (ln r) := h1
        replace h2 : ∀ k, K2 ≤ k → r2_Cmp.f k (ln r) (ln y) = some (cmpI r y) := h2
        refine ⟨K1 + K2 + K3 + K4 + 1, fun k hk => ?_⟩
        obtain ⟨k, rfl⟩ : ∃ k', k = k' + 1 := ⟨k - 1, by omega⟩
        simp only [r2_Parts.l0]
        rw [e0, if_pos (by omega), if_pos (by omega), if_pos (by omega), rd_ln, hdj, Option.bind_some, if_pos hsl, h1 k (by omega), Option.bind_some, h2 k (by omega), Option.bind_some, if_neg ec, hn, ha, Option.bind_some, en1, hb, Option.bind_some, hcc, Option.bind_some, if_pos (by omega), if_pos (by omega), he, Option.bind_some, hd2, eD, eT, eG, if_neg (by omega), show mn (G : Int) 65535 = 65535 from if_pos (by omega), show (65535 : Int) % 4294967296 = 65535 from rfl]
        have h4' := h4 k (by omega)
        simp only [Int.natCast_zero] at h4'
        rw [show ((65535 : Nat) : Int) = 65535 from rfl] at h4'
        rw [h4', Option.bind_some, ← hn]
        exact h3 k (by omega)
      · obtain ⟨K3, h3⟩ := l1 (G - r / y) G (by omega) (by omega)
        obtain ⟨K4, h4⟩ := small_ev hB hyB G 0 (by omega) (by omega)
        rw [Nat.add_zero] at h4
        replace h1 : ∀ k, K1 ≤ k → r2_trim.f k ([(dj : Int)] ++ ln r0) = some (ln r) := h1
        replace h2 : ∀ k, K2 ≤ k → r2_Cmp.f k (ln r) (ln y) = some (cmpI r y) := h2
        refine ⟨K1 + K2 + K3 + K4 + 1, fun k hk => ?_⟩
        obtain ⟨k, rfl⟩ : ∃ k', k = k' + 1 := ⟨k - 1, by omega⟩
        simp only [r2_Parts.l0]
        rw [e0, if_pos (by omega), if_pos (by omega), if_pos (by omega), rd_ln, hdj, Option.bind_some, if_pos hsl, h1 k (by omega), Option.bind_some, h2 k (by omega), Option.bind_some, if_neg ec, hn, ha, Option.bind_some, en1, hb, Option.bind_some, hcc, Option.bind_some, if_pos (by omega), if_pos (by omega), he, Option.bind_some, hd2, eD, eT, eG, if_neg (by omega), show mn (G : Int) 65535 = (G : Int) from if_neg (by omega), show ((G : Int) % 4294967296) = (G : Int) by omega]
        have h4' := h4 k (by omega)
        simp only [Int.natCast_zero] at h4'
        rw [h4', Option.bind_some, ← hn]
        exact h3 k (by omega)
theorem parts_ev (hB : B + 1 ≤ 1000000) (hx : x < 65536 ^ B) (hy : y < 65536 ^ B) (hy0 : y ≠ 0) : Ev (fun k => r2_Parts.f k (ln x) (ln y)) (ln (x / y), ln (x % y)) := by
  have lx := ln_length hx
  have zx : x / 65536 ^ (ln x).length = 0 := div_zero_of (mt ln_lt_iff.2 (by omega))
  have := parts_l0 hB hx hy hy0 (ln x).length (List.replicate (ln x).length 0) (Nat.le_refl _) (nok_zeros _) (by simp) (by rw [nv_zeros, zx]; simp)
  rw [zx, Nat.zero_mod, ln_zero] at this
  refine Ev.congr (fun k => ?_) this
  unfold r2_Parts.f
  rw [if_pos (by omega), Int.toNat_natCast, if_pos (by omega)]
  congr 1
  unfold wrap64
  omega
end
end Go.Proofs.Ytfnkmedajchbgaa
end
section
namespace Go.Proofs.Ytfnkmedajchbgaa
open Go.RowKit X Go.Proofs.YtfnkmedajchbgaaW.PrintWords
theorem ref08_j3 {B : Nat} (hB : B ≤ 1000000) (hB2 : 130000 ≤ B) {a b : Int} (hb : 0 < pS b) (hV : wV a b < 65536 ^ B) (near : Bool) (fl : Bool) (hfl : fl = (near && wFlip a b)) :
    Ev (fun k => r8_Rest.j3 k (wLow a b) (ln (wV a b)) (ln (wU a b % wV a b)) (pM a) fl) (if near = true then wRem a b else wMod a b) := by
  obtain ⟨l1', l2', _, _⟩ := wLow_bd a b
  obtain ⟨hr, hfit⟩ := w_fit (a := a) hb
  have hv := wV_pos (a := a) hb
  have hml := Nat.mod_lt (wU a b) hv
  have no : fl = false → (if near = true then wRem a b else wMod a b) = wMod a b := fun h => by
    rw [h] at hfl
    cases near
    · rfl
    · rw [if_pos rfl]
      unfold wRem
      rw [Bool.true_and] at hfl
      rw [← hfl, if_neg (by decide)]
  cases hf : fl
  · rw [no hf]
    have hR := ref_round_ev hB hB2 (pM a) (e := wLow a b) (s := wU a b % wV a b) 0 (small_B hB2 (Nat.lt_trans hr (by decide))) (by have := blen_le_iff.2 hr; omega) (by omega) (by omega)
    have fl0 := wMod_fl (a := a) hb
    have e : wMod a b = ((wMod a b).1, 0) := Prod.ext rfl fl0
    rw [e]
    refine Ev.step (f := fun k => (r4_Round.f k (pM a) (wLow a b) (ln (wU a b % wV a b)) 0).bind fun bt684 => (some (bt684.1, 0))) (fun k => ?_) (Ev.bind hR (Ev.now _))
    simp only [r8_Rest.j3]
    rw [if_neg (by decide)]
  · rw [hf] at hfl
    have hn : near = true := by cases near; exact absurd hfl (by simp); rfl
    have hfp : wFlip a b = true := by rw [hn, Bool.true_and] at hfl; exact hfl.symm
    rw [if_pos hn]
    have hge : wV a b ≤ 2 * (wU a b % wV a b) := by
      unfold wFlip at hfp
      simp only [Bool.or_eq_true, Bool.and_eq_true, decide_eq_true_eq] at hfp
      omega
    have hd := hfit hge
    have hS := sub_ev hB hV (y := wU a b % wV a b) (by omega)
    have hR := ref_round_ev hB hB2 (!pM a) (e := wLow a b) (s := wV a b - wU a b % wV a b) 0 (small_B hB2 (Nat.lt_trans hd (by decide))) (by have := blen_le_iff.2 hd; omega) (by omega) (by omega)
    have fl0 := wRem_fl (a := a) hb
    have e : wRem a b = ((rRound (!pM a) (wLow a b) (wV a b - wU a b % wV a b) 0).1, 0) := by
      refine Prod.ext ?_ fl0
      unfold wRem
      rw [if_pos hfp]
    rw [e]
    refine Ev.step (f := fun k => (r2_Sub.f k (ln (wV a b)) (ln (wU a b % wV a b))).bind fun t679 => ((r4_Round.f k (!pM a) (wLow a b) t679 0).bind fun bt682 => (some (bt682.1, 0)))) (fun k => ?_) (Ev.bind hS (Ev.bind hR (Ev.now _)))
    simp only [r8_Rest.j3]
    rw [if_pos trivial]
theorem ref08_j2 {a b : Int} (ha : U a) (hb' : U b) (h1 : pC a < 3) (h2 : pC b < 3) (h3 : pC a ≠ 0) (h4 : pC b ≠ 0) (near : Bool) :
    Ev (fun k => r8_Rest.j2 k a near false (pM a) (pC a) (pX a) (pS a) (pM b) (pC b) (pX b) (pS b)) (if near = true then wRem a b else wMod a b) := by
  obtain ⟨B, hBe⟩ : ∃ B : Nat, B = 130000 := ⟨_, rfl⟩
  have hB : B + 1 ≤ 1000000 := by omega
  have hB' : B ≤ 1000000 := by omega
  have hB2 : 130000 ≤ B := by omega
  clear hBe
  have hb := pS_pos b h4 (by omega)
  have sa := pS_bd a
  have sb := pS_bd b
  have xa := pX_bd a
  have xb := pX_bd b
  have s53a := pS_53 a
  have s53b := pS_53 b
  have o1 := of_ev (U_pS a)
  have o2 := of_ev (U_pS b)
  obtain ⟨l1', l2', l3', l4'⟩ := wLow_bd a b
  have hv := wV_pos (a := a) hb
  have z1 := shl_ev hB' (x := (pS a).toNat) (small_B hB2 (by omega)) (pX a - wLow a b).toNat (by omega)
  have z2 := shl_ev hB' (x := (pS b).toNat) (small_B hB2 (by omega)) (pX b - wLow a b).toNat (by omega)
  have eU : (pS a).toNat * 2 ^ (pX a - wLow a b).toNat = wU a b := rfl
  have eV : (pS b).toNat * 2 ^ (pX b - wLow a b).toNat = wV a b := rfl
  rw [eU] at z1
  rw [eV] at z2
  have big : ∀ s n : Nat, s < 2 ^ 53 → n ≤ 3000 → s * 2 ^ n < 65536 ^ B := fun s n hs hn => by
    have := pow_B (B := B) (t := 53 + n) hB2 (by omega)
    rw [Nat.pow_add] at this
    exact Nat.lt_of_le_of_lt (Nat.mul_le_mul_right _ (Nat.le_of_lt hs)) this
  have hU := big (pS a).toNat (pX a - wLow a b).toNat s53a (by omega)
  have hV := big (pS b).toNat (pX b - wLow a b).toNat s53b (by omega)
  rw [eU] at hU
  rw [eV] at hV
  have hP := parts_ev hB hU hV (by omega)
  have hr := (w_fit (a := a) hb).1
  have z3 := shl_ev hB' (x := wU a b % wV a b) (small_B hB2 (Nat.lt_trans hr (by decide))) 1 (by omega)
  rw [Nat.pow_one, Nat.mul_comm] at z3
  have h2r : 2 * (wU a b % wV a b) < 65536 ^ B := small_B hB2 (by rw [show (2 : Nat) ^ 53 = 9007199254740992 from rfl] at hr; omega)
  have hC := cmp_ev hB' h2r hV
  have tail : Ev (fun k => (if near = true then (if cmpI (2 * (wU a b % wV a b)) (wV a b) > 0 then (r8_Rest.j3 k (wLow a b) (ln (wV a b)) (ln (wU a b % wV a b)) (pM a) true) else (if cmpI (2 * (wU a b % wV a b)) (wV a b) = 0 then (if ((ln (wU a b / wV a b)).length : Int) > 0 then (if 0 < ((ln (wU a b / wV a b)).length : Int) then (r8_Rest.j3 k (wLow a b) (ln (wV a b)) (ln (wU a b % wV a b)) (pM a) ((Int.tmod (rd (ln (wU a b / wV a b)) 0) 2) == 1)) else (none)) else (r8_Rest.j3 k (wLow a b) (ln (wV a b)) (ln (wU a b % wV a b)) (pM a) false)) else (r8_Rest.j3 k (wLow a b) (ln (wV a b)) (ln (wU a b % wV a b)) (pM a) false))) else (r8_Rest.j3 k (wLow a b) (ln (wV a b)) (ln (wU a b % wV a b)) (pM a) false))) (if near = true then wRem a b else wMod a b) := by
    have J := fun fl h => ref08_j3 hB' hB2 hb hV near fl h
    cases hn : near
    · rw [hn] at J
      exact Ev.congr (fun k => by rw [if_neg (by decide)]) (J false rfl)
    · rw [hn] at J
      by_cases g : cmpI (2 * (wU a b % wV a b)) (wV a b) > 0
      · have hf : true = (true && wFlip a b) := by
          have := cmp_gt.1 g
          unfold wFlip
          rw [decide_eq_true this]
          rfl
        exact Ev.congr (fun k => by rw [if_pos rfl, if_pos g]) (J true hf)
      · have g2 := mt cmp_gt.2 g
        by_cases z : cmpI (2 * (wU a b % wV a b)) (wV a b) = 0
        · have z4 := cmp_eq0.1 z
          have hf : decide (wU a b / wV a b % 2 = 1) = (true && wFlip a b) := by
            unfold wFlip
            rw [decide_eq_false g2, decide_eq_true z4.symm]
            rfl
          by_cases q0 : wU a b / wV a b = 0
          · rw [q0] at hf ⊢
            refine Ev.congr (fun k => ?_) (J false (by rw [← hf]; rfl))
            rw [if_pos rfl, if_neg g, if_pos z, ln_zero, if_neg (by simp)]
          · have hl : 0 < (ln (wU a b / wV a b)).length := ln_lt_iff.2 (by rw [Nat.pow_zero]; exact Nat.pos_of_ne_zero q0)
            have hrd : (Int.tmod (rd (ln (wU a b / wV a b)) 0) 2 == 1) = decide (wU a b / wV a b % 2 = 1) := by
              have := rd_ln (wU a b / wV a b) 0
              rw [show ((0 : Nat) : Int) = 0 from rfl] at this
              rw [this, Nat.pow_zero, Nat.div_one, Int.tmod_eq_emod_of_nonneg (by omega), Bool.eq_iff_iff]
              simp only [beq_iff_eq, decide_eq_true_eq]
              omega
            refine Ev.congr (fun k => ?_) (J _ hf)
            rw [if_pos rfl, if_neg g, if_pos z, if_pos (by omega), if_pos (by omega), hrd]
        · have z4 := mt cmp_eq0.2 z
          have hf : false = (true && wFlip a b) := by
            unfold wFlip
            rw [decide_eq_false g2, decide_eq_false (fun h => z4 h.symm)]
            rfl
          exact Ev.congr (fun k => by rw [if_pos rfl, if_neg g, if_neg z]) (J false hf)
  have hlow : mn (pX a) (pX b) = wLow a b := by unfold wLow mn; split <;> split <;> omega
  have ew1 : wrap64 (pX a - wLow a b) = (((pX a - wLow a b).toNat : Nat) : Int) := by unfold wrap64; omega
  have ew2 : wrap64 (pX b - wLow a b) = (((pX b - wLow a b).toNat : Nat) : Int) := by unfold wrap64; omega
  refine Ev.step (f := fun k => (r2_Of.f k (pS a)).bind fun t656 => ((r2_Shl.f k t656 (((pX a - wLow a b).toNat : Nat) : Int)).bind fun t659 => ((r2_Of.f k (pS b)).bind fun t662 => ((r2_Shl.f k t662 (((pX b - wLow a b).toNat : Nat) : Int)).bind fun t665 => ((r2_Parts.f k t659 t665).bind fun bt668 => ((r2_Shl.f k bt668.2 1).bind fun t674 => ((r2_Cmp.f k t674 t665).bind fun t677 => (if near = true then (if t677 > 0 then (r8_Rest.j3 k (wLow a b) t665 bt668.2 (pM a) true) else (if t677 = 0 then (if (bt668.1.length : Int) > 0 then (if 0 < (bt668.1.length : Int) then (r8_Rest.j3 k (wLow a b) t665 bt668.2 (pM a) ((Int.tmod (rd bt668.1 0) 2) == 1)) else (none)) else (r8_Rest.j3 k (wLow a b) t665 bt668.2 (pM a) false)) else (r8_Rest.j3 k (wLow a b) t665 bt668.2 (pM a) false))) else (r8_Rest.j3 k (wLow a b) t665 bt668.2 (pM a) false))))))))) (fun k => ?_) (Ev.bind o1 (Ev.bind z1 (Ev.bind o2 (Ev.bind z2 (Ev.bind hP (Ev.bind z3 (Ev.bind hC tail)))))))
  simp only [r8_Rest.j2]
  rw [if_neg (by decide), hlow, ew1, ew2]
theorem ref08_rest_ev {a b : Int} (ha : U a) (hb : U b) (near : Bool) : Ev (fun k => r8_Rest.f k a b near) (qRests a b (if near = true then wRem a b else wMod a b)) := by
  have ca := pC_bd a
  have cb := pC_bd b
  have nanj : 3 < pC a ∨ 3 < pC b → Ev (fun k => r8_Rest.j0 k a b near true (pM a) (pC a) (pX a) (pS a) (pM b) (pC b) (pX b) (pS b)) (qRests a b (if near = true then wRem a b else wMod a b)) := fun h => by
    unfold qRests
    rw [if_pos h]
    refine Ev.step (f := fun _ => some _) (fun k => ?_) (Ev.now _)
    simp only [r8_Rest.j0]
    rw [if_pos trivial, none5_eq ha hb]
    rfl
  have main : ¬ (3 < pC a ∨ 3 < pC b) → Ev (fun k => r8_Rest.j0 k a b near false (pM a) (pC a) (pX a) (pS a) (pM b) (pC b) (pX b) (pS b)) (qRests a b (if near = true then wRem a b else wMod a b)) := fun h => by
    unfold qRests
    rw [if_neg h]
    by_cases n3 : pC a = 3 ∨ pC b = 0
    · rw [if_pos n3]
      have t : Ev (fun k => r8_Rest.j1 k a near true (pM a) (pC a) (pX a) (pS a) (pM b) (pC b) (pX b) (pS b)) (9221120237041090560, 1) := by
        refine Ev.step (f := fun _ => some _) (fun k => ?_) (Ev.now _)
        simp only [r8_Rest.j1]
        rw [if_pos trivial]
      refine Ev.step (fun k => ?_) t
      simp only [r8_Rest.j0]
      rw [if_neg (by decide)]
      by_cases n4 : pC a = 3
      · rw [if_pos n4]
      · rw [if_neg n4, beq_iff_eq.mpr (by omega : pC b = 0)]
    · rw [if_neg n3]
      have s1 : ∀ k, r8_Rest.j0 (k + 1) a b near false (pM a) (pC a) (pX a) (pS a) (pM b) (pC b) (pX b) (pS b) = r8_Rest.j1 k a near false (pM a) (pC a) (pX a) (pS a) (pM b) (pC b) (pX b) (pS b) := fun k => by
        simp only [r8_Rest.j0]
        rw [if_neg (by decide), if_neg (by omega), beq_eq_false_iff_ne.mpr (by omega : pC b ≠ 0)]
      by_cases n5 : pC b = 3 ∨ pC a = 0
      · rw [if_pos n5]
        have t : Ev (fun k => r8_Rest.j2 k a near true (pM a) (pC a) (pX a) (pS a) (pM b) (pC b) (pX b) (pS b)) (a, 0) := by
          refine Ev.step (f := fun _ => some _) (fun k => ?_) (Ev.now _)
          simp only [r8_Rest.j2]
          rw [if_pos trivial]
        refine Ev.step s1 (Ev.step (fun k => ?_) t)
        simp only [r8_Rest.j1]
        rw [if_neg (by decide)]
        by_cases n6 : pC b = 3
        · rw [if_pos n6]
        · rw [if_neg n6, beq_iff_eq.mpr (by omega : pC a = 0)]
      · rw [if_neg n5]
        refine Ev.step s1 (Ev.step (fun k => ?_) (ref08_j2 ha hb (by omega) (by omega) (by omega) (by omega) near))
        simp only [r8_Rest.j1]
        rw [if_neg (by decide), if_neg (by omega), beq_eq_false_iff_ne.mpr (by omega : pC a ≠ 0)]
  by_cases n1 : 3 < pC a
  · refine Ev.congr (fun k => ?_) (nanj (.inl n1))
    unfold r8_Rest.f
    rw [r3_Take.eq a (inU_of ha), Option.bind_some, r3_Take.eq b (inU_of hb), Option.bind_some, r3_NaN.eq a (inU_of ha), Option.bind_some, decide_eq_true n1, if_pos rfl]
  · by_cases n2 : 3 < pC b
    · refine Ev.congr (fun k => ?_) (nanj (.inr n2))
      unfold r8_Rest.f
      rw [r3_Take.eq a (inU_of ha), Option.bind_some, r3_Take.eq b (inU_of hb), Option.bind_some, r3_NaN.eq a (inU_of ha), Option.bind_some, decide_eq_false n1, if_neg (by decide), r3_NaN.eq b (inU_of hb), Option.bind_some, decide_eq_true n2]
    · refine Ev.congr (fun k => ?_) (main (fun h => h.elim n1 n2))
      unfold r8_Rest.f
      rw [r3_Take.eq a (inU_of ha), Option.bind_some, r3_Take.eq b (inU_of hb), Option.bind_some, r3_NaN.eq a (inU_of ha), Option.bind_some, decide_eq_false n1, if_neg (by decide), r3_NaN.eq b (inU_of hb), Option.bind_some, decide_eq_false n2]
end Go.Proofs.Ytfnkmedajchbgaa
end
section
namespace Go.Proofs.Ytfnkmedajchbgaa
open Go.RowKit X Go.Proofs.YtfnkmedajchbgaaW.PrintWords
theorem qRests_fl {a b : Int} (main : Int × Int) (h : pC b ≠ 0 → pC b < 3 → main.2 = 0) : 0 ≤ (qRests a b main).2 ∧ (qRests a b main).2 ≤ 255 := by
  have cb := pC_bd b
  unfold qRests qNone
  by_cases n1 : 3 < pC a ∨ 3 < pC b
  · rw [if_pos n1]; dsimp only; split <;> omega
  · rw [if_neg n1]
    by_cases n2 : pC a = 3 ∨ pC b = 0
    · rw [if_pos n2]; dsimp only; omega
    · rw [if_neg n2]
      by_cases n3 : pC b = 3 ∨ pC a = 0
      · rw [if_pos n3]; dsimp only; omega
      · rw [if_neg n3, h (by omega) (by omega)]; omega
theorem WholeRests : tillerlaw08_WholeRests.Pure := by
  intro a b w0 w1
  have ha := U_wf w0
  have hb := U_wf w1
  obtain ⟨K1, h1⟩ := ref08_rest_ev ha hb true
  replace h1 : ∀ k, K1 ≤ k → r8_Rest.f k a b true = some (qRests a b (wRem a b)) := h1
  obtain ⟨K2, h2⟩ := ref08_rest_ev ha hb false
  replace h2 : ∀ k, K2 ≤ k → r8_Rest.f k a b false = some (qRests a b (wMod a b)) := h2
  have f1 := qRests_fl (a := a) (b := b) (wRem a b) (fun g g2 => wRem_fl (pS_pos b g (by omega)))
  have f2 := qRests_fl (a := a) (b := b) (wMod a b) (fun g g2 => wMod_fl (pS_pos b g (by omega)))
  refine ⟨K1 + K2 + 36, ?_⟩
  unfold tillerlaw08_WholeRests.f
  rw [rem_spec (K1 + K2) ha hb, Option.bind_some, h1 _ (by omega), Option.bind_some, mod_spec (K1 + K2) ha hb, Option.bind_some, h2 _ (by omega), Option.bind_some, if_pos rfl, if_pos (by unfold wrap64; omega), if_pos rfl, if_pos (by unfold wrap64; omega), show tillerlaw08_sure.f (K1 + K2 + 36) = some true from sure8 (K1 + K2 + 24)]
  rfl
end Go.Proofs.Ytfnkmedajchbgaa
end
section
namespace Go.Proofs.Ytfnkmedajchbgaa.Pure
theorem WholeRests : Go.Proofs.Ytfnkmedajchbgaa.X.tillerlaw08_WholeRests.Pure := Go.Proofs.Ytfnkmedajchbgaa.WholeRests
end Go.Proofs.Ytfnkmedajchbgaa.Pure
end
