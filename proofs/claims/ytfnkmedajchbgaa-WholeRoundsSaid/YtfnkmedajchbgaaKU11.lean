import Derived.Test.YtfnkmedajchbgaaKU4
import Derived.Test.YtfnkmedajchbgaaKUXwholeMod
import Derived.Test.YtfnkmedajchbgaaKUXwholeRem
import Derived.Test.YtfnkmedajchbgaaKUXrndWhole
import Derived.Test.YtfnkmedajchbgaaKUXwholeRound
section
namespace Go.Proofs.Ytfnkmedajchbgaa.X
open Go.RowKit Go.Proofs.YtfnkmedajchbgaaW.PrintWords Go.Proofs.YtfnkmedajchbgaaW.PrintLast Go.Proofs.YtfnkmedajchbgaaW.PrintMore
attribute [local go_sem] max2_int min2_int max_two min_two max_three min_three max_four min_four   
set_option linter.unusedVariables false
set_option linter.unusedSimpArgs false
def tillerlaw08_sure.f (k : Nat)  : Option (Bool) := (whole_Rem.f k 4617315517961601024 4613937818241073152).bind fun q8 => ((whole_Mod.f k 4617315517961601024 4613937818241073152).bind fun q6 => ((whole_Round.f k 4612811918334230528 0 true).bind fun q5 => (if q8.1 = 13830554455654793216 then (if q8.2 = 0 then (if q6.1 = 4611686018427387904 then (if q6.2 = 0 then (if q5.1 = 4611686018427387904 then (some (q5.2 == 16)) else (some false)) else (some false)) else (some false)) else (some false)) else (some false))))
theorem tillerlaw08_sure.mono : ∀ k, LeO (tillerlaw08_sure.f k ) (tillerlaw08_sure.f (k + 1) ) := by
 intro  k
 unfold tillerlaw08_sure.f
 repeat' first
  | (with_reducible exact whole_Mod.mono _ _ _)
  | (with_reducible exact whole_Rem.mono _ _ _)
  | (with_reducible exact whole_Round.mono _ _ _ _)
  | (with_reducible exact LeO.refl _)
  | (with_reducible exact LeO.none _)
  | (with_reducible refine LeO.ite ?_ ?_)
  | (with_reducible refine LeO.bind ?_ (fun _ => ?_))
  | exact whole_Mod.mono _ _ _
  | exact whole_Rem.mono _ _ _
  | exact whole_Round.mono _ _ _ _
  | exact LeO.none _
  | refine LeO.ite ?_ ?_
  | refine LeO.bind ?_ (fun _ => ?_)
set_option maxHeartbeats 8000000 in
set_option maxRecDepth 100000 in
theorem tillerlaw08_sure.calls (k : Nat)  (r : Bool) (w : World) (h : tillerlaw08_sure.f k  = some r) :
 Calls Try.prog 20 #[] w fun e w' => e = .returned (.bool r) ∧ Below w.heap.size w w' := by
 have HB := Aside0.mk (Below.refl w.heap.size w); have H : ((whole_Rem.f k 4617315517961601024 4613937818241073152).bind fun q8 => ((whole_Mod.f k 4617315517961601024 4613937818241073152).bind fun q6 => ((whole_Round.f k 4612811918334230528 0 true).bind fun q5 => (if q8.1 = 13830554455654793216 then (if q8.2 = 0 then (if q6.1 = 4611686018427387904 then (if q6.2 = 0 then (if q5.1 = 4611686018427387904 then (some (q5.2 == 16)) else (some false)) else (some false)) else (some false)) else (some false)) else (some false))))) = some r := h; clear h; replace H := Option.bind_eq_some_iff.mp H; obtain ⟨⟨q0, q1⟩, A10, H⟩ := H; replace H : ((whole_Mod.f k 4617315517961601024 4613937818241073152).bind fun q6 => ((whole_Round.f k 4612811918334230528 0 true).bind fun q5 => (if q0 = 13830554455654793216 then (if q1 = 0 then (if q6.1 = 4611686018427387904 then (if q6.2 = 0 then (if q5.1 = 4611686018427387904 then (some (q5.2 == 16)) else (some false)) else (some false)) else (some false)) else (some false)) else (some false)))) = some r := H; have A1 := Aside0.mk A10; clear A10; replace H := Option.bind_eq_some_iff.mp H; obtain ⟨⟨q2, q3⟩, A20, H⟩ := H; replace H : ((whole_Round.f k 4612811918334230528 0 true).bind fun q5 => (if q0 = 13830554455654793216 then (if q1 = 0 then (if q2 = 4611686018427387904 then (if q3 = 0 then (if q5.1 = 4611686018427387904 then (some (q5.2 == 16)) else (some false)) else (some false)) else (some false)) else (some false)) else (some false))) = some r := H; have A2 := Aside0.mk A20; clear A20; replace H := Option.bind_eq_some_iff.mp H; obtain ⟨⟨q4, q7⟩, A30, H⟩ := H; replace H : (if q0 = 13830554455654793216 then (if q1 = 0 then (if q2 = 4611686018427387904 then (if q3 = 0 then (if q4 = 4611686018427387904 then (some (q7 == 16)) else (some false)) else (some false)) else (some false)) else (some false)) else (some false)) = some r := H; have A3 := Aside0.mk A30; clear A30
 by_cases c4 : q0 = 13830554455654793216
 · rw [if_pos c4] at H
   have q9 : (q0 == 13830554455654793216) = true := beq_iff_eq.mpr c4; have qa : (q0 != 13830554455654793216) = false := bne_eq_false_iff_eq.mpr c4; clear c4
   by_cases c5 : q1 = 0
   · rw [if_pos c5] at H
     have qb : (q1 == 0) = true := beq_iff_eq.mpr c5; have qc : (q1 != 0) = false := bne_eq_false_iff_eq.mpr c5; clear c5
     by_cases c6 : q2 = 4611686018427387904
     · rw [if_pos c6] at H
       have qd : (q2 == 4611686018427387904) = true := beq_iff_eq.mpr c6; have qe : (q2 != 4611686018427387904) = false := bne_eq_false_iff_eq.mpr c6; clear c6
       by_cases c7 : q3 = 0
       · rw [if_pos c7] at H
         have qf : (q3 == 0) = true := beq_iff_eq.mpr c7; have qg : (q3 != 0) = false := bne_eq_false_iff_eq.mpr c7; clear c7
         by_cases c8 : q4 = 4611686018427387904
         · rw [if_pos c8] at H
           have qh : (q4 == 4611686018427387904) = true := beq_iff_eq.mpr c8; have qi : (q4 != 4611686018427387904) = false := bne_eq_false_iff_eq.mpr c8; clear c8; obtain rfl := Option.some.inj H
           go_enter Try.func20, Try.ntmps20
           go_wp2_with (first | ((with_reducible refine gate_callee (f := 17) rfl ?_); refine goesL_ (some 8) rfl rfl Try.func17 (by kernel_rfl) rfl #[.int .u64 4617315517961601024, .int .u64 4613937818241073152] rfl LMq ?_; (with_reducible refine (whole_Rem.calls k 4617315517961601024 4613937818241073152 q0 q1 _ A1.out).mono ?_); rintro e w9 ⟨rfl, hb⟩; refine ⟨_, rfl, ?_⟩; replace HB := Aside0.mk (below_step (kH HB) hb); (try clear hb); (try clear hb2); (try clear hk); (try clear hi)) | ((with_reducible refine gate_callee (f := 19) rfl ?_); refine goesL_ (some 12) rfl rfl Try.func19 (by kernel_rfl) rfl #[.int .u64 4617315517961601024, .int .u64 4613937818241073152] rfl LMq ?_; (with_reducible refine (whole_Mod.calls k 4617315517961601024 4613937818241073152 q2 q3 _ A2.out).mono ?_); rintro e w10 ⟨rfl, hb⟩; refine ⟨_, rfl, ?_⟩; replace HB := Aside0.mk (below_step (kH HB) hb); (try clear hb); (try clear hb2); (try clear hk); (try clear hi)) | ((with_reducible refine gate_callee (f := 21) rfl ?_); refine goesL_ (some 16) rfl rfl Try.func21 (by kernel_rfl) rfl #[.int .u64 4612811918334230528, .int .i64 0, .bool true] rfl LMq ?_; (with_reducible refine (whole_Round.calls k 4612811918334230528 0 true q4 q7 _ A3.out).mono ?_); rintro e w11 ⟨rfl, hb⟩; refine ⟨_, rfl, ?_⟩; replace HB := Aside0.mk (below_step (kH HB) hb); (try clear hb); (try clear hb2); (try clear hk); (try clear hi)))
           go_ret
           exact ⟨by first | rfl | (simp [errW_none, errW_some] <;> rfl) | (simp [*, errW_none, errW_some] <;> rfl), kH HB⟩
         rw [if_neg c8] at H
         have qh : (q4 == 4611686018427387904) = false := beq_eq_false_iff_ne.mpr c8; have qi : (q4 != 4611686018427387904) = true := bne_iff_ne.mpr c8; obtain rfl := Option.some.inj H
         go_enter Try.func20, Try.ntmps20
         go_wp2_with (first | ((with_reducible refine gate_callee (f := 17) rfl ?_); refine goesL_ (some 8) rfl rfl Try.func17 (by kernel_rfl) rfl #[.int .u64 4617315517961601024, .int .u64 4613937818241073152] rfl LMq ?_; (with_reducible refine (whole_Rem.calls k 4617315517961601024 4613937818241073152 q0 q1 _ A1.out).mono ?_); rintro e w12 ⟨rfl, hb⟩; refine ⟨_, rfl, ?_⟩; replace HB := Aside0.mk (below_step (kH HB) hb); (try clear hb); (try clear hb2); (try clear hk); (try clear hi)) | ((with_reducible refine gate_callee (f := 19) rfl ?_); refine goesL_ (some 12) rfl rfl Try.func19 (by kernel_rfl) rfl #[.int .u64 4617315517961601024, .int .u64 4613937818241073152] rfl LMq ?_; (with_reducible refine (whole_Mod.calls k 4617315517961601024 4613937818241073152 q2 q3 _ A2.out).mono ?_); rintro e w13 ⟨rfl, hb⟩; refine ⟨_, rfl, ?_⟩; replace HB := Aside0.mk (below_step (kH HB) hb); (try clear hb); (try clear hb2); (try clear hk); (try clear hi)) | ((with_reducible refine gate_callee (f := 21) rfl ?_); refine goesL_ (some 16) rfl rfl Try.func21 (by kernel_rfl) rfl #[.int .u64 4612811918334230528, .int .i64 0, .bool true] rfl LMq ?_; (with_reducible refine (whole_Round.calls k 4612811918334230528 0 true q4 q7 _ A3.out).mono ?_); rintro e w14 ⟨rfl, hb⟩; refine ⟨_, rfl, ?_⟩; replace HB := Aside0.mk (below_step (kH HB) hb); (try clear hb); (try clear hb2); (try clear hk); (try clear hi)))
         go_ret
         exact ⟨by first | rfl | (simp [errW_none, errW_some] <;> rfl) | (simp [*, errW_none, errW_some] <;> rfl), kH HB⟩
       rw [if_neg c7] at H
       have qf : (q3 == 0) = false := beq_eq_false_iff_ne.mpr c7; have qg : (q3 != 0) = true := bne_iff_ne.mpr c7; obtain rfl := Option.some.inj H
       go_enter Try.func20, Try.ntmps20
       go_wp2_with (first | ((with_reducible refine gate_callee (f := 17) rfl ?_); refine goesL_ (some 8) rfl rfl Try.func17 (by kernel_rfl) rfl #[.int .u64 4617315517961601024, .int .u64 4613937818241073152] rfl LMq ?_; (with_reducible refine (whole_Rem.calls k 4617315517961601024 4613937818241073152 q0 q1 _ A1.out).mono ?_); rintro e w15 ⟨rfl, hb⟩; refine ⟨_, rfl, ?_⟩; replace HB := Aside0.mk (below_step (kH HB) hb); (try clear hb); (try clear hb2); (try clear hk); (try clear hi)) | ((with_reducible refine gate_callee (f := 19) rfl ?_); refine goesL_ (some 12) rfl rfl Try.func19 (by kernel_rfl) rfl #[.int .u64 4617315517961601024, .int .u64 4613937818241073152] rfl LMq ?_; (with_reducible refine (whole_Mod.calls k 4617315517961601024 4613937818241073152 q2 q3 _ A2.out).mono ?_); rintro e w16 ⟨rfl, hb⟩; refine ⟨_, rfl, ?_⟩; replace HB := Aside0.mk (below_step (kH HB) hb); (try clear hb); (try clear hb2); (try clear hk); (try clear hi)) | ((with_reducible refine gate_callee (f := 21) rfl ?_); refine goesL_ (some 16) rfl rfl Try.func21 (by kernel_rfl) rfl #[.int .u64 4612811918334230528, .int .i64 0, .bool true] rfl LMq ?_; (with_reducible refine (whole_Round.calls k 4612811918334230528 0 true q4 q7 _ A3.out).mono ?_); rintro e w17 ⟨rfl, hb⟩; refine ⟨_, rfl, ?_⟩; replace HB := Aside0.mk (below_step (kH HB) hb); (try clear hb); (try clear hb2); (try clear hk); (try clear hi)))
       go_ret
       exact ⟨by first | rfl | (simp [errW_none, errW_some] <;> rfl) | (simp [*, errW_none, errW_some] <;> rfl), kH HB⟩
     rw [if_neg c6] at H
     have qd : (q2 == 4611686018427387904) = false := beq_eq_false_iff_ne.mpr c6; have qe : (q2 != 4611686018427387904) = true := bne_iff_ne.mpr c6; obtain rfl := Option.some.inj H
     go_enter Try.func20, Try.ntmps20
     go_wp2_with (first | ((with_reducible refine gate_callee (f := 17) rfl ?_); refine goesL_ (some 8) rfl rfl Try.func17 (by kernel_rfl) rfl #[.int .u64 4617315517961601024, .int .u64 4613937818241073152] rfl LMq ?_; (with_reducible refine (whole_Rem.calls k 4617315517961601024 4613937818241073152 q0 q1 _ A1.out).mono ?_); rintro e w18 ⟨rfl, hb⟩; refine ⟨_, rfl, ?_⟩; replace HB := Aside0.mk (below_step (kH HB) hb); (try clear hb); (try clear hb2); (try clear hk); (try clear hi)) | ((with_reducible refine gate_callee (f := 19) rfl ?_); refine goesL_ (some 12) rfl rfl Try.func19 (by kernel_rfl) rfl #[.int .u64 4617315517961601024, .int .u64 4613937818241073152] rfl LMq ?_; (with_reducible refine (whole_Mod.calls k 4617315517961601024 4613937818241073152 q2 q3 _ A2.out).mono ?_); rintro e w19 ⟨rfl, hb⟩; refine ⟨_, rfl, ?_⟩; replace HB := Aside0.mk (below_step (kH HB) hb); (try clear hb); (try clear hb2); (try clear hk); (try clear hi)) | ((with_reducible refine gate_callee (f := 21) rfl ?_); refine goesL_ (some 16) rfl rfl Try.func21 (by kernel_rfl) rfl #[.int .u64 4612811918334230528, .int .i64 0, .bool true] rfl LMq ?_; (with_reducible refine (whole_Round.calls k 4612811918334230528 0 true q4 q7 _ A3.out).mono ?_); rintro e w20 ⟨rfl, hb⟩; refine ⟨_, rfl, ?_⟩; replace HB := Aside0.mk (below_step (kH HB) hb); (try clear hb); (try clear hb2); (try clear hk); (try clear hi)))
     go_ret
     exact ⟨by first | rfl | (simp [errW_none, errW_some] <;> rfl) | (simp [*, errW_none, errW_some] <;> rfl), kH HB⟩
   rw [if_neg c5] at H
   have qb : (q1 == 0) = false := beq_eq_false_iff_ne.mpr c5; have qc : (q1 != 0) = true := bne_iff_ne.mpr c5; obtain rfl := Option.some.inj H
   go_enter Try.func20, Try.ntmps20
   go_wp2_with (first | ((with_reducible refine gate_callee (f := 17) rfl ?_); refine goesL_ (some 8) rfl rfl Try.func17 (by kernel_rfl) rfl #[.int .u64 4617315517961601024, .int .u64 4613937818241073152] rfl LMq ?_; (with_reducible refine (whole_Rem.calls k 4617315517961601024 4613937818241073152 q0 q1 _ A1.out).mono ?_); rintro e w21 ⟨rfl, hb⟩; refine ⟨_, rfl, ?_⟩; replace HB := Aside0.mk (below_step (kH HB) hb); (try clear hb); (try clear hb2); (try clear hk); (try clear hi)) | ((with_reducible refine gate_callee (f := 19) rfl ?_); refine goesL_ (some 12) rfl rfl Try.func19 (by kernel_rfl) rfl #[.int .u64 4617315517961601024, .int .u64 4613937818241073152] rfl LMq ?_; (with_reducible refine (whole_Mod.calls k 4617315517961601024 4613937818241073152 q2 q3 _ A2.out).mono ?_); rintro e w22 ⟨rfl, hb⟩; refine ⟨_, rfl, ?_⟩; replace HB := Aside0.mk (below_step (kH HB) hb); (try clear hb); (try clear hb2); (try clear hk); (try clear hi)) | ((with_reducible refine gate_callee (f := 21) rfl ?_); refine goesL_ (some 16) rfl rfl Try.func21 (by kernel_rfl) rfl #[.int .u64 4612811918334230528, .int .i64 0, .bool true] rfl LMq ?_; (with_reducible refine (whole_Round.calls k 4612811918334230528 0 true q4 q7 _ A3.out).mono ?_); rintro e w23 ⟨rfl, hb⟩; refine ⟨_, rfl, ?_⟩; replace HB := Aside0.mk (below_step (kH HB) hb); (try clear hb); (try clear hb2); (try clear hk); (try clear hi)))
   go_ret
   exact ⟨by first | rfl | (simp [errW_none, errW_some] <;> rfl) | (simp [*, errW_none, errW_some] <;> rfl), kH HB⟩
 rw [if_neg c4] at H
 have q9 : (q0 == 13830554455654793216) = false := beq_eq_false_iff_ne.mpr c4; have qa : (q0 != 13830554455654793216) = true := bne_iff_ne.mpr c4; obtain rfl := Option.some.inj H
 go_enter Try.func20, Try.ntmps20
 go_wp2_with (first | ((with_reducible refine gate_callee (f := 17) rfl ?_); refine goesL_ (some 8) rfl rfl Try.func17 (by kernel_rfl) rfl #[.int .u64 4617315517961601024, .int .u64 4613937818241073152] rfl LMq ?_; (with_reducible refine (whole_Rem.calls k 4617315517961601024 4613937818241073152 q0 q1 _ A1.out).mono ?_); rintro e w24 ⟨rfl, hb⟩; refine ⟨_, rfl, ?_⟩; replace HB := Aside0.mk (below_step (kH HB) hb); (try clear hb); (try clear hb2); (try clear hk); (try clear hi)) | ((with_reducible refine gate_callee (f := 19) rfl ?_); refine goesL_ (some 12) rfl rfl Try.func19 (by kernel_rfl) rfl #[.int .u64 4617315517961601024, .int .u64 4613937818241073152] rfl LMq ?_; (with_reducible refine (whole_Mod.calls k 4617315517961601024 4613937818241073152 q2 q3 _ A2.out).mono ?_); rintro e w25 ⟨rfl, hb⟩; refine ⟨_, rfl, ?_⟩; replace HB := Aside0.mk (below_step (kH HB) hb); (try clear hb); (try clear hb2); (try clear hk); (try clear hi)) | ((with_reducible refine gate_callee (f := 21) rfl ?_); refine goesL_ (some 16) rfl rfl Try.func21 (by kernel_rfl) rfl #[.int .u64 4612811918334230528, .int .i64 0, .bool true] rfl LMq ?_; (with_reducible refine (whole_Round.calls k 4612811918334230528 0 true q4 q7 _ A3.out).mono ?_); rintro e w26 ⟨rfl, hb⟩; refine ⟨_, rfl, ?_⟩; replace HB := Aside0.mk (below_step (kH HB) hb); (try clear hb); (try clear hb2); (try clear hk); (try clear hi)))
 go_ret
 exact ⟨by first | rfl | (simp [errW_none, errW_some] <;> rfl) | (simp [*, errW_none, errW_some] <;> rfl), kH HB⟩
end Go.Proofs.Ytfnkmedajchbgaa.X
end
section
namespace Go.Proofs.Ytfnkmedajchbgaa
set_option linter.unusedVariables false
set_option linter.unusedSimpArgs false
open Go.RowKit X
theorem nil_all {r : Nat} (h : r < T256) : (l0 r == 0 && (l1 r == 0 && (l2 r == 0 && l3 r == 0))) = decide (r = 0) := by
  have := l_eq_zero h
  rw [Bool.eq_iff_iff]
  simp only [Bool.and_eq_true, beq_iff_eq, decide_eq_true_eq]
  rw [← this]
theorem tQ_zero (mi : Bool) (x n m : Int) : tQ mi x 0 n m = 0 := by
  unfold tQ tU cutH cutR
  split
  · rw [Nat.zero_mul]
  · next h =>
    simp [upB_no]
theorem odd_zero (x n : Int) : rOdd 0 x n = false := by
  unfold rOdd cutH cutR
  split
  · rfl
  · rw [Nat.zero_div, Nat.zero_mod]; rfl
theorem tQ_neg {mi : Bool} {x n m : Int} {s : Nat} (h : x < n) : tQ mi x s n m = cutQ s x n + if upB m mi (decide (cutQ s x n % 2 = 1)) (cutH s x n) (cutR s x n) = true then 1 else 0 := by
  have hn : ¬ n ≤ x := by omega
  unfold tQ tU cutQ
  rw [if_neg hn, if_neg hn]
theorem whole_pos (k : Nat) (mi : Bool) (x : Int) (a b c d m : Int) (h : 0 ≤ x) : rnd_Whole.f (k + 1) mi x a b c d false m = some (mi, x, a, b, c, d, false, false) := by
  unfold rnd_Whole.f
  by_cases g : x > 0
  · rw [if_pos g]
    simp only [rnd_Whole.j0]
    rw [if_pos trivial]
  · rw [if_neg g, if_pos (by omega)]
    simp only [rnd_Whole.j0]
    rw [if_pos (by rfl)]
theorem whole_j3 (k : Nat) (mi : Bool) {x : Int} {s : Nat} (m : Int) (hs : s < 2 ^ 254) (h0 : -131072 ≤ x) (h1 : x < 0) :
    rnd_Whole.j3 (k + 1) m false mi x (l0 s) (l1 s) (l2 s) (l3 s) false = some (mi, 0, l0 (tQ mi x s 0 m), l1 (tQ mi x s 0 m), l2 (tQ mi x s 0 m), l3 (tQ mi x s 0 m), false, rOdd s x 0) := by
  have hT : s < T256 := by rw [T256_eq]; exact Nat.lt_trans hs (by decide)
  have hq := cutQ_lt s x 0 hT
  have hq2 : cutQ s x 0 < 2 ^ 254 := by
    unfold cutQ
    rw [if_neg (by omega)]
    exact Nat.lt_of_le_of_lt (Nat.div_le_self _ _) hs
  have eC := rnd_Num_cut.eq hT mi x false 0 rfl (by omega) (by omega) (by omega) (by omega)
  have hsm : cutQ s x 0 + Int.toNat 1 < T256 := by
    rw [T256_eq, show Int.toNat 1 = 1 from rfl]
    have : (2 : Nat) ^ 254 < 2 ^ 256 := by decide
    omega
  have eA := wide_Add.eq hq (show Int.toNat 1 < T256 by decide)
  rw [Nat.mod_eq_of_lt hsm, decide_eq_false (by omega)] at eA
  have eO := wide_Of.eq 1 (by decide)
  rw [tQ_neg h1]
  have hodd : rOdd s x 0 = (cutH s x 0 || cutR s x 0) := rfl
  simp only [rnd_Whole.j3]
  rw [if_neg (by decide), eC]
  simp only [Option.bind_some]
  rw [low_bit]
  unfold rnd_up.f
  simp only [Option.bind_some]
  cases hu : upB m mi (decide (cutQ s x 0 % 2 = 1)) (cutH s x 0) (cutR s x 0)
  · simp only [Bool.false_eq_true, if_false, Nat.add_zero, hodd]
    cases cutH s x 0 <;> simp
  · simp only [if_true]
    rw [eO]
    simp only [Option.bind_some]
    rw [eA]
    simp only [Option.bind_some, Bool.false_eq_true, if_false, hodd]
    rw [show Int.toNat 1 = 1 from rfl]
    cases cutH s x 0 <;> simp
theorem whole_neg (k : Nat) (mi : Bool) {x : Int} {s : Nat} (m : Int) (hs : s < 2 ^ 254) (h0 : -131072 ≤ x) (h1 : x < 0) :
    rnd_Whole.f (k + 4) mi x (l0 s) (l1 s) (l2 s) (l3 s) false m = some (mi, 0, l0 (tQ mi x s 0 m), l1 (tQ mi x s 0 m), l2 (tQ mi x s 0 m), l3 (tQ mi x s 0 m), false, rOdd s x 0) := by
  have hT : s < T256 := by rw [T256_eq]; exact Nat.lt_trans hs (by decide)
  have eN := rnd_Num_near.eq hT mi x false h0 (by omega)
  have eE := rnd_Num_exact.eq hT mi x false hs h0 (by omega)
  unfold rnd_Whole.f
  rw [if_neg (by omega), if_neg (by omega)]
  simp only [rnd_Whole.j0]
  rw [if_neg (by decide), eN]
  simp only [Option.bind_some]
  rw [if_pos h1]
  simp only [rnd_Whole.j1]
  rw [if_pos trivial, eE, if_neg (by decide)]
  simp only [Option.bind_some]
  simp only [rnd_Whole.j2]
  rw [nil_all hT]
  by_cases z : s = 0
  · rw [decide_eq_true z, if_pos rfl]
    simp only [rnd_Whole.j3]
    rw [if_pos (by rfl)]
    subst z
    rw [tQ_zero, odd_zero]
    rfl
  · rw [decide_eq_false z, if_neg (by decide)]
    exact whole_j3 k mi m hs h0 h1
end Go.Proofs.Ytfnkmedajchbgaa
end
section
namespace Go.Proofs.Ytfnkmedajchbgaa
set_option linter.unusedVariables false
set_option linter.unusedSimpArgs false
open Go.RowKit X
theorem wround_spec (k : Nat) {a : Int} (m : Int) (told : Bool) (ha : U a) : whole_Round.f (k + 4) a m told = some (wRnd a m told) := by
  have hc := pC_bd a
  have hx := pX_bd a
  have hs := pS_53 a
  unfold whole_Round.f wRnd
  rw [rnd_Of.eq a (inU_of ha), pat_IsNaN.eq a (inU_of ha)]
  by_cases c5 : 3 < pC a
  · rw [if_neg (by omega), Option.bind_some, Option.bind_some, decide_eq_true c5, if_pos rfl, if_pos c5, whole_none_eq ha ha]
    rfl
  · rw [if_neg c5]
    by_cases c3 : pC a = 3
    · rw [if_neg (by omega), Option.bind_some, Option.bind_some, decide_eq_false c5, if_neg (by decide), if_neg (by decide), if_pos c3]
    · rw [if_pos (by omega), Option.bind_some, Option.bind_some, decide_eq_false c5, if_neg (by decide), if_pos (by rfl), if_neg c3]
      by_cases c : 0 ≤ pX a
      · rw [whole_pos (k + 3) (pM a) (pX a) _ _ _ _ m c, if_pos c]
        simp only [Option.bind_some]
        have e := round_exact ha (by omega) 0 0
        rw [Nat.pow_zero, Nat.mul_one, show pX a - ((0 : Nat) : Int) = pX a by omega] at e
        rw [rnd_eq (pM a) 0 (Nat.lt_trans hs (by decide)) (by omega) (by omega), e]
        rfl
      · rw [whole_neg k (pM a) (x := pX a) m (Nat.lt_trans hs (by decide)) (by omega) (by omega), if_neg c]
        simp only [Option.bind_some]
        have hq := wQ_lt m (show pX a < 0 by omega)
        unfold wQ at hq ⊢
        rw [rnd_eq (pM a) 0 (Nat.lt_trans hq (by decide)) (by omega) (by omega)]
        simp only [Option.bind_some]
        cases rOdd (pS a).toNat (pX a) 0
        · simp
        · cases told <;> simp
theorem wRnd_fl (a m : Int) (told : Bool) : 0 ≤ (wRnd a m told).2 ∧ (wRnd a m told).2 ≤ 255 := by
  unfold wRnd qNone
  split
  · dsimp only; split <;> omega
  · split
    · dsimp only; omega
    · split
      · dsimp only; omega
      · dsimp only
        split
        · split <;> omega
        · omega
end Go.Proofs.Ytfnkmedajchbgaa
end
section
namespace Go.Proofs.Ytfnkmedajchbgaa
set_option linter.unusedVariables false
set_option linter.unusedSimpArgs false
open Go.RowKit X Go.Proofs.YtfnkmedajchbgaaW.PrintWords
theorem sure8 (k : Nat) : tillerlaw08_sure.f (k + 12) = some true := by
  have h : tillerlaw08_sure.f 12 = some true := by decide +kernel
  exact at_rounds (fun k => tillerlaw08_sure.mono k) (by omega) h
end Go.Proofs.Ytfnkmedajchbgaa
end
