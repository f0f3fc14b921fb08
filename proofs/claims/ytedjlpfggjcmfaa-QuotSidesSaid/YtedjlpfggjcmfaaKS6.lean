import Derived.Test.YtedjlpfggjcmfaaKS3
import Derived.Test.YtedjlpfggjcmfaaKSXquotDiv
import Derived.Test.YtedjlpfggjcmfaaKSXquotSqrt
section
namespace Go.Proofs.Ytedjlpfggjcmfaa.X
open Go.RowKit Go.Proofs.YtedjlpfggjcmfaaW.PrintWords Go.Proofs.YtedjlpfggjcmfaaW.PrintLast Go.Proofs.YtedjlpfggjcmfaaW.PrintMore
attribute [local go_sem] max2_int min2_int max_two min_two max_three min_three max_four min_four   
set_option linter.unusedVariables false
set_option linter.unusedSimpArgs false
def tillerlaw07_sure.f (k : Nat)  : Option (Bool) := (quot_Div.f k 4607182418800017408 4613937818241073152 0).bind fun bt399 => ((quot_Sqrt.f 4611686018427387904 0).bind fun bt401 => (if bt399.1 = 4599676419421066581 then (if bt399.2 = 16 then (if bt401.1 = 4609047870845172685 then (some (bt401.2 == 16)) else (some false)) else (some false)) else (some false)))
theorem tillerlaw07_sure.mono : ∀ k, LeO (tillerlaw07_sure.f k ) (tillerlaw07_sure.f (k + 1) ) := by
 intro  k
 unfold tillerlaw07_sure.f
 repeat' first
  | (with_reducible exact quot_Div.mono _ _ _ _)
  | (with_reducible exact LeO.refl _)
  | (with_reducible exact LeO.none _)
  | (with_reducible refine LeO.ite ?_ ?_)
  | (with_reducible refine LeO.bind ?_ (fun _ => ?_))
  | exact quot_Div.mono _ _ _ _
  | exact LeO.none _
  | refine LeO.ite ?_ ?_
  | refine LeO.bind ?_ (fun _ => ?_)
set_option maxHeartbeats 8000000 in
set_option maxRecDepth 100000 in
theorem tillerlaw07_sure.calls (k : Nat)  (r : Bool) (w : World) (h : tillerlaw07_sure.f k  = some r) :
 Calls Try.prog 10 #[] w fun e w' => e = .returned (.bool r) ∧ Below w.heap.size w w' := by
 have HB := Aside0.mk (Below.refl w.heap.size w); have H : ((quot_Div.f k 4607182418800017408 4613937818241073152 0).bind fun bt399 => ((quot_Sqrt.f 4611686018427387904 0).bind fun bt401 => (if bt399.1 = 4599676419421066581 then (if bt399.2 = 16 then (if bt401.1 = 4609047870845172685 then (some (bt401.2 == 16)) else (some false)) else (some false)) else (some false)))) = some r := h; clear h; replace H := Option.bind_eq_some_iff.mp H; obtain ⟨⟨t399, t400⟩, A10, H⟩ := H; replace H : ((quot_Sqrt.f 4611686018427387904 0).bind fun bt401 => (if t399 = 4599676419421066581 then (if t400 = 16 then (if bt401.1 = 4609047870845172685 then (some (bt401.2 == 16)) else (some false)) else (some false)) else (some false))) = some r := H; have A1 := Aside0.mk A10; clear A10; replace H := Option.bind_eq_some_iff.mp H; obtain ⟨⟨t401, t402⟩, A20, H⟩ := H; replace H : (if t399 = 4599676419421066581 then (if t400 = 16 then (if t401 = 4609047870845172685 then (some (t402 == 16)) else (some false)) else (some false)) else (some false)) = some r := H; have A2 := Aside0.mk A20; clear A20
 by_cases c3 : t399 = 4599676419421066581
 · rw [if_pos c3] at H
   have c3b0 : (t399 == 4599676419421066581) = true := beq_iff_eq.mpr c3; have c3b1 : (t399 != 4599676419421066581) = false := bne_eq_false_iff_eq.mpr c3; clear c3
   by_cases c4 : t400 = 16
   · rw [if_pos c4] at H
     have c4b0 : (t400 == 16) = true := beq_iff_eq.mpr c4; have c4b1 : (t400 != 16) = false := bne_eq_false_iff_eq.mpr c4; clear c4
     by_cases c5 : t401 = 4609047870845172685
     · rw [if_pos c5] at H
       have c5b0 : (t401 == 4609047870845172685) = true := beq_iff_eq.mpr c5; have c5b1 : (t401 != 4609047870845172685) = false := bne_eq_false_iff_eq.mpr c5; clear c5; obtain rfl := Option.some.inj H
       go_enter Try.func10, Try.ntmps10
       go_wp2_with (first | ((with_reducible refine gate_callee (f := 8) rfl ?_); refine goesL_ (some 6) rfl rfl Try.func8 (by kernel_rfl) rfl #[.int .u64 4607182418800017408, .int .u64 4613937818241073152, .int .i64 0] rfl LMq ?_; (with_reducible refine (quot_Div.calls k 4607182418800017408 4613937818241073152 0 t399 t400 _ A1.out).mono ?_); rintro e w6 ⟨rfl, hb⟩; refine ⟨_, rfl, ?_⟩; replace HB := Aside0.mk (below_step (kH HB) hb); (try clear hb); (try clear hb2); (try clear hk); (try clear hi)) | ((with_reducible refine gate_callee (f := 11) rfl ?_); refine goesL_ (some 10) rfl rfl Try.func11 (by kernel_rfl) rfl #[.int .u64 4611686018427387904, .int .i64 0] rfl LMq ?_; (with_reducible refine (quot_Sqrt.calls 4611686018427387904 0 t401 t402 _ A2.out).mono ?_); rintro e w7 ⟨rfl, hb⟩; refine ⟨_, rfl, ?_⟩; replace HB := Aside0.mk (below_step (kH HB) hb); (try clear hb); (try clear hb2); (try clear hk); (try clear hi)))
       go_ret
       exact ⟨by first | rfl | (simp [errW_none, errW_some] <;> rfl) | (simp [*, errW_none, errW_some] <;> rfl), kH HB⟩
     rw [if_neg c5] at H
     have c5b0 : (t401 == 4609047870845172685) = false := beq_eq_false_iff_ne.mpr c5; have c5b1 : (t401 != 4609047870845172685) = true := bne_iff_ne.mpr c5; obtain rfl := Option.some.inj H
     go_enter Try.func10, Try.ntmps10
     go_wp2_with (first | ((with_reducible refine gate_callee (f := 8) rfl ?_); refine goesL_ (some 6) rfl rfl Try.func8 (by kernel_rfl) rfl #[.int .u64 4607182418800017408, .int .u64 4613937818241073152, .int .i64 0] rfl LMq ?_; (with_reducible refine (quot_Div.calls k 4607182418800017408 4613937818241073152 0 t399 t400 _ A1.out).mono ?_); rintro e w8 ⟨rfl, hb⟩; refine ⟨_, rfl, ?_⟩; replace HB := Aside0.mk (below_step (kH HB) hb); (try clear hb); (try clear hb2); (try clear hk); (try clear hi)) | ((with_reducible refine gate_callee (f := 11) rfl ?_); refine goesL_ (some 10) rfl rfl Try.func11 (by kernel_rfl) rfl #[.int .u64 4611686018427387904, .int .i64 0] rfl LMq ?_; (with_reducible refine (quot_Sqrt.calls 4611686018427387904 0 t401 t402 _ A2.out).mono ?_); rintro e w9 ⟨rfl, hb⟩; refine ⟨_, rfl, ?_⟩; replace HB := Aside0.mk (below_step (kH HB) hb); (try clear hb); (try clear hb2); (try clear hk); (try clear hi)))
     go_ret
     exact ⟨by first | rfl | (simp [errW_none, errW_some] <;> rfl) | (simp [*, errW_none, errW_some] <;> rfl), kH HB⟩
   rw [if_neg c4] at H
   have c4b0 : (t400 == 16) = false := beq_eq_false_iff_ne.mpr c4; have c4b1 : (t400 != 16) = true := bne_iff_ne.mpr c4; obtain rfl := Option.some.inj H
   go_enter Try.func10, Try.ntmps10
   go_wp2_with (first | ((with_reducible refine gate_callee (f := 8) rfl ?_); refine goesL_ (some 6) rfl rfl Try.func8 (by kernel_rfl) rfl #[.int .u64 4607182418800017408, .int .u64 4613937818241073152, .int .i64 0] rfl LMq ?_; (with_reducible refine (quot_Div.calls k 4607182418800017408 4613937818241073152 0 t399 t400 _ A1.out).mono ?_); rintro e w10 ⟨rfl, hb⟩; refine ⟨_, rfl, ?_⟩; replace HB := Aside0.mk (below_step (kH HB) hb); (try clear hb); (try clear hb2); (try clear hk); (try clear hi)) | ((with_reducible refine gate_callee (f := 11) rfl ?_); refine goesL_ (some 10) rfl rfl Try.func11 (by kernel_rfl) rfl #[.int .u64 4611686018427387904, .int .i64 0] rfl LMq ?_; (with_reducible refine (quot_Sqrt.calls 4611686018427387904 0 t401 t402 _ A2.out).mono ?_); rintro e w11 ⟨rfl, hb⟩; refine ⟨_, rfl, ?_⟩; replace HB := Aside0.mk (below_step (kH HB) hb); (try clear hb); (try clear hb2); (try clear hk); (try clear hi)))
   go_ret
   exact ⟨by first | rfl | (simp [errW_none, errW_some] <;> rfl) | (simp [*, errW_none, errW_some] <;> rfl), kH HB⟩
 rw [if_neg c3] at H
 have c3b0 : (t399 == 4599676419421066581) = false := beq_eq_false_iff_ne.mpr c3; have c3b1 : (t399 != 4599676419421066581) = true := bne_iff_ne.mpr c3; obtain rfl := Option.some.inj H
 go_enter Try.func10, Try.ntmps10
 go_wp2_with (first | ((with_reducible refine gate_callee (f := 8) rfl ?_); refine goesL_ (some 6) rfl rfl Try.func8 (by kernel_rfl) rfl #[.int .u64 4607182418800017408, .int .u64 4613937818241073152, .int .i64 0] rfl LMq ?_; (with_reducible refine (quot_Div.calls k 4607182418800017408 4613937818241073152 0 t399 t400 _ A1.out).mono ?_); rintro e w12 ⟨rfl, hb⟩; refine ⟨_, rfl, ?_⟩; replace HB := Aside0.mk (below_step (kH HB) hb); (try clear hb); (try clear hb2); (try clear hk); (try clear hi)) | ((with_reducible refine gate_callee (f := 11) rfl ?_); refine goesL_ (some 10) rfl rfl Try.func11 (by kernel_rfl) rfl #[.int .u64 4611686018427387904, .int .i64 0] rfl LMq ?_; (with_reducible refine (quot_Sqrt.calls 4611686018427387904 0 t401 t402 _ A2.out).mono ?_); rintro e w13 ⟨rfl, hb⟩; refine ⟨_, rfl, ?_⟩; replace HB := Aside0.mk (below_step (kH HB) hb); (try clear hb); (try clear hb2); (try clear hk); (try clear hi)))
 go_ret
 exact ⟨by first | rfl | (simp [errW_none, errW_some] <;> rfl) | (simp [*, errW_none, errW_some] <;> rfl), kH HB⟩
end Go.Proofs.Ytedjlpfggjcmfaa.X
end
section
namespace Go.Proofs.Ytedjlpfggjcmfaa
set_option linter.unusedVariables false
set_option linter.unusedSimpArgs false
open Go.RowKit X
theorem qN_lt (a : Int) : qN a < 2 ^ 254 := by
  have h := pS_bd a
  have h1 : (pS a).toNat < 9007199254740992 := by omega
  unfold qN
  exact Nat.lt_of_lt_of_le (Nat.mul_lt_mul_of_pos_right h1 (Nat.two_pow_pos 128)) (by decide)
theorem qN_T (a : Int) : qN a < T256 := by rw [T256_eq]; exact Nat.lt_trans (qN_lt a) (by decide)
theorem qN_e (a : Int) : (pS a).toNat * 2 ^ (128 : Int).toNat % T256 = qN a := by
  have h : (pS a).toNat * 2 ^ (128 : Int).toNat = qN a := by rw [show (128 : Int).toNat = 128 from rfl]; rfl
  rw [h]
  exact Nat.mod_eq_of_lt (qN_T a)
theorem qS_lt (a b : Int) : qS a b < 2 ^ 254 := Nat.lt_of_le_of_lt (Nat.div_le_self _ _) (qN_lt a)
theorem pS_T (a : Int) : (pS a).toNat < T256 := by have := pS_bd a; rw [T256_eq]; omega
theorem U_pS (a : Int) : U (pS a) := by have := pS_bd a; unfold U; omega
theorem nil_words {r : Nat} (h : r < T256) : (!(l0 r == 0) || (!(l1 r == 0) || (!(l2 r == 0) || !(l3 r == 0)))) = !decide (r = 0) := by
  have := l_eq_zero h
  rw [Bool.eq_iff_iff]
  simp only [Bool.or_eq_true, Bool.not_eq_true', beq_eq_false_iff_ne, ne_eq, decide_eq_false_iff_not]
  rw [← this]
  omega
theorem div_chain (k : Nat) (m x1 x2 q1 q2 : Int) (c : Bool) (ma mb : Bool) (ca cb : Int) (u v : Int) (N S T : Nat) (hu : inU u = true) (hv : inU v = true) (hN : u.toNat * 2 ^ (128 : Int).toNat % T256 = N) (hNT : N < T256) (hu2 : u.toNat < T256) (hv2 : v.toNat < T256) (hv0 : v.toNat ≠ 0)
    (hS : N / v.toNat = S) (hT : N % v.toNat = T) (hS2 : S < 2 ^ 254) (hT2 : T < T256) (e1 : wrap64 (x1 - x2) = q1) (e2 : wrap64 (q1 - 128) = q2) (b1 : -131072 ≤ q2) (b2 : q2 ≤ 131072) (h1 : ¬ ca = 3) (h2 : ¬ cb = 3) (h0 : ¬ cb = 0) :
    quot_Div.j1 (k + 1) m (sg c) false ma ca x1 u mb cb x2 v = some (rRound c (rX (!decide (T = 0)) q2) (rS (!decide (T = 0)) S) m) := by
  have hS3 : S < T256 := by rw [T256_eq]; exact Nat.lt_trans hS2 (by decide)
  have eO := wide_Of.eq u hu
  have eP := wide_Of.eq v hv
  have eS := wide_Shl.eq hu2 128
  have eD := wide_DivMod.eq hNT hv2 hv0
  have eR := rnd_Round.eq hS3 c q2 (!decide (T = 0)) m hS2 b1 b2
  have en := nil_words hT2
  rw [hN] at eS
  rw [hS, hT] at eD
  simp only [quot_Div.j1]
  rw [if_neg (by decide), if_neg h1, if_neg h2, if_neg h0]
  rw [eO]
  simp only [Option.bind_some]
  rw [eS]
  simp only [Option.bind_some]
  rw [eP]
  simp only [Option.bind_some]
  rw [eD]
  simp only [Option.bind_some]
  rw [e1, e2, sg_ne, en, eR]
  rfl
theorem div_main (k : Nat) (a b m : Int) (h1 : pC a < 3) (h2 : pC b < 3) (h0 : pC b ≠ 0) : quot_Div.j1 (k + 1) m (sg (qMi a b)) false (pM a) (pC a) (pX a) (pS a) (pM b) (pC b) (pX b) (pS b) = some (qMain a b m) := by
  have hpa := pS_bd a
  have hpb := pS_bd b
  have hxa := pX_bd a
  have hxb := pX_bd b
  have hsb := pS_pos b h0 (by omega)
  have hT : qT a b < T256 := Nat.lt_of_le_of_lt (Nat.mod_le _ _) (qN_T a)
  exact div_chain k m (pX a) (pX b) (pX a - pX b) (pX a - pX b - 128) (qMi a b) (pM a) (pM b) (pC a) (pC b) (pS a) (pS b) (qN a) (qS a b) (qT a b) (inU_of (U_pS a)) (inU_of (U_pS b)) (qN_e a) (qN_T a) (pS_T a) (pS_T b) (by omega)
    rfl rfl (qS_lt a b) hT (by unfold wrap64; omega) (by unfold wrap64; omega) (by omega) (by omega) (by omega) (by omega) h0
theorem div_spec (k : Nat) (a b m : Int) (ha : U a) (hb : U b) : quot_Div.f (k + 2) a b m = some (qDiv a b m) := by
  have hx := bits_xor_U a b ha hb
  have e1 : bits .and .u64 (bits .xor .u64 a b) 9223372036854775808 = sg (qMi a b) := by rw [band_sg _ hx.1, hx.2]; rfl
  have e2 := bor_inf (qMi a b)
  have ca := pC_bd a
  have cb := pC_bd b
  unfold quot_Div.f
  rw [e1, pat_Take.eq a (inU_of ha), Option.bind_some, pat_Take.eq b (inU_of hb), Option.bind_some, pat_IsNaN.eq a (inU_of ha), Option.bind_some, pat_IsNaN.eq b (inU_of hb)]
  unfold qDiv
  by_cases n1 : 3 < pC a
  · rw [decide_eq_true n1, if_pos rfl, if_pos (Or.inl n1)]
    simp only [quot_Div.j0]
    rw [if_pos trivial, quot_none.eq a b (inU_of ha) (inU_of hb)]
    rfl
  · rw [decide_eq_false n1, if_neg (by decide), Option.bind_some]
    by_cases n2 : 3 < pC b
    · rw [decide_eq_true n2, if_pos (Or.inr n2)]
      simp only [quot_Div.j0]
      rw [if_pos trivial, quot_none.eq a b (inU_of ha) (inU_of hb)]
      rfl
    · rw [decide_eq_false n2, if_neg (by omega)]
      simp only [quot_Div.j0]
      rw [if_neg (by decide)]
      by_cases q : pC a = pC b
      · by_cases q0 : pC a = 0
        · rw [if_pos q, if_pos q0, if_pos ⟨q, .inl q0⟩]
          simp only [quot_Div.j1]
          rw [if_pos trivial]
        · rw [if_pos q, if_neg q0]
          by_cases q3 : pC a = 3
          · rw [if_pos ⟨q, .inr q3⟩, beq_iff_eq.mpr q3]
            simp only [quot_Div.j1]
            rw [if_pos trivial]
          · rw [if_neg (by omega), beq_eq_false_iff_ne.mpr q3, if_neg q3, if_neg (by omega), if_neg (by omega)]
            exact div_main k a b m (by omega) (by omega) (by omega)
      · rw [if_neg q, if_neg (by omega)]
        by_cases q3 : pC a = 3
        · rw [if_pos q3]
          simp only [quot_Div.j1]
          rw [if_neg (by decide), if_pos q3, e2]
        · rw [if_neg q3]
          by_cases r3 : pC b = 3
          · rw [if_pos r3]
            simp only [quot_Div.j1]
            rw [if_neg (by decide), if_neg q3, if_pos r3]
          · rw [if_neg r3]
            by_cases r0 : pC b = 0
            · rw [if_pos r0]
              simp only [quot_Div.j1]
              rw [if_neg (by decide), if_neg q3, if_neg r3, if_pos r0, e2]
            · rw [if_neg r0]
              exact div_main k a b m (by omega) (by omega) r0
end Go.Proofs.Ytedjlpfggjcmfaa
end
section
namespace Go.Proofs.Ytedjlpfggjcmfaa
set_option linter.unusedVariables false
set_option linter.unusedSimpArgs false
open Go.RowKit
theorem pM_pos {A : Int} (h : A < 9223372036854775808) : pM A = false := by unfold pM; exact decide_eq_false (by omega)
theorem div_sides {A B : Int} (hA : A < 9223372036854775808) (hB : B < 9223372036854775808) :
    (∃ f, ∀ m, qDiv A B m = (9221120237041090560, f)) ∨ (∃ v f, (f = 0 ∨ f = 2) ∧ (v = 0 ∨ v = 9218868437227405312) ∧ ∀ m, qDiv A B m = (v, f)) ∨ (∃ x s, ∀ m, qDiv A B m = rRound false x s m) := by
  have hm : qMi A B = false := by unfold qMi; rw [pM_pos hA, pM_pos hB]; rfl
  by_cases n1 : 3 < pC A ∨ 3 < pC B
  · exact .inl ⟨(qNone A B).2, fun m => by unfold qDiv; rw [if_pos n1]; rfl⟩
  · by_cases n2 : pC A = pC B ∧ (pC A = 0 ∨ pC A = 3)
    · exact .inl ⟨1, fun m => by unfold qDiv; rw [if_neg n1, if_pos n2]⟩
    · right
      by_cases n3 : pC A = 3
      · exact .inl ⟨_, 0, .inl rfl, .inr rfl, fun m => by unfold qDiv; rw [if_neg n1, if_neg n2, if_pos n3, hm]; rfl⟩
      · by_cases n4 : pC B = 3
        · exact .inl ⟨_, 0, .inl rfl, .inl rfl, fun m => by unfold qDiv; rw [if_neg n1, if_neg n2, if_neg n3, if_pos n4, hm]; rfl⟩
        · by_cases n5 : pC B = 0
          · exact .inl ⟨_, 2, .inr rfl, .inr rfl, fun m => by unfold qDiv; rw [if_neg n1, if_neg n2, if_neg n3, if_neg n4, if_pos n5, hm]; rfl⟩
          · exact .inr ⟨_, _, fun m => by unfold qDiv; rw [if_neg n1, if_neg n2, if_neg n3, if_neg n4, if_neg n5]; unfold qMain; rw [hm]⟩
theorem one_parts : pC 4607182418800017408 = 2 ∧ pX 4607182418800017408 = -52 ∧ pS 4607182418800017408 = 4503599627370496 ∧ pM 4607182418800017408 = false := by decide
theorem div_one {a : Int} (ha : U a) (h : pC a ≤ 3) (m : Int) : qDiv a 4607182418800017408 m = (a, 0) := by
  obtain ⟨o1, o2, o3, o4⟩ := one_parts
  have hm : qMi a 4607182418800017408 = pM a := by unfold qMi; rw [o4]; cases pM a <;> rfl
  unfold qDiv
  rw [o1, hm, if_neg (by omega), if_neg (by omega)]
  by_cases n3 : pC a = 3
  · rw [if_pos n3]
    have : a = 9218868437227405312 + sg (pM a) := by
      have hE := pE_bd a
      have hF := pF_bd a
      unfold pC at n3
      by_cases e : pE a = 2047
      · rw [if_pos e] at n3
        by_cases f : pF a = 0
        · unfold pE at e; unfold pF at f; unfold U at ha; unfold pM sg
          by_cases g : 9223372036854775808 ≤ a
          · rw [decide_eq_true g, if_pos rfl]; omega
          · rw [decide_eq_false g, if_neg (by decide)]; omega
        · rw [if_neg f] at n3; split at n3 <;> omega
      · rw [if_neg e] at n3; split at n3; omega; split at n3 <;> omega
    rw [← this]
  · rw [if_neg n3, if_neg (by omega), if_neg (by omega)]
    have e0 : qN a = (pS a).toNat * 2 ^ 76 * 4503599627370496 := by unfold qN; rw [Nat.mul_assoc]
    have e1 : qS a 4607182418800017408 = (pS a).toNat * 2 ^ 76 := by
      unfold qS
      rw [o3, e0]
      exact Nat.mul_div_cancel _ (by decide)
    have e2 : qR a 4607182418800017408 = false := by
      unfold qR qT
      rw [o3, e0, show ((4503599627370496 : Int)).toNat = 4503599627370496 from rfl, Nat.mul_mod_left]
      rfl
    unfold qMain
    rw [e1, e2, hm, o2]
    have := round_exact ha (by omega) 76 m
    rw [show rX false (pX a - -52 - 128) = pX a - ((76 : Nat) : Int) by unfold rX; rw [if_neg (by decide)]; omega]
    exact this
end Go.Proofs.Ytedjlpfggjcmfaa
end
section
namespace Go.Proofs.Ytedjlpfggjcmfaa
set_option linter.unusedVariables false
set_option linter.unusedSimpArgs false
open Go.RowKit X
theorem sure7 (k : Nat) : tillerlaw07_sure.f (k + 2) = some true := by
  unfold tillerlaw07_sure.f
  rw [div_spec k _ _ _ (by unfold U; omega) (by unfold U; omega)]
  decide +kernel
theorem U_wf {a : Int} (h : (Lit.int .u64 a).wf = true) : U a := by
  unfold Lit.wf at h
  simp only [Bool.and_eq_true, decide_eq_true_eq] at h
  exact h
end Go.Proofs.Ytedjlpfggjcmfaa
end
