import Derived.Test.YtedjlpfggjcmfaaKR4
import Derived.Test.YtedjlpfggjcmfaaKRXquotSqrt
import Derived.Test.YtedjlpfggjcmfaaKRXquotDiv
section
namespace Go.Proofs.Ytedjlpfggjcmfaa.X
open Go.RowKit Go.Proofs.YtedjlpfggjcmfaaW.PrintWords Go.Proofs.YtedjlpfggjcmfaaW.PrintLast Go.Proofs.YtedjlpfggjcmfaaW.PrintMore
attribute [local go_sem] max2_int min2_int max_two min_two max_three min_three max_four min_four   
set_option linter.unusedVariables false
set_option linter.unusedSimpArgs false
def tillerlaw07_sure.f (k : Nat)  : Option (Bool) := (quot_Div.f k 4607182418800017408 4613937818241073152 0).bind fun bt399 => ((quot_Sqrt.f 4611686018427387904 0).bind fun bt401 => (if bt399.1 = 4599676419421066581 then (if bt399.2 = 16 then (if bt401.1 = 4609047870845172685 then (some (bt401.2 == 16)) else (some false)) else (some false)) else (some false)))
theorem tillerlaw07_sure.mono : ∀ k, LeO (tillerlaw07_sure.f k ) (tillerlaw07_sure.f (k + 1) ) := by
 intro  k
 unfold tillerlaw07_sure.f
 repeat' first
  | (with_reducible exact quot_Div.mono _ _ _ _)
  | (with_reducible exact LeO.refl _)
  | (with_reducible exact LeO.none _)
  | (with_reducible refine LeO.ite ?_ ?_)
  | (with_reducible refine LeO.bind ?_ (fun _ => ?_))
  | exact quot_Div.mono _ _ _ _
  | exact LeO.none _
  | refine LeO.ite ?_ ?_
  | refine LeO.bind ?_ (fun _ => ?_)
set_option maxHeartbeats 8000000 in
set_option maxRecDepth 100000 in
theorem tillerlaw07_sure.calls (k : Nat)  (r : Bool) (w : World) (h : tillerlaw07_sure.f k  = some r) :
 Calls Try.prog 10 #[] w fun e w' => e = .returned (.bool r) ∧ Below w.heap.size w w' := by
 have HB := Aside0.mk (Below.refl w.heap.size w); have H : ((quot_Div.f k 4607182418800017408 4613937818241073152 0).bind fun bt399 => ((quot_Sqrt.f 4611686018427387904 0).bind fun bt401 => (if bt399.1 = 4599676419421066581 then (if bt399.2 = 16 then (if bt401.1 = 4609047870845172685 then (some (bt401.2 == 16)) else (some false)) else (some false)) else (some false)))) = some r := h; clear h; replace H := Option.bind_eq_some_iff.mp H; obtain ⟨⟨t399, t400⟩, A10, H⟩ := H; replace H : ((quot_Sqrt.f 4611686018427387904 0).bind fun bt401 => (if t399 = 4599676419421066581 then (if t400 = 16 then (if bt401.1 = 4609047870845172685 then (some (bt401.2 == 16)) else (some false)) else (some false)) else (some false))) = some r := H; have A1 := Aside0.mk A10; clear A10; replace H := Option.bind_eq_some_iff.mp H; obtain ⟨⟨t401, t402⟩, A20, H⟩ := H; replace H : (if t399 = 4599676419421066581 then (if t400 = 16 then (if t401 = 4609047870845172685 then (some (t402 == 16)) else (some false)) else (some false)) else (some false)) = some r := H; have A2 := Aside0.mk A20; clear A20
 by_cases c3 : t399 = 4599676419421066581
 · rw [if_pos c3] at H
   have c3b0 : (t399 == 4599676419421066581) = true := beq_iff_eq.mpr c3; have c3b1 : (t399 != 4599676419421066581) = false := bne_eq_false_iff_eq.mpr c3; clear c3
   by_cases c4 : t400 = 16
   · rw [if_pos c4] at H
     have c4b0 : (t400 == 16) = true := beq_iff_eq.mpr c4; have c4b1 : (t400 != 16) = false := bne_eq_false_iff_eq.mpr c4; clear c4
     by_cases c5 : t401 = 4609047870845172685
     · rw [if_pos c5] at H
       have c5b0 : (t401 == 4609047870845172685) = true := beq_iff_eq.mpr c5; have c5b1 : (t401 != 4609047870845172685) = false := bne_eq_false_iff_eq.mpr c5; clear c5; obtain rfl := Option.some.inj H
       go_enter Try.func10, Try.ntmps10
       go_wp2_with (first | ((with_reducible refine gate_callee (f := 8) rfl ?_); refine goesL_ (some 6) rfl rfl Try.func8 (by kernel_rfl) rfl #[.int .u64 4607182418800017408, .int .u64 4613937818241073152, .int .i64 0] rfl LMq ?_; (with_reducible refine (quot_Div.calls k 4607182418800017408 4613937818241073152 0 t399 t400 _ A1.out).mono ?_); rintro e w6 ⟨rfl, hb⟩; refine ⟨_, rfl, ?_⟩; replace HB := Aside0.mk (below_step (kH HB) hb); (try clear hb); (try clear hb2); (try clear hk); (try clear hi)) | ((with_reducible refine gate_callee (f := 11) rfl ?_); refine goesL_ (some 10) rfl rfl Try.func11 (by kernel_rfl) rfl #[.int .u64 4611686018427387904, .int .i64 0] rfl LMq ?_; (with_reducible refine (quot_Sqrt.calls 4611686018427387904 0 t401 t402 _ A2.out).mono ?_); rintro e w7 ⟨rfl, hb⟩; refine ⟨_, rfl, ?_⟩; replace HB := Aside0.mk (below_step (kH HB) hb); (try clear hb); (try clear hb2); (try clear hk); (try clear hi)))
       go_ret
       exact ⟨by first | rfl | (simp [errW_none, errW_some] <;> rfl) | (simp [*, errW_none, errW_some] <;> rfl), kH HB⟩
     rw [if_neg c5] at H
     have c5b0 : (t401 == 4609047870845172685) = false := beq_eq_false_iff_ne.mpr c5; have c5b1 : (t401 != 4609047870845172685) = true := bne_iff_ne.mpr c5; obtain rfl := Option.some.inj H
     go_enter Try.func10, Try.ntmps10
     go_wp2_with (first | ((with_reducible refine gate_callee (f := 8) rfl ?_); refine goesL_ (some 6) rfl rfl Try.func8 (by kernel_rfl) rfl #[.int .u64 4607182418800017408, .int .u64 4613937818241073152, .int .i64 0] rfl LMq ?_; (with_reducible refine (quot_Div.calls k 4607182418800017408 4613937818241073152 0 t399 t400 _ A1.out).mono ?_); rintro e w8 ⟨rfl, hb⟩; refine ⟨_, rfl, ?_⟩; replace HB := Aside0.mk (below_step (kH HB) hb); (try clear hb); (try clear hb2); (try clear hk); (try clear hi)) | ((with_reducible refine gate_callee (f := 11) rfl ?_); refine goesL_ (some 10) rfl rfl Try.func11 (by kernel_rfl) rfl #[.int .u64 4611686018427387904, .int .i64 0] rfl LMq ?_; (with_reducible refine (quot_Sqrt.calls 4611686018427387904 0 t401 t402 _ A2.out).mono ?_); rintro e w9 ⟨rfl, hb⟩; refine ⟨_, rfl, ?_⟩; replace HB := Aside0.mk (below_step (kH HB) hb); (try clear hb); (try clear hb2); (try clear hk); (try clear hi)))
     go_ret
     exact ⟨by first | rfl | (simp [errW_none, errW_some] <;> rfl) | (simp [*, errW_none, errW_some] <;> rfl), kH HB⟩
   rw [if_neg c4] at H
   have c4b0 : (t400 == 16) = false := beq_eq_false_iff_ne.mpr c4; have c4b1 : (t400 != 16) = true := bne_iff_ne.mpr c4; obtain rfl := Option.some.inj H
   go_enter Try.func10, Try.ntmps10
   go_wp2_with (first | ((with_reducible refine gate_callee (f := 8) rfl ?_); refine goesL_ (some 6) rfl rfl Try.func8 (by kernel_rfl) rfl #[.int .u64 4607182418800017408, .int .u64 4613937818241073152, .int .i64 0] rfl LMq ?_; (with_reducible refine (quot_Div.calls k 4607182418800017408 4613937818241073152 0 t399 t400 _ A1.out).mono ?_); rintro e w10 ⟨rfl, hb⟩; refine ⟨_, rfl, ?_⟩; replace HB := Aside0.mk (below_step (kH HB) hb); (try clear hb); (try clear hb2); (try clear hk); (try clear hi)) | ((with_reducible refine gate_callee (f := 11) rfl ?_); refine goesL_ (some 10) rfl rfl Try.func11 (by kernel_rfl) rfl #[.int .u64 4611686018427387904, .int .i64 0] rfl LMq ?_; (with_reducible refine (quot_Sqrt.calls 4611686018427387904 0 t401 t402 _ A2.out).mono ?_); rintro e w11 ⟨rfl, hb⟩; refine ⟨_, rfl, ?_⟩; replace HB := Aside0.mk (below_step (kH HB) hb); (try clear hb); (try clear hb2); (try clear hk); (try clear hi)))
   go_ret
   exact ⟨by first | rfl | (simp [errW_none, errW_some] <;> rfl) | (simp [*, errW_none, errW_some] <;> rfl), kH HB⟩
 rw [if_neg c3] at H
 have c3b0 : (t399 == 4599676419421066581) = false := beq_eq_false_iff_ne.mpr c3; have c3b1 : (t399 != 4599676419421066581) = true := bne_iff_ne.mpr c3; obtain rfl := Option.some.inj H
 go_enter Try.func10, Try.ntmps10
 go_wp2_with (first | ((with_reducible refine gate_callee (f := 8) rfl ?_); refine goesL_ (some 6) rfl rfl Try.func8 (by kernel_rfl) rfl #[.int .u64 4607182418800017408, .int .u64 4613937818241073152, .int .i64 0] rfl LMq ?_; (with_reducible refine (quot_Div.calls k 4607182418800017408 4613937818241073152 0 t399 t400 _ A1.out).mono ?_); rintro e w12 ⟨rfl, hb⟩; refine ⟨_, rfl, ?_⟩; replace HB := Aside0.mk (below_step (kH HB) hb); (try clear hb); (try clear hb2); (try clear hk); (try clear hi)) | ((with_reducible refine gate_callee (f := 11) rfl ?_); refine goesL_ (some 10) rfl rfl Try.func11 (by kernel_rfl) rfl #[.int .u64 4611686018427387904, .int .i64 0] rfl LMq ?_; (with_reducible refine (quot_Sqrt.calls 4611686018427387904 0 t401 t402 _ A2.out).mono ?_); rintro e w13 ⟨rfl, hb⟩; refine ⟨_, rfl, ?_⟩; replace HB := Aside0.mk (below_step (kH HB) hb); (try clear hb); (try clear hb2); (try clear hk); (try clear hi)))
 go_ret
 exact ⟨by first | rfl | (simp [errW_none, errW_some] <;> rfl) | (simp [*, errW_none, errW_some] <;> rfl), kH HB⟩
end Go.Proofs.Ytedjlpfggjcmfaa.X
end
section
namespace Go.Proofs.Ytedjlpfggjcmfaa
set_option linter.unusedVariables false
set_option linter.unusedSimpArgs false
open Go.RowKit X
theorem qN_lt (a : Int) : qN a < 2 ^ 254 := by
  have h := pS_bd a
  have h1 : (pS a).toNat < 9007199254740992 := by omega
  unfold qN
  exact Nat.lt_of_lt_of_le (Nat.mul_lt_mul_of_pos_right h1 (Nat.two_pow_pos 128)) (by decide)
theorem qN_T (a : Int) : qN a < T256 := by rw [T256_eq]; exact Nat.lt_trans (qN_lt a) (by decide)
theorem qN_e (a : Int) : (pS a).toNat * 2 ^ (128 : Int).toNat % T256 = qN a := by
  have h : (pS a).toNat * 2 ^ (128 : Int).toNat = qN a := by rw [show (128 : Int).toNat = 128 from rfl]; rfl
  rw [h]
  exact Nat.mod_eq_of_lt (qN_T a)
theorem qS_lt (a b : Int) : qS a b < 2 ^ 254 := Nat.lt_of_le_of_lt (Nat.div_le_self _ _) (qN_lt a)
theorem pS_T (a : Int) : (pS a).toNat < T256 := by have := pS_bd a; rw [T256_eq]; omega
theorem U_pS (a : Int) : U (pS a) := by have := pS_bd a; unfold U; omega
theorem nil_words {r : Nat} (h : r < T256) : (!(l0 r == 0) || (!(l1 r == 0) || (!(l2 r == 0) || !(l3 r == 0)))) = !decide (r = 0) := by
  have := l_eq_zero h
  rw [Bool.eq_iff_iff]
  simp only [Bool.or_eq_true, Bool.not_eq_true', beq_eq_false_iff_ne, ne_eq, decide_eq_false_iff_not]
  rw [← this]
  omega
theorem div_chain (k : Nat) (m x1 x2 q1 q2 : Int) (c : Bool) (ma mb : Bool) (ca cb : Int) (u v : Int) (N S T : Nat) (hu : inU u = true) (hv : inU v = true) (hN : u.toNat * 2 ^ (128 : Int).toNat % T256 = N) (hNT : N < T256) (hu2 : u.toNat < T256) (hv2 : v.toNat < T256) (hv0 : v.toNat ≠ 0)
    (hS : N / v.toNat = S) (hT : N % v.toNat = T) (hS2 : S < 2 ^ 254) (hT2 : T < T256) (e1 : wrap64 (x1 - x2) = q1) (e2 : wrap64 (q1 - 128) = q2) (b1 : -131072 ≤ q2) (b2 : q2 ≤ 131072) (h1 : ¬ ca = 3) (h2 : ¬ cb = 3) (h0 : ¬ cb = 0) :
    quot_Div.j1 (k + 1) m (sg c) false ma ca x1 u mb cb x2 v = some (rRound c (rX (!decide (T = 0)) q2) (rS (!decide (T = 0)) S) m) := by
  have hS3 : S < T256 := by rw [T256_eq]; exact Nat.lt_trans hS2 (by decide)
  have eO := wide_Of.eq u hu
  have eP := wide_Of.eq v hv
  have eS := wide_Shl.eq hu2 128
  have eD := wide_DivMod.eq hNT hv2 hv0
  have eR := rnd_Round.eq hS3 c q2 (!decide (T = 0)) m hS2 b1 b2
  have en := nil_words hT2
  rw [hN] at eS
  rw [hS, hT] at eD
  simp only [quot_Div.j1]
  rw [if_neg (by decide), if_neg h1, if_neg h2, if_neg h0]
  rw [eO]
  simp only [Option.bind_some]
  rw [eS]
  simp only [Option.bind_some]
  rw [eP]
  simp only [Option.bind_some]
  rw [eD]
  simp only [Option.bind_some]
  rw [e1, e2, sg_ne, en, eR]
  rfl
theorem div_main (k : Nat) (a b m : Int) (h1 : pC a < 3) (h2 : pC b < 3) (h0 : pC b ≠ 0) : quot_Div.j1 (k + 1) m (sg (qMi a b)) false (pM a) (pC a) (pX a) (pS a) (pM b) (pC b) (pX b) (pS b) = some (qMain a b m) := by
  have hpa := pS_bd a
  have hpb := pS_bd b
  have hxa := pX_bd a
  have hxb := pX_bd b
  have hsb := pS_pos b h0 (by omega)
  have hT : qT a b < T256 := Nat.lt_of_le_of_lt (Nat.mod_le _ _) (qN_T a)
  exact div_chain k m (pX a) (pX b) (pX a - pX b) (pX a - pX b - 128) (qMi a b) (pM a) (pM b) (pC a) (pC b) (pS a) (pS b) (qN a) (qS a b) (qT a b) (inU_of (U_pS a)) (inU_of (U_pS b)) (qN_e a) (qN_T a) (pS_T a) (pS_T b) (by omega)
    rfl rfl (qS_lt a b) hT (by unfold wrap64; omega) (by unfold wrap64; omega) (by omega) (by omega) (by omega) (by omega) h0
theorem div_spec (k : Nat) (a b m : Int) (ha : U a) (hb : U b) : quot_Div.f (k + 2) a b m = some (qDiv a b m) := by
  have hx := bits_xor_U a b ha hb
  have e1 : bits .and .u64 (bits .xor .u64 a b) 9223372036854775808 = sg (qMi a b) := by rw [band_sg _ hx.1, hx.2]; rfl
  have e2 := bor_inf (qMi a b)
  have ca := pC_bd a
  have cb := pC_bd b
  unfold quot_Div.f
  rw [e1, pat_Take.eq a (inU_of ha), Option.bind_some, pat_Take.eq b (inU_of hb), Option.bind_some, pat_IsNaN.eq a (inU_of ha), Option.bind_some, pat_IsNaN.eq b (inU_of hb)]
  unfold qDiv
  by_cases n1 : 3 < pC a
  · rw [decide_eq_true n1, if_pos rfl, if_pos (Or.inl n1)]
    simp only [quot_Div.j0]
    rw [if_pos trivial, quot_none.eq a b (inU_of ha) (inU_of hb)]
    rfl
  · rw [decide_eq_false n1, if_neg (by decide), Option.bind_some]
    by_cases n2 : 3 < pC b
    · rw [decide_eq_true n2, if_pos (Or.inr n2)]
      simp only [quot_Div.j0]
      rw [if_pos trivial, quot_none.eq a b (inU_of ha) (inU_of hb)]
      rfl
    · rw [decide_eq_false n2, if_neg (by omega)]
      simp only [quot_Div.j0]
      rw [if_neg (by decide)]
      by_cases q : pC a = pC b
      · by_cases q0 : pC a = 0
        · rw [if_pos q, if_pos q0, if_pos ⟨q, .inl q0⟩]
          simp only [quot_Div.j1]
          rw [if_pos trivial]
        · rw [if_pos q, if_neg q0]
          by_cases q3 : pC a = 3
          · rw [if_pos ⟨q, .inr q3⟩, beq_iff_eq.mpr q3]
            simp only [quot_Div.j1]
            rw [if_pos trivial]
          · rw [if_neg (by omega), beq_eq_false_iff_ne.mpr q3, if_neg q3, if_neg (by omega), if_neg (by omega)]
            exact div_main k a b m (by omega) (by omega) (by omega)
      · rw [if_neg q, if_neg (by omega)]
        by_cases q3 : pC a = 3
        · rw [if_pos q3]
          simp only [quot_Div.j1]
          rw [if_neg (by decide), if_pos q3, e2]
        · rw [if_neg q3]
          by_cases r3 : pC b = 3
          · rw [if_pos r3]
            simp only [quot_Div.j1]
            rw [if_neg (by decide), if_neg q3, if_pos r3]
          · rw [if_neg r3]
            by_cases r0 : pC b = 0
            · rw [if_pos r0]
              simp only [quot_Div.j1]
              rw [if_neg (by decide), if_neg q3, if_neg r3, if_pos r0, e2]
            · rw [if_neg r0]
              exact div_main k a b m (by omega) (by omega) r0
end Go.Proofs.Ytedjlpfggjcmfaa
end
section
namespace Go.Proofs.Ytedjlpfggjcmfaa
set_option linter.unusedVariables false
set_option linter.unusedSimpArgs false
open Go.RowKit
theorem one_parts : pC 4607182418800017408 = 2 ∧ pX 4607182418800017408 = -52 ∧ pS 4607182418800017408 = 4503599627370496 ∧ pM 4607182418800017408 = false := by decide
theorem div_one {a : Int} (ha : U a) (h : pC a ≤ 3) (m : Int) : qDiv a 4607182418800017408 m = (a, 0) := by
  obtain ⟨o1, o2, o3, o4⟩ := one_parts
  have hm : qMi a 4607182418800017408 = pM a := by unfold qMi; rw [o4]; cases pM a <;> rfl
  unfold qDiv
  rw [o1, hm, if_neg (by omega), if_neg (by omega)]
  by_cases n3 : pC a = 3
  · rw [if_pos n3]
    have : a = 9218868437227405312 + sg (pM a) := by
      have hE := pE_bd a
      have hF := pF_bd a
      unfold pC at n3
      by_cases e : pE a = 2047
      · rw [if_pos e] at n3
        by_cases f : pF a = 0
        · unfold pE at e; unfold pF at f; unfold U at ha; unfold pM sg
          by_cases g : 9223372036854775808 ≤ a
          · rw [decide_eq_true g, if_pos rfl]; omega
          · rw [decide_eq_false g, if_neg (by decide)]; omega
        · rw [if_neg f] at n3; split at n3 <;> omega
      · rw [if_neg e] at n3; split at n3; omega; split at n3 <;> omega
    rw [← this]
  · rw [if_neg n3, if_neg (by omega), if_neg (by omega)]
    have e0 : qN a = (pS a).toNat * 2 ^ 76 * 4503599627370496 := by unfold qN; rw [Nat.mul_assoc]
    have e1 : qS a 4607182418800017408 = (pS a).toNat * 2 ^ 76 := by
      unfold qS
      rw [o3, e0]
      exact Nat.mul_div_cancel _ (by decide)
    have e2 : qR a 4607182418800017408 = false := by
      unfold qR qT
      rw [o3, e0, show ((4503599627370496 : Int)).toNat = 4503599627370496 from rfl, Nat.mul_mod_left]
      rfl
    unfold qMain
    rw [e1, e2, hm, o2]
    have := round_exact ha (by omega) 76 m
    rw [show rX false (pX a - -52 - 128) = pX a - ((76 : Nat) : Int) by unfold rX; rw [if_neg (by decide)]; omega]
    exact this
end Go.Proofs.Ytedjlpfggjcmfaa
end
section
namespace Go.Proofs.Ytedjlpfggjcmfaa
set_option linter.unusedVariables false
set_option linter.unusedSimpArgs false
open Go.RowKit X
theorem and_one (x : Int) : bits .and .i64 x 1 = x % 2 := by
  show IntKind.i64.wrap ((BitVec.ofInt 64 x &&& BitVec.ofInt 64 1).toNat : Int) = x % 2
  have hb : (BitVec.ofInt 64 x &&& BitVec.ofInt 64 1).toNat = (x % 2).toNat := by
    rw [BitVec.toNat_and, BitVec.toNat_ofInt, show (BitVec.ofInt 64 1).toNat = 2 ^ 1 - 1 from rfl, Nat.and_two_pow_sub_one_eq_mod]
    omega
  rw [hb, IntKind.wrap_i64]
  omega
def sB (a : Int) : Int := 126 + pX a % 2
def sN (a : Int) : Nat := (pS a).toNat * 2 ^ (sB a).toNat
def sT (a : Int) : Nat := sN a - isq (sN a) * isq (sN a)
def sMain (a m : Int) : Int × Int := rRound false (rX (!decide (sT a = 0)) ((pX a - sB a) / 2)) (rS (!decide (sT a = 0)) (isq (sN a))) m
def qSqrt (a m : Int) : Int × Int := if 3 < pC a then qNone a a else if pC a = 0 then (a, 0) else if pM a = true then (9221120237041090560, 1) else if pC a = 3 then (a, 0) else sMain a m
theorem sB_bd (a : Int) : 126 ≤ sB a ∧ sB a ≤ 127 := by unfold sB; omega
theorem sN_lt (a : Int) : sN a < 2 ^ 200 := by
  have h := pS_bd a
  have hb := sB_bd a
  have h1 : (pS a).toNat < 2 ^ 53 := by rw [show (2 : Nat) ^ 53 = 9007199254740992 from rfl]; omega
  unfold sN
  have h2 : 2 ^ (sB a).toNat ≤ 2 ^ 127 := Nat.pow_le_pow_right (by decide) (by omega)
  have h3 : (pS a).toNat * 2 ^ (sB a).toNat ≤ (pS a).toNat * 2 ^ 127 := Nat.mul_le_mul_left _ h2
  have h4 := Nat.mul_lt_mul_of_pos_right h1 (Nat.two_pow_pos 127)
  rw [← Nat.pow_add] at h4
  exact Nat.lt_of_le_of_lt h3 (Nat.lt_trans h4 (by decide))
theorem sN_T (a : Int) : sN a < T256 := by rw [T256_eq]; exact Nat.lt_trans (sN_lt a) (by decide)
theorem sN_ge {a : Int} (h : 0 < pS a) : 2 ^ 126 ≤ sN a := by
  have hb := sB_bd a
  unfold sN
  have h2 : 2 ^ 126 ≤ 2 ^ (sB a).toNat := Nat.pow_le_pow_right (by decide) (by omega)
  exact Nat.le_trans h2 (Nat.le_mul_of_pos_left _ (by omega))
theorem isq_le (n : Nat) (h : n < T256) : isq n < 2 ^ 254 := by
  have h1 := (isq_spec h).1
  rcases Nat.lt_or_ge (isq n) (2 ^ 254) with g | g
  · exact g
  · have h2 : 2 ^ 254 * 2 ^ 254 ≤ isq n * isq n := Nat.mul_le_mul g g
    have h3 : T256 ≤ 2 ^ 254 * 2 ^ 254 := by rw [T256_eq]; decide
    omega
theorem sqrt_chain (m x u : Int) (N : Nat) (b e : Int) (S T : Nat) (hu : inU u = true) (hu2 : u.toNat < T256) (hN : u.toNat * 2 ^ b.toNat % T256 = N) (hNT : N < T256) (hN0 : N ≠ 0) (hS : isq N = S) (hT : N - S * S = T) (hS2 : S < 2 ^ 254) (hT2 : T < T256)
    (eb : wrap64 (126 + (bits .and .i64 x 1)) = b) (ee : wrap64 (Int.tdiv (wrap64 (x - b)) 2) = e) (b1 : -131072 ≤ e) (b2 : e ≤ 131072) :
    ((wide_Of.f u).bind fun bt379 => ((wide_Shl.f bt379.1 bt379.2.1 bt379.2.2.1 bt379.2.2.2 (wrap64 (126 + (bits .and .i64 x 1)))).bind fun bt383 => ((wide_Sqrt.f bt383.1 bt383.2.1 bt383.2.2.1 bt383.2.2.2).bind fun bt387 => ((rnd_Round.f false (wrap64 (Int.tdiv (wrap64 (x - (wrap64 (126 + (bits .and .i64 x 1))))) 2)) bt387.1 bt387.2.1 bt387.2.2.1 bt387.2.2.2.1 (!(bt387.2.2.2.2.1 == 0) || (!(bt387.2.2.2.2.2.1 == 0) || (!(bt387.2.2.2.2.2.2.1 == 0) || (!(bt387.2.2.2.2.2.2.2 == 0))))) m).bind fun bt397 => (some (bt397.1, bt397.2)))))) =
      some (rRound false (rX (!decide (T = 0)) e) (rS (!decide (T = 0)) S) m) := by
  have hS3 : S < T256 := by rw [T256_eq]; exact Nat.lt_trans hS2 (by decide)
  have eO := wide_Of.eq u hu
  have eS := wide_Shl.eq hu2 b
  have eD := wide_Sqrt.eq hNT hN0
  have eR := rnd_Round.eq hS3 false e (!decide (T = 0)) m hS2 b1 b2
  have en := nil_words hT2
  rw [hN] at eS
  rw [hS, hT] at eD
  rw [eb, eO]
  simp only [Option.bind_some]
  rw [eS]
  simp only [Option.bind_some]
  rw [eD]
  simp only [Option.bind_some]
  rw [ee, en, eR]
  rfl
theorem sqrt_spec (a m : Int) (ha : U a) : quot_Sqrt.f a m = some (qSqrt a m) := by
  unfold quot_Sqrt.f qSqrt
  rw [pat_Take.eq a (inU_of ha), Option.bind_some, pat_IsNaN.eq a (inU_of ha), Option.bind_some]
  by_cases n1 : 3 < pC a
  · rw [decide_eq_true n1, if_pos rfl, if_pos n1, quot_none.eq a a (inU_of ha) (inU_of ha)]
    rfl
  · rw [decide_eq_false n1, if_neg (by decide), if_neg n1]
    by_cases c0 : pC a = 0
    · rw [if_pos c0, if_pos c0]
    · rw [if_neg c0, if_neg c0]
      by_cases cm : pM a = true
      · rw [if_pos cm, if_pos cm]
      · rw [if_neg cm, if_neg cm]
        by_cases c3 : pC a = 3
        · rw [if_pos c3, if_pos c3]
        · rw [if_neg c3, if_neg c3]
          have hx := pX_bd a
          have hb := sB_bd a
          have hs := pS_pos a c0 c3
          have hN := sN_T a
          have hT : sT a < T256 := Nat.lt_of_le_of_lt (Nat.sub_le _ _) hN
          have hge := sN_ge hs
          have hN0 : sN a ≠ 0 := by have := Nat.two_pow_pos 126; omega
          refine sqrt_chain m (pX a) (pS a) (sN a) (sB a) ((pX a - sB a) / 2) (isq (sN a)) (sT a) (inU_of (U_pS a)) (pS_T a) (Nat.mod_eq_of_lt hN) hN hN0 rfl rfl (isq_le _ hN) hT ?_ ?_ (by omega) (by omega)
          · rw [and_one]; unfold sB wrap64; omega
          · have : (pX a - sB a) % 2 = 0 := by unfold sB; omega
            have e1 : wrap64 (pX a - sB a) = pX a - sB a := by unfold wrap64; omega
            have e2 : Int.tdiv (pX a - sB a) 2 = (pX a - sB a) / 2 := by
              obtain ⟨z, hz⟩ : ∃ z, pX a - sB a = 2 * z := ⟨(pX a - sB a) / 2, by omega⟩
              rw [hz, Int.mul_tdiv_cancel_left _ (by decide), Int.mul_ediv_cancel_left _ (by decide)]
            rw [e1, e2]; unfold wrap64; omega
theorem sqrt_ref_eq {a m : Int} (h : 0 < pS a) {s2 : Nat} (g1 : s2 * s2 ≤ sN a * 16384) (g2 : sN a * 16384 < (s2 + 1) * (s2 + 1)) :
    rRound false ((pX a - sB a) / 2 - 8) (2 * s2 + if s2 * s2 ≠ sN a * 16384 then 1 else 0) m = sMain a m := by
  have hN := sN_T a
  obtain ⟨i1, i2⟩ := isq_spec hN
  have hge := sN_ge h
  unfold sMain sT
  generalize sN a = A at *
  generalize hs1 : isq A = s1 at *
  have f1 : s2 / 128 = s1 := by
    rw [← hs1]
    refine isq_eq hN ?_ ?_
    · have : (s2 / 128 * 128) * (s2 / 128 * 128) ≤ s2 * s2 := Nat.mul_le_mul (by omega) (by omega)
      have e : (s2 / 128 * 128) * (s2 / 128 * 128) = s2 / 128 * (s2 / 128) * 16384 := by rw [Nat.mul_mul_mul_comm]
      omega
    · have : (s2 + 1) * (s2 + 1) ≤ ((s2 / 128 + 1) * 128) * ((s2 / 128 + 1) * 128) := Nat.mul_le_mul (by omega) (by omega)
      have e : ((s2 / 128 + 1) * 128) * ((s2 / 128 + 1) * 128) = (s2 / 128 + 1) * (s2 / 128 + 1) * 16384 := by rw [Nat.mul_mul_mul_comm]
      omega
  have hbig : 2 ^ 54 ≤ s1 := by
    rcases Nat.lt_or_ge s1 (2 ^ 54) with g | g
    · have : (s1 + 1) * (s1 + 1) ≤ 2 ^ 54 * 2 ^ 54 := Nat.mul_le_mul g g
      have h3 : 2 ^ 54 * 2 ^ 54 ≤ 2 ^ 126 := by decide
      omega
    · exact g
  have hex : (s2 * s2 = A * 16384 ∧ s2 % 128 = 0) ↔ A - s1 * s1 = 0 := by
    have e : (s1 * 128) * (s1 * 128) = s1 * s1 * 16384 := by rw [Nat.mul_mul_mul_comm]
    constructor
    · rintro ⟨k1, k2⟩
      have : s2 = s1 * 128 := by omega
      rw [this, e] at k1
      omega
    · intro k
      have k1 : s1 * s1 = A := by omega
      have k2 : s1 * 128 = s2 := sq_uniq (a := A * 16384) (by rw [e]; omega) (by
        have : (s1 * 128) * (s1 * 128) < (s1 * 128 + 1) * (s1 * 128 + 1) := Nat.mul_lt_mul'' (by omega) (by omega)
        omega) g1 g2
      rw [← k2, e, k1]
      omega
  generalize hst : (if s2 * s2 ≠ A * 16384 then 1 else 0) = st
  have st1 : st ≤ 1 := by rw [← hst]; split <;> omega
  have st0 : st = 0 ↔ s2 * s2 = A * 16384 := by rw [← hst]; split <;> omega
  have d1 : (2 * s2 + st) / 2 ^ (7 + 1) = s1 := by rw [show (2 : Nat) ^ (7 + 1) = 256 from rfl]; omega
  have h2 := round_sticky false ((pX a - sB a) / 2 - 8) (2 * s2 + st) 7 m (by rw [d1]; exact hbig)
  rw [← h2, d1]
  have e7 : (pX a - sB a) / 2 - 8 + ((7 : Nat) : Int) = (pX a - sB a) / 2 - ((1 : Nat) : Int) := by omega
  rw [e7]
  by_cases z : A - s1 * s1 = 0
  · obtain ⟨k1, k2⟩ := hex.2 z
    have := st0.2 k1
    rw [decide_eq_true z, if_neg (by rw [show (2 : Nat) ^ (7 + 1) = 256 from rfl]; omega), Nat.add_zero, Nat.mul_comm]
    exact round_scale false ((pX a - sB a) / 2) s1 1 m
  · have nz : ¬ (s2 * s2 = A * 16384 ∧ s2 % 128 = 0) := mt hex.1 z
    rw [decide_eq_false z, if_pos (by rw [show (2 : Nat) ^ (7 + 1) = 256 from rfl]; intro k; exact nz ⟨st0.1 (by omega), by omega⟩)]
    rfl
end Go.Proofs.Ytedjlpfggjcmfaa
end
section
namespace Go.Proofs.Ytedjlpfggjcmfaa
set_option linter.unusedVariables false
set_option linter.unusedSimpArgs false
open Go.RowKit X
theorem sure7 (k : Nat) : tillerlaw07_sure.f (k + 2) = some true := by
  unfold tillerlaw07_sure.f
  rw [div_spec k _ _ _ (by unfold U; omega) (by unfold U; omega)]
  decide +kernel
theorem U_wf {a : Int} (h : (Lit.int .u64 a).wf = true) : U a := by
  unfold Lit.wf at h
  simp only [Bool.and_eq_true, decide_eq_true_eq] at h
  exact h
end Go.Proofs.Ytedjlpfggjcmfaa
end
