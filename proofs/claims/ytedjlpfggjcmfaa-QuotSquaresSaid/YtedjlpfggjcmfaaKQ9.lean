import Derived.Test.YtedjlpfggjcmfaaKQ4
import Derived.Test.YtedjlpfggjcmfaaKQXquotSqrt
import Derived.Test.YtedjlpfggjcmfaaKQXquotDiv
section
namespace Go.Proofs.Ytedjlpfggjcmfaa.X
open Go.RowKit Go.Proofs.YtedjlpfggjcmfaaW.PrintWords Go.Proofs.YtedjlpfggjcmfaaW.PrintLast Go.Proofs.YtedjlpfggjcmfaaW.PrintMore
attribute [local go_sem] max2_int min2_int max_two min_two max_three min_three max_four min_four   
set_option linter.unusedVariables false
set_option linter.unusedSimpArgs false
def tillerlaw07_sure.f (k : Nat)  : Option (Bool) := (quot_Div.f k 4607182418800017408 4613937818241073152 0).bind fun bt399 => ((quot_Sqrt.f 4611686018427387904 0).bind fun bt401 => (if bt399.1 = 4599676419421066581 then (if bt399.2 = 16 then (if bt401.1 = 4609047870845172685 then (some (bt401.2 == 16)) else (some false)) else (some false)) else (some false)))
theorem tillerlaw07_sure.mono : ∀ k, LeO (tillerlaw07_sure.f k ) (tillerlaw07_sure.f (k + 1) ) := by
 intro  k
 unfold tillerlaw07_sure.f
 repeat' first
  | (with_reducible exact quot_Div.mono _ _ _ _)
  | (with_reducible exact LeO.refl _)
  | (with_reducible exact LeO.none _)
  | (with_reducible refine LeO.ite ?_ ?_)
  | (with_reducible refine LeO.bind ?_ (fun _ => ?_))
  | exact quot_Div.mono _ _ _ _
  | exact LeO.none _
  | refine LeO.ite ?_ ?_
  | refine LeO.bind ?_ (fun _ => ?_)
set_option maxHeartbeats 8000000 in
set_option maxRecDepth 100000 in
theorem tillerlaw07_sure.calls (k : Nat)  (r : Bool) (w : World) (h : tillerlaw07_sure.f k  = some r) :
 Calls Try.prog 10 #[] w fun e w' => e = .returned (.bool r) ∧ Below w.heap.size w w' := by
 have HB := Aside0.mk (Below.refl w.heap.size w); have H : ((quot_Div.f k 4607182418800017408 4613937818241073152 0).bind fun bt399 => ((quot_Sqrt.f 4611686018427387904 0).bind fun bt401 => (if bt399.1 = 4599676419421066581 then (if bt399.2 = 16 then (if bt401.1 = 4609047870845172685 then (some (bt401.2 == 16)) else (some false)) else (some false)) else (some false)))) = some r := h; clear h; replace H := Option.bind_eq_some_iff.mp H; obtain ⟨⟨t399, t400⟩, A10, H⟩ := H; replace H : ((quot_Sqrt.f 4611686018427387904 0).bind fun bt401 => (if t399 = 4599676419421066581 then (if t400 = 16 then (if bt401.1 = 4609047870845172685 then (some (bt401.2 == 16)) else (some false)) else (some false)) else (some false))) = some r := H; have A1 := Aside0.mk A10; clear A10; replace H := Option.bind_eq_some_iff.mp H; obtain ⟨⟨t401, t402⟩, A20, H⟩ := H; replace H : (if t399 = 4599676419421066581 then (if t400 = 16 then (if t401 = 4609047870845172685 then (some (t402 == 16)) else (some false)) else (some false)) else (some false)) = some r := H; have A2 := Aside0.mk A20; clear A20
 by_cases c3 : t399 = 4599676419421066581
 · rw [if_pos c3] at H
   have c3b0 : (t399 == 4599676419421066581) = true := beq_iff_eq.mpr c3; have c3b1 : (t399 != 4599676419421066581) = false := bne_eq_false_iff_eq.mpr c3; clear c3
   by_cases c4 : t400 = 16
   · rw [if_pos c4] at H
     have c4b0 : (t400 == 16) = true := beq_iff_eq.mpr c4; have c4b1 : (t400 != 16) = false := bne_eq_false_iff_eq.mpr c4; clear c4
     by_cases c5 : t401 = 4609047870845172685
     · rw [if_pos c5] at H
       have c5b0 : (t401 == 4609047870845172685) = true := beq_iff_eq.mpr c5; have c5b1 : (t401 != 4609047870845172685) = false := bne_eq_false_iff_eq.mpr c5; clear c5; obtain rfl := Option.some.inj H
       go_enter Try.func10, Try.ntmps10
       go_wp2_with (first | ((with_reducible refine gate_callee (f := 8) rfl ?_); refine goesL_ (some 6) rfl rfl Try.func8 (by kernel_rfl) rfl #[.int .u64 4607182418800017408, .int .u64 4613937818241073152, .int .i64 0] rfl LMq ?_; (with_reducible refine (quot_Div.calls k 4607182418800017408 4613937818241073152 0 t399 t400 _ A1.out).mono ?_); rintro e w6 ⟨rfl, hb⟩; refine ⟨_, rfl, ?_⟩; replace HB := Aside0.mk (below_step (kH HB) hb); (try clear hb); (try clear hb2); (try clear hk); (try clear hi)) | ((with_reducible refine gate_callee (f := 11) rfl ?_); refine goesL_ (some 10) rfl rfl Try.func11 (by kernel_rfl) rfl #[.int .u64 4611686018427387904, .int .i64 0] rfl LMq ?_; (with_reducible refine (quot_Sqrt.calls 4611686018427387904 0 t401 t402 _ A2.out).mono ?_); rintro e w7 ⟨rfl, hb⟩; refine ⟨_, rfl, ?_⟩; replace HB := Aside0.mk (below_step (kH HB) hb); (try clear hb); (try clear hb2); (try clear hk); (try clear hi)))
       go_ret
       exact ⟨by first | rfl | (simp [errW_none, errW_some] <;> rfl) | (simp [*, errW_none, errW_some] <;> rfl), kH HB⟩
     rw [if_neg c5] at H
     have c5b0 : (t401 == 4609047870845172685) = false := beq_eq_false_iff_ne.mpr c5; have c5b1 : (t401 != 4609047870845172685) = true := bne_iff_ne.mpr c5; obtain rfl := Option.some.inj H
     go_enter Try.func10, Try.ntmps10
     go_wp2_with (first | ((with_reducible refine gate_callee (f := 8) rfl ?_); refine goesL_ (some 6) rfl rfl Try.func8 (by kernel_rfl) rfl #[.int .u64 4607182418800017408, .int .u64 4613937818241073152, .int .i64 0] rfl LMq ?_; (with_reducible refine (quot_Div.calls k 4607182418800017408 4613937818241073152 0 t399 t400 _ A1.out).mono ?_); rintro e w8 ⟨rfl, hb⟩; refine ⟨_, rfl, ?_⟩; replace HB := Aside0.mk (below_step (kH HB) hb); (try clear hb); (try clear hb2); (try clear hk); (try clear hi)) | ((with_reducible refine gate_callee (f := 11) rfl ?_); refine goesL_ (some 10) rfl rfl Try.func11 (by kernel_rfl) rfl #[.int .u64 4611686018427387904, .int .i64 0] rfl LMq ?_; (with_reducible refine (quot_Sqrt.calls 4611686018427387904 0 t401 t402 _ A2.out).mono ?_); rintro e w9 ⟨rfl, hb⟩; refine ⟨_, rfl, ?_⟩; replace HB := Aside0.mk (below_step (kH HB) hb); (try clear hb); (try clear hb2); (try clear hk); (try clear hi)))
     go_ret
     exact ⟨by first | rfl | (simp [errW_none, errW_some] <;> rfl) | (simp [*, errW_none, errW_some] <;> rfl), kH HB⟩
   rw [if_neg c4] at H
   have c4b0 : (t400 == 16) = false := beq_eq_false_iff_ne.mpr c4; have c4b1 : (t400 != 16) = true := bne_iff_ne.mpr c4; obtain rfl := Option.some.inj H
   go_enter Try.func10, Try.ntmps10
   go_wp2_with (first | ((with_reducible refine gate_callee (f := 8) rfl ?_); refine goesL_ (some 6) rfl rfl Try.func8 (by kernel_rfl) rfl #[.int .u64 4607182418800017408, .int .u64 4613937818241073152, .int .i64 0] rfl LMq ?_; (with_reducible refine (quot_Div.calls k 4607182418800017408 4613937818241073152 0 t399 t400 _ A1.out).mono ?_); rintro e w10 ⟨rfl, hb⟩; refine ⟨_, rfl, ?_⟩; replace HB := Aside0.mk (below_step (kH HB) hb); (try clear hb); (try clear hb2); (try clear hk); (try clear hi)) | ((with_reducible refine gate_callee (f := 11) rfl ?_); refine goesL_ (some 10) rfl rfl Try.func11 (by kernel_rfl) rfl #[.int .u64 4611686018427387904, .int .i64 0] rfl LMq ?_; (with_reducible refine (quot_Sqrt.calls 4611686018427387904 0 t401 t402 _ A2.out).mono ?_); rintro e w11 ⟨rfl, hb⟩; refine ⟨_, rfl, ?_⟩; replace HB := Aside0.mk (below_step (kH HB) hb); (try clear hb); (try clear hb2); (try clear hk); (try clear hi)))
   go_ret
   exact ⟨by first | rfl | (simp [errW_none, errW_some] <;> rfl) | (simp [*, errW_none, errW_some] <;> rfl), kH HB⟩
 rw [if_neg c3] at H
 have c3b0 : (t399 == 4599676419421066581) = false := beq_eq_false_iff_ne.mpr c3; have c3b1 : (t399 != 4599676419421066581) = true := bne_iff_ne.mpr c3; obtain rfl := Option.some.inj H
 go_enter Try.func10, Try.ntmps10
 go_wp2_with (first | ((with_reducible refine gate_callee (f := 8) rfl ?_); refine goesL_ (some 6) rfl rfl Try.func8 (by kernel_rfl) rfl #[.int .u64 4607182418800017408, .int .u64 4613937818241073152, .int .i64 0] rfl LMq ?_; (with_reducible refine (quot_Div.calls k 4607182418800017408 4613937818241073152 0 t399 t400 _ A1.out).mono ?_); rintro e w12 ⟨rfl, hb⟩; refine ⟨_, rfl, ?_⟩; replace HB := Aside0.mk (below_step (kH HB) hb); (try clear hb); (try clear hb2); (try clear hk); (try clear hi)) | ((with_reducible refine gate_callee (f := 11) rfl ?_); refine goesL_ (some 10) rfl rfl Try.func11 (by kernel_rfl) rfl #[.int .u64 4611686018427387904, .int .i64 0] rfl LMq ?_; (with_reducible refine (quot_Sqrt.calls 4611686018427387904 0 t401 t402 _ A2.out).mono ?_); rintro e w13 ⟨rfl, hb⟩; refine ⟨_, rfl, ?_⟩; replace HB := Aside0.mk (below_step (kH HB) hb); (try clear hb); (try clear hb2); (try clear hk); (try clear hi)))
 go_ret
 exact ⟨by first | rfl | (simp [errW_none, errW_some] <;> rfl) | (simp [*, errW_none, errW_some] <;> rfl), kH HB⟩
end Go.Proofs.Ytedjlpfggjcmfaa.X
end
section
namespace Go.Proofs.Ytedjlpfggjcmfaa
set_option linter.unusedVariables false
set_option linter.unusedSimpArgs false
open Go.RowKit X
theorem qN_lt (a : Int) : qN a < 2 ^ 254 := by
  have h := pS_bd a
  have h1 : (pS a).toNat < 9007199254740992 := by omega
  unfold qN
  exact Nat.lt_of_lt_of_le (Nat.mul_lt_mul_of_pos_right h1 (Nat.two_pow_pos 128)) (by decide)
theorem qN_T (a : Int) : qN a < T256 := by rw [T256_eq]; exact Nat.lt_trans (qN_lt a) (by decide)
theorem qN_e (a : Int) : (pS a).toNat * 2 ^ (128 : Int).toNat % T256 = qN a := by
  have h : (pS a).toNat * 2 ^ (128 : Int).toNat = qN a := by rw [show (128 : Int).toNat = 128 from rfl]; rfl
  rw [h]
  exact Nat.mod_eq_of_lt (qN_T a)
theorem qS_lt (a b : Int) : qS a b < 2 ^ 254 := Nat.lt_of_le_of_lt (Nat.div_le_self _ _) (qN_lt a)
theorem pS_T (a : Int) : (pS a).toNat < T256 := by have := pS_bd a; rw [T256_eq]; omega
theorem U_pS (a : Int) : U (pS a) := by have := pS_bd a; unfold U; omega
theorem nil_words {r : Nat} (h : r < T256) : (!(l0 r == 0) || (!(l1 r == 0) || (!(l2 r == 0) || !(l3 r == 0)))) = !decide (r = 0) := by
  have := l_eq_zero h
  rw [Bool.eq_iff_iff]
  simp only [Bool.or_eq_true, Bool.not_eq_true', beq_eq_false_iff_ne, ne_eq, decide_eq_false_iff_not]
  rw [← this]
  omega
theorem div_chain (k : Nat) (m x1 x2 q1 q2 : Int) (c : Bool) (ma mb : Bool) (ca cb : Int) (u v : Int) (N S T : Nat) (hu : inU u = true) (hv : inU v = true) (hN : u.toNat * 2 ^ (128 : Int).toNat % T256 = N) (hNT : N < T256) (hu2 : u.toNat < T256) (hv2 : v.toNat < T256) (hv0 : v.toNat ≠ 0)
    (hS : N / v.toNat = S) (hT : N % v.toNat = T) (hS2 : S < 2 ^ 254) (hT2 : T < T256) (e1 : wrap64 (x1 - x2) = q1) (e2 : wrap64 (q1 - 128) = q2) (b1 : -131072 ≤ q2) (b2 : q2 ≤ 131072) (h1 : ¬ ca = 3) (h2 : ¬ cb = 3) (h0 : ¬ cb = 0) :
    quot_Div.j1 (k + 1) m (sg c) false ma ca x1 u mb cb x2 v = some (rRound c (rX (!decide (T = 0)) q2) (rS (!decide (T = 0)) S) m) := by
  have hS3 : S < T256 := by rw [T256_eq]; exact Nat.lt_trans hS2 (by decide)
  have eO := wide_Of.eq u hu
  have eP := wide_Of.eq v hv
  have eS := wide_Shl.eq hu2 128
  have eD := wide_DivMod.eq hNT hv2 hv0
  have eR := rnd_Round.eq hS3 c q2 (!decide (T = 0)) m hS2 b1 b2
  have en := nil_words hT2
  rw [hN] at eS
  rw [hS, hT] at eD
  simp only [quot_Div.j1]
  rw [if_neg (by decide), if_neg h1, if_neg h2, if_neg h0]
  rw [eO]
  simp only [Option.bind_some]
  rw [eS]
  simp only [Option.bind_some]
  rw [eP]
  simp only [Option.bind_some]
  rw [eD]
  simp only [Option.bind_some]
  rw [e1, e2, sg_ne, en, eR]
  rfl
theorem div_main (k : Nat) (a b m : Int) (h1 : pC a < 3) (h2 : pC b < 3) (h0 : pC b ≠ 0) : quot_Div.j1 (k + 1) m (sg (qMi a b)) false (pM a) (pC a) (pX a) (pS a) (pM b) (pC b) (pX b) (pS b) = some (qMain a b m) := by
  have hpa := pS_bd a
  have hpb := pS_bd b
  have hxa := pX_bd a
  have hxb := pX_bd b
  have hsb := pS_pos b h0 (by omega)
  have hT : qT a b < T256 := Nat.lt_of_le_of_lt (Nat.mod_le _ _) (qN_T a)
  exact div_chain k m (pX a) (pX b) (pX a - pX b) (pX a - pX b - 128) (qMi a b) (pM a) (pM b) (pC a) (pC b) (pS a) (pS b) (qN a) (qS a b) (qT a b) (inU_of (U_pS a)) (inU_of (U_pS b)) (qN_e a) (qN_T a) (pS_T a) (pS_T b) (by omega)
    rfl rfl (qS_lt a b) hT (by unfold wrap64; omega) (by unfold wrap64; omega) (by omega) (by omega) (by omega) (by omega) h0
theorem div_spec (k : Nat) (a b m : Int) (ha : U a) (hb : U b) : quot_Div.f (k + 2) a b m = some (qDiv a b m) := by
  have hx := bits_xor_U a b ha hb
  have e1 : bits .and .u64 (bits .xor .u64 a b) 9223372036854775808 = sg (qMi a b) := by rw [band_sg _ hx.1, hx.2]; rfl
  have e2 := bor_inf (qMi a b)
  have ca := pC_bd a
  have cb := pC_bd b
  unfold quot_Div.f
  rw [e1, pat_Take.eq a (inU_of ha), Option.bind_some, pat_Take.eq b (inU_of hb), Option.bind_some, pat_IsNaN.eq a (inU_of ha), Option.bind_some, pat_IsNaN.eq b (inU_of hb)]
  unfold qDiv
  by_cases n1 : 3 < pC a
  · rw [decide_eq_true n1, if_pos rfl, if_pos (Or.inl n1)]
    simp only [quot_Div.j0]
    rw [if_pos trivial, quot_none.eq a b (inU_of ha) (inU_of hb)]
    rfl
  · rw [decide_eq_false n1, if_neg (by decide), Option.bind_some]
    by_cases n2 : 3 < pC b
    · rw [decide_eq_true n2, if_pos (Or.inr n2)]
      simp only [quot_Div.j0]
      rw [if_pos trivial, quot_none.eq a b (inU_of ha) (inU_of hb)]
      rfl
    · rw [decide_eq_false n2, if_neg (by omega)]
      simp only [quot_Div.j0]
      rw [if_neg (by decide)]
      by_cases q : pC a = pC b
      · by_cases q0 : pC a = 0
        · rw [if_pos q, if_pos q0, if_pos ⟨q, .inl q0⟩]
          simp only [quot_Div.j1]
          rw [if_pos trivial]
        · rw [if_pos q, if_neg q0]
          by_cases q3 : pC a = 3
          · rw [if_pos ⟨q, .inr q3⟩, beq_iff_eq.mpr q3]
            simp only [quot_Div.j1]
            rw [if_pos trivial]
          · rw [if_neg (by omega), beq_eq_false_iff_ne.mpr q3, if_neg q3, if_neg (by omega), if_neg (by omega)]
            exact div_main k a b m (by omega) (by omega) (by omega)
      · rw [if_neg q, if_neg (by omega)]
        by_cases q3 : pC a = 3
        · rw [if_pos q3]
          simp only [quot_Div.j1]
          rw [if_neg (by decide), if_pos q3, e2]
        · rw [if_neg q3]
          by_cases r3 : pC b = 3
          · rw [if_pos r3]
            simp only [quot_Div.j1]
            rw [if_neg (by decide), if_neg q3, if_pos r3]
          · rw [if_neg r3]
            by_cases r0 : pC b = 0
            · rw [if_pos r0]
              simp only [quot_Div.j1]
              rw [if_neg (by decide), if_neg q3, if_neg r3, if_pos r0, e2]
            · rw [if_neg r0]
              exact div_main k a b m (by omega) (by omega) r0
end Go.Proofs.Ytedjlpfggjcmfaa
end
section
namespace Go.Proofs.Ytedjlpfggjcmfaa
set_option linter.unusedVariables false
set_option linter.unusedSimpArgs false
open Go.RowKit X
theorem and_one (x : Int) : bits .and .i64 x 1 = x % 2 := by
  show IntKind.i64.wrap ((BitVec.ofInt 64 x &&& BitVec.ofInt 64 1).toNat : Int) = x % 2
  have hb : (BitVec.ofInt 64 x &&& BitVec.ofInt 64 1).toNat = (x % 2).toNat := by
    rw [BitVec.toNat_and, BitVec.toNat_ofInt, show (BitVec.ofInt 64 1).toNat = 2 ^ 1 - 1 from rfl, Nat.and_two_pow_sub_one_eq_mod]
    omega
  rw [hb, IntKind.wrap_i64]
  omega
def sB (a : Int) : Int := 126 + pX a % 2
def sN (a : Int) : Nat := (pS a).toNat * 2 ^ (sB a).toNat
def sT (a : Int) : Nat := sN a - isq (sN a) * isq (sN a)
def sMain (a m : Int) : Int × Int := rRound false (rX (!decide (sT a = 0)) ((pX a - sB a) / 2)) (rS (!decide (sT a = 0)) (isq (sN a))) m
def qSqrt (a m : Int) : Int × Int := if 3 < pC a then qNone a a else if pC a = 0 then (a, 0) else if pM a = true then (9221120237041090560, 1) else if pC a = 3 then (a, 0) else sMain a m
theorem sB_bd (a : Int) : 126 ≤ sB a ∧ sB a ≤ 127 := by unfold sB; omega
theorem sN_lt (a : Int) : sN a < 2 ^ 200 := by
  have h := pS_bd a
  have hb := sB_bd a
  have h1 : (pS a).toNat < 2 ^ 53 := by rw [show (2 : Nat) ^ 53 = 9007199254740992 from rfl]; omega
  unfold sN
  have h2 : 2 ^ (sB a).toNat ≤ 2 ^ 127 := Nat.pow_le_pow_right (by decide) (by omega)
  have h3 : (pS a).toNat * 2 ^ (sB a).toNat ≤ (pS a).toNat * 2 ^ 127 := Nat.mul_le_mul_left _ h2
  have h4 := Nat.mul_lt_mul_of_pos_right h1 (Nat.two_pow_pos 127)
  rw [← Nat.pow_add] at h4
  exact Nat.lt_of_le_of_lt h3 (Nat.lt_trans h4 (by decide))
theorem sN_T (a : Int) : sN a < T256 := by rw [T256_eq]; exact Nat.lt_trans (sN_lt a) (by decide)
theorem sN_ge {a : Int} (h : 0 < pS a) : 2 ^ 126 ≤ sN a := by
  have hb := sB_bd a
  unfold sN
  have h2 : 2 ^ 126 ≤ 2 ^ (sB a).toNat := Nat.pow_le_pow_right (by decide) (by omega)
  exact Nat.le_trans h2 (Nat.le_mul_of_pos_left _ (by omega))
theorem isq_le (n : Nat) (h : n < T256) : isq n < 2 ^ 254 := by
  have h1 := (isq_spec h).1
  rcases Nat.lt_or_ge (isq n) (2 ^ 254) with g | g
  · exact g
  · have h2 : 2 ^ 254 * 2 ^ 254 ≤ isq n * isq n := Nat.mul_le_mul g g
    have h3 : T256 ≤ 2 ^ 254 * 2 ^ 254 := by rw [T256_eq]; decide
    omega
theorem sqrt_chain (m x u : Int) (N : Nat) (b e : Int) (S T : Nat) (hu : inU u = true) (hu2 : u.toNat < T256) (hN : u.toNat * 2 ^ b.toNat % T256 = N) (hNT : N < T256) (hN0 : N ≠ 0) (hS : isq N = S) (hT : N - S * S = T) (hS2 : S < 2 ^ 254) (hT2 : T < T256)
    (eb : wrap64 (126 + (bits .and .i64 x 1)) = b) (ee : wrap64 (Int.tdiv (wrap64 (x - b)) 2) = e) (b1 : -131072 ≤ e) (b2 : e ≤ 131072) :
    ((wide_Of.f u).bind fun bt379 => ((wide_Shl.f bt379.1 bt379.2.1 bt379.2.2.1 bt379.2.2.2 (wrap64 (126 + (bits .and .i64 x 1)))).bind fun bt383 => ((wide_Sqrt.f bt383.1 bt383.2.1 bt383.2.2.1 bt383.2.2.2).bind fun bt387 => ((rnd_Round.f false (wrap64 (Int.tdiv (wrap64 (x - (wrap64 (126 + (bits .and .i64 x 1))))) 2)) bt387.1 bt387.2.1 bt387.2.2.1 bt387.2.2.2.1 (!(bt387.2.2.2.2.1 == 0) || (!(bt387.2.2.2.2.2.1 == 0) || (!(bt387.2.2.2.2.2.2.1 == 0) || (!(bt387.2.2.2.2.2.2.2 == 0))))) m).bind fun bt397 => (some (bt397.1, bt397.2)))))) =
      some (rRound false (rX (!decide (T = 0)) e) (rS (!decide (T = 0)) S) m) := by
  have hS3 : S < T256 := by rw [T256_eq]; exact Nat.lt_trans hS2 (by decide)
  have eO := wide_Of.eq u hu
  have eS := wide_Shl.eq hu2 b
  have eD := wide_Sqrt.eq hNT hN0
  have eR := rnd_Round.eq hS3 false e (!decide (T = 0)) m hS2 b1 b2
  have en := nil_words hT2
  rw [hN] at eS
  rw [hS, hT] at eD
  rw [eb, eO]
  simp only [Option.bind_some]
  rw [eS]
  simp only [Option.bind_some]
  rw [eD]
  simp only [Option.bind_some]
  rw [ee, en, eR]
  rfl
theorem sqrt_spec (a m : Int) (ha : U a) : quot_Sqrt.f a m = some (qSqrt a m) := by
  unfold quot_Sqrt.f qSqrt
  rw [pat_Take.eq a (inU_of ha), Option.bind_some, pat_IsNaN.eq a (inU_of ha), Option.bind_some]
  by_cases n1 : 3 < pC a
  · rw [decide_eq_true n1, if_pos rfl, if_pos n1, quot_none.eq a a (inU_of ha) (inU_of ha)]
    rfl
  · rw [decide_eq_false n1, if_neg (by decide), if_neg n1]
    by_cases c0 : pC a = 0
    · rw [if_pos c0, if_pos c0]
    · rw [if_neg c0, if_neg c0]
      by_cases cm : pM a = true
      · rw [if_pos cm, if_pos cm]
      · rw [if_neg cm, if_neg cm]
        by_cases c3 : pC a = 3
        · rw [if_pos c3, if_pos c3]
        · rw [if_neg c3, if_neg c3]
          have hx := pX_bd a
          have hb := sB_bd a
          have hs := pS_pos a c0 c3
          have hN := sN_T a
          have hT : sT a < T256 := Nat.lt_of_le_of_lt (Nat.sub_le _ _) hN
          have hge := sN_ge hs
          have hN0 : sN a ≠ 0 := by have := Nat.two_pow_pos 126; omega
          refine sqrt_chain m (pX a) (pS a) (sN a) (sB a) ((pX a - sB a) / 2) (isq (sN a)) (sT a) (inU_of (U_pS a)) (pS_T a) (Nat.mod_eq_of_lt hN) hN hN0 rfl rfl (isq_le _ hN) hT ?_ ?_ (by omega) (by omega)
          · rw [and_one]; unfold sB wrap64; omega
          · have : (pX a - sB a) % 2 = 0 := by unfold sB; omega
            have e1 : wrap64 (pX a - sB a) = pX a - sB a := by unfold wrap64; omega
            have e2 : Int.tdiv (pX a - sB a) 2 = (pX a - sB a) / 2 := by
              obtain ⟨z, hz⟩ : ∃ z, pX a - sB a = 2 * z := ⟨(pX a - sB a) / 2, by omega⟩
              rw [hz, Int.mul_tdiv_cancel_left _ (by decide), Int.mul_ediv_cancel_left _ (by decide)]
            rw [e1, e2]; unfold wrap64; omega
end Go.Proofs.Ytedjlpfggjcmfaa
end
section
namespace Go.Proofs.Ytedjlpfggjcmfaa
set_option linter.unusedVariables false
set_option linter.unusedSimpArgs false
open Go.RowKit
theorem pM_pos {A : Int} (h : A < 9223372036854775808) : pM A = false := by unfold pM; exact decide_eq_false (by omega)
theorem one_parts : pC 4607182418800017408 = 2 ∧ pX 4607182418800017408 = -52 ∧ pS 4607182418800017408 = 4503599627370496 ∧ pM 4607182418800017408 = false := by decide
theorem div_one {a : Int} (ha : U a) (h : pC a ≤ 3) (m : Int) : qDiv a 4607182418800017408 m = (a, 0) := by
  obtain ⟨o1, o2, o3, o4⟩ := one_parts
  have hm : qMi a 4607182418800017408 = pM a := by unfold qMi; rw [o4]; cases pM a <;> rfl
  unfold qDiv
  rw [o1, hm, if_neg (by omega), if_neg (by omega)]
  by_cases n3 : pC a = 3
  · rw [if_pos n3]
    have : a = 9218868437227405312 + sg (pM a) := by
      have hE := pE_bd a
      have hF := pF_bd a
      unfold pC at n3
      by_cases e : pE a = 2047
      · rw [if_pos e] at n3
        by_cases f : pF a = 0
        · unfold pE at e; unfold pF at f; unfold U at ha; unfold pM sg
          by_cases g : 9223372036854775808 ≤ a
          · rw [decide_eq_true g, if_pos rfl]; omega
          · rw [decide_eq_false g, if_neg (by decide)]; omega
        · rw [if_neg f] at n3; split at n3 <;> omega
      · rw [if_neg e] at n3; split at n3; omega; split at n3 <;> omega
    rw [← this]
  · rw [if_neg n3, if_neg (by omega), if_neg (by omega)]
    have e0 : qN a = (pS a).toNat * 2 ^ 76 * 4503599627370496 := by unfold qN; rw [Nat.mul_assoc]
    have e1 : qS a 4607182418800017408 = (pS a).toNat * 2 ^ 76 := by
      unfold qS
      rw [o3, e0]
      exact Nat.mul_div_cancel _ (by decide)
    have e2 : qR a 4607182418800017408 = false := by
      unfold qR qT
      rw [o3, e0, show ((4503599627370496 : Int)).toNat = 4503599627370496 from rfl, Nat.mul_mod_left]
      rfl
    unfold qMain
    rw [e1, e2, hm, o2]
    have := round_exact ha (by omega) 76 m
    rw [show rX false (pX a - -52 - 128) = pX a - ((76 : Nat) : Int) by unfold rX; rw [if_neg (by decide)]; omega]
    exact this
theorem zero_iff {a : Int} : pA a = 0 ↔ pC a = 0 := by
  have hE := pE_bd a
  have hF := pF_bd a
  have e : pA a = pE a * 4503599627370496 + pF a := by unfold pA pE pF; omega
  unfold pC
  rw [e]
  constructor
  · intro h
    rw [if_neg (by omega), if_neg (by omega), if_neg (by omega)]
  · intro h
    split at h
    · split at h; omega; split at h <;> omega
    · split at h; omega; split at h <;> omega
end Go.Proofs.Ytedjlpfggjcmfaa
end
section
namespace Go.Proofs.Ytedjlpfggjcmfaa
set_option linter.unusedVariables false
set_option linter.unusedSimpArgs false
open Go.RowKit
theorem odd_cut {s : Nat} {e n : Int} (h : e < n) (ho : rOdd s e n = false) : cutQ s e n * 2 ^ (n - e).toNat = s := by
  unfold rOdd cutH cutR at ho
  rw [if_neg (by omega), if_neg (by omega)] at ho
  obtain ⟨k, hk⟩ : ∃ k, (n - e).toNat = k + 1 := ⟨(n - e).toNat - 1, by omega⟩
  rw [show (n - e - 1).toNat = k by omega] at ho
  obtain ⟨h1, h2⟩ := Bool.or_eq_false_iff.1 ho
  have h1 := of_decide_eq_false h1
  have h2 := of_decide_eq_false h2
  have g2 : s % 2 ^ k = 0 := by omega
  have g1 : s / 2 ^ k % 2 = 0 := by omega
  have hm : s % 2 ^ (k + 1) = 0 := by rw [Nat.pow_succ, Nat.mod_mul, g1, g2, Nat.mul_zero]
  unfold cutQ
  rw [if_neg (by omega), hk]
  exact Nat.div_mul_cancel (Nat.dvd_of_mod_eq_zero hm)
theorem sq_exact {x : Int} {s : Nat} {p m : Int} (hs : s ≠ 0) (h : rRound false x s m = (p, 0)) :
    U p ∧ pM p = false ∧ pC p ≠ 0 ∧ pC p < 3 ∧ pX p = rN x s ∧ (pS p).toNat = cutQ s x (rN x s) ∧ rOdd s x (rN x s) = false := by
  rw [round_eq _ _ _ _ hs] at h
  by_cases c : 9218868437227405312 ≤ PQ false x s m
  · rw [if_pos c] at h
    exact absurd (congrArg Prod.snd h) (by show ¬ (20 : Int) = 0; decide)
  · rw [if_neg c] at h
    have h1 : PQ false x s m + 0 = p := congrArg Prod.fst h
    have h2 : rFlag false x s m = 0 := congrArg Prod.snd h
    have ho : rOdd s x (rN x s) = false := by
      rcases rFlag_cases false x s m with ⟨_, g⟩ | ⟨g, _⟩
      · exact g
      · omega
    have hu := uu_exact false x s m ho
    have hl := cutQ53_lt (x := x) hs
    have hg := cutQ_ge (x := x) hs
    have hn := rN_ge x s
    have h0 : cutQ s x (rN x s) ≠ 0 := by
      intro z
      by_cases hc : rN x s ≤ x
      · have := cutQ_no_mod hs hc
        rw [z] at this
        have h3 : 0 < s * 2 ^ (x - rN x s).toNat := Nat.mul_pos (by omega) (Nat.two_pow_pos _)
        omega
      · have := odd_cut (show x < rN x s by omega) ho
        rw [z, Nat.zero_mul] at this
        exact hs this.symm
    unfold PQ at h1 c
    rw [hu] at h1 c
    rw [show (2 : Nat) ^ 53 = 9007199254740992 from rfl] at hl
    rw [show (2 : Nat) ^ 52 = 4503599627370496 from rfl] at hg
    generalize cutQ s x (rN x s) = q at *
    generalize rN x s = n at *
    refine ⟨by unfold U; omega, by unfold pM; exact decide_eq_false (by omega), ?_⟩
    by_cases big : 4503599627370496 ≤ q
    · have e1 : pE p = n + 1075 := by unfold pE; omega
      have e2 : pF p = (q : Int) - 4503599627370496 := by unfold pF; omega
      unfold pC pX pS
      rw [e1, e2, if_neg (by omega), if_pos (by omega), if_neg (by omega), if_pos (by omega), if_neg (by omega), if_pos (by omega)]
      refine ⟨by omega, by omega, by omega, by omega, ho⟩
    · have hn2 : n = -1074 := by
        rcases (show -1074 < n ∨ n ≤ -1074 by omega) with g | g
        · exact absurd (hg g) big
        · omega
      have e1 : pE p = 0 := by unfold pE; omega
      have e2 : pF p = (q : Int) := by unfold pF; omega
      unfold pC pX pS
      rw [e1, e2, if_neg (by omega), if_neg (by omega), if_pos (by omega), if_neg (by omega), if_neg (by omega), if_neg (by omega), if_neg (by omega)]
      refine ⟨by omega, by omega, by omega, by omega, ho⟩
theorem sq_root {a p m : Int} {S : Nat} (ha : pC a < 3) (h0 : pC a ≠ 0) (hS : (pS a).toNat = S) (h : rRound false (pX a + pX a) (S * S) m = (p, 0)) : qSqrt p 0 = (pA a, 0) := by
  have hsa := pS_pos a h0 (by omega)
  have hba := pS_bd a
  have hS0 : S ≠ 0 := by omega
  have hSS : S * S ≠ 0 := Nat.mul_ne_zero hS0 hS0
  obtain ⟨hU, hM, hc0, hc3, hX, hP, ho⟩ := sq_exact hSS h
  have hxp := pX_bd p
  have hbd := sB_bd p
  have hsp := pS_pos p hc0 (by omega)
  have ev : (pX p - sB p) % 2 = 0 := by unfold sB; omega
  obtain ⟨e, he⟩ : ∃ e, pX p - sB p = 2 * e := ⟨(pX p - sB p) / 2, by omega⟩
  have hhalf : (pX p - sB p) / 2 = e := by omega
  have key : pX a ≥ e ∧ sN p = (S * 2 ^ (pX a - e).toNat) * (S * 2 ^ (pX a - e).toNat) := by
    have sq : ∀ k : Nat, (S * 2 ^ k) * (S * 2 ^ k) = S * S * 2 ^ (k + k) := fun k => by rw [Nat.mul_mul_mul_comm, ← Nat.pow_add]
    unfold sN
    rw [hP]
    by_cases c : rN (pX a + pX a) (S * S) ≤ pX a + pX a
    · rw [cutQ_no_mod hSS c, sq, Nat.mul_assoc, ← Nat.pow_add]
      exact ⟨by omega, by congr 2; omega⟩
    · have hb := odd_cut (show pX a + pX a < rN (pX a + pX a) (S * S) by omega) ho
      have hd : (rN (pX a + pX a) (S * S) - (pX a + pX a)).toNat < 106 := by
        rcases Nat.lt_or_ge (rN (pX a + pX a) (S * S) - (pX a + pX a)).toNat 106 with g | g
        · exact g
        · have h1 : 2 ^ 106 ≤ 2 ^ (rN (pX a + pX a) (S * S) - (pX a + pX a)).toNat := Nat.pow_le_pow_right (by decide) g
          have h2 : 2 ^ (rN (pX a + pX a) (S * S) - (pX a + pX a)).toNat ≤ S * S := by
            conv => rhs; rw [← hb]
            exact Nat.le_mul_of_pos_left _ (by omega)
          have h3 : S * S < 2 ^ 53 * 2 ^ 53 := Nat.mul_lt_mul'' (by rw [show (2 : Nat) ^ 53 = 9007199254740992 from rfl]; omega) (by rw [show (2 : Nat) ^ 53 = 9007199254740992 from rfl]; omega)
          rw [← Nat.pow_add] at h3
          omega
      refine ⟨by omega, ?_⟩
      rw [sq]
      conv => rhs; rw [← hb]
      rw [Nat.mul_assoc, ← Nat.pow_add]
      congr 2
      omega
  obtain ⟨hge, hN⟩ := key
  generalize hk : (pX a - e).toNat = k at *
  have hNT := sN_T p
  have hi : S * 2 ^ k = isq (sN p) := isq_eq hNT (by rw [hN]; exact Nat.le_refl _) (by rw [hN]; exact Nat.mul_lt_mul'' (by omega) (by omega))
  have hT : sT p = 0 := by unfold sT; rw [← hi, hN]; omega
  unfold qSqrt
  rw [if_neg (by omega), if_neg hc0, if_neg (by rw [hM]; decide), if_neg (by omega)]
  unfold sMain
  rw [hT, hhalf, ← hi]
  show rRound false e (S * 2 ^ k) 0 = (pA a, 0)
  have eE : pE (pA a) = pE a := by unfold pE pA; omega
  have eF : pF (pA a) = pF a := by unfold pF pA; omega
  have eX : pX (pA a) = pX a := by unfold pX; rw [eE]
  have eS : pS (pA a) = pS a := by unfold pS; rw [eE, eF]
  have eC : pC (pA a) = pC a := by unfold pC; rw [eE, eF]
  have hr := round_exact (U_A a) (by rw [eC]; exact ha) k 0
  rw [pM_pos (pA_bd a).2, eX, eS, hS, show pX a - (k : Int) = e by omega] at hr
  exact hr
theorem mid_flag {x : Int} {s : Nat} (m : Int) (hs : s ≠ 0) (h1 : -1021 ≤ x + (blen s : Int)) (h2 : x + (blen s : Int) ≤ 1000) : (rRound false x s m).2 = 0 ∨ (rRound false x s m).2 = 16 := by
  rw [round_eq _ _ _ _ hs]
  have hl := cutQ53_lt (x := x) hs
  rw [show (2 : Nat) ^ 53 = 9007199254740992 from rfl] at hl
  have hu := uu_le false x s m
  have hn : rN x s ≤ 947 := by rcases rN_cases x s with g | g <;> omega
  rw [if_neg (by unfold PQ; omega)]
  show rFlag false x s m = 0 ∨ rFlag false x s m = 16
  unfold rFlag rTiny rTop
  rw [if_pos h1]
  split <;> simp
theorem root_mid {b : Int} (h0 : pC b ≠ 0) (h3 : pC b < 3) : ∃ x s, s ≠ 0 ∧ -1021 ≤ x + (blen s : Int) ∧ x + (blen s : Int) ≤ 1000 ∧ ∀ m, sMain b m = rRound false x s m := by
  have hs := pS_pos b h0 (by omega)
  have hx := pX_bd b
  have hbd := sB_bd b
  have hge := sN_ge hs
  have hlt := sN_lt b
  obtain ⟨i1, i2⟩ := isq_spec (sN_T b)
  have l1 : 2 ^ 62 ≤ isq (sN b) := by
    rcases Nat.lt_or_ge (isq (sN b)) (2 ^ 62) with g | g
    · have : (isq (sN b) + 1) * (isq (sN b) + 1) ≤ 2 ^ 62 * 2 ^ 62 := Nat.mul_le_mul g g
      rw [← Nat.pow_add] at this
      have : (2 : Nat) ^ (62 + 62) < 2 ^ 126 := by decide
      omega
    · exact g
  have l2 : isq (sN b) < 2 ^ 100 := by
    rcases Nat.lt_or_ge (isq (sN b)) (2 ^ 100) with g | g
    · exact g
    · have : 2 ^ 100 * 2 ^ 100 ≤ isq (sN b) * isq (sN b) := Nat.mul_le_mul g g
      rw [← Nat.pow_add] at this
      omega
  refine ⟨rX (!decide (sT b = 0)) ((pX b - sB b) / 2), rS (!decide (sT b = 0)) (isq (sN b)), ?_, ?_, ?_, fun m => rfl⟩
  · unfold rS; split <;> omega
  · have : blen (rS (!decide (sT b = 0)) (isq (sN b))) ≥ 0 := Nat.zero_le _
    unfold rX; split <;> omega
  · have : blen (rS (!decide (sT b = 0)) (isq (sN b))) ≤ 101 := blen_le_iff.2 (by
      have h101 : (2 : Nat) ^ 101 = 2 ^ 100 + 2 ^ 100 := by decide
      unfold rS; split <;> omega)
    unfold rX; split <;> omega
end Go.Proofs.Ytedjlpfggjcmfaa
end
section
namespace Go.Proofs.Ytedjlpfggjcmfaa
set_option linter.unusedVariables false
set_option linter.unusedSimpArgs false
open Go.RowKit X
theorem sure7 (k : Nat) : tillerlaw07_sure.f (k + 2) = some true := by
  unfold tillerlaw07_sure.f
  rw [div_spec k _ _ _ (by unfold U; omega) (by unfold U; omega)]
  decide +kernel
theorem U_wf {a : Int} (h : (Lit.int .u64 a).wf = true) : U a := by
  unfold Lit.wf at h
  simp only [Bool.and_eq_true, decide_eq_true_eq] at h
  exact h
end Go.Proofs.Ytedjlpfggjcmfaa
end
