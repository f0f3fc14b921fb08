/-
  What quot.Div answers, by numbers: the printed function is qDiv.
-/
import Derived.Test.YtedjlpfggjcmfaaMat
import Derived.Test.YtedjlpfggjcmfaaXquotDiv
namespace Go.Proofs.Ytedjlpfggjcmfaa
open Go.RowKit X
theorem qN_lt (a : Int) : qN a < 2 ^ 254 := by
  have h := pS_bd a
  have h1 : (pS a).toNat < 9007199254740992 := by omega
  unfold qN
  exact Nat.lt_of_lt_of_le (Nat.mul_lt_mul_of_pos_right h1 (Nat.two_pow_pos 128)) (by decide)
theorem qN_T (a : Int) : qN a < T256 := by rw [T256_eq]; exact Nat.lt_trans (qN_lt a) (by decide)
theorem qN_e (a : Int) : (pS a).toNat * 2 ^ (128 : Int).toNat % T256 = qN a := by
  have h : (pS a).toNat * 2 ^ (128 : Int).toNat = qN a := by rw [show (128 : Int).toNat = 128 from rfl]; rfl
  rw [h]
  exact Nat.mod_eq_of_lt (qN_T a)
theorem qS_lt (a b : Int) : qS a b < 2 ^ 254 := Nat.lt_of_le_of_lt (Nat.div_le_self _ _) (qN_lt a)
theorem pS_T (a : Int) : (pS a).toNat < T256 := by have := pS_bd a; rw [T256_eq]; omega
theorem U_pS (a : Int) : U (pS a) := by have := pS_bd a; unfold U; omega
theorem nil_words {r : Nat} (h : r < T256) : (!(l0 r == 0) || (!(l1 r == 0) || (!(l2 r == 0) || !(l3 r == 0)))) = !decide (r = 0) := by
  have := l_eq_zero h
  rw [Bool.eq_iff_iff]
  simp only [Bool.or_eq_true, Bool.not_eq_true', beq_eq_false_iff_ne, ne_eq, decide_eq_false_iff_not]
  rw [← this]
  omega

theorem div_chain (k : Nat) (m x1 x2 q1 q2 : Int) (c : Bool) (ma mb : Bool) (ca cb : Int) (u v : Int) (N S T : Nat) (hu : inU u = true) (hv : inU v = true) (hN : u.toNat * 2 ^ (128 : Int).toNat % T256 = N) (hNT : N < T256) (hu2 : u.toNat < T256) (hv2 : v.toNat < T256) (hv0 : v.toNat ≠ 0)
    (hS : N / v.toNat = S) (hT : N % v.toNat = T) (hS2 : S < 2 ^ 254) (hT2 : T < T256) (e1 : wrap64 (x1 - x2) = q1) (e2 : wrap64 (q1 - 128) = q2) (b1 : -131072 ≤ q2) (b2 : q2 ≤ 131072) (h1 : ¬ ca = 3) (h2 : ¬ cb = 3) (h0 : ¬ cb = 0) :
    quot_Div.j1 (k + 1) m (sg c) false ma ca x1 u mb cb x2 v = some (rRound c (rX (!decide (T = 0)) q2) (rS (!decide (T = 0)) S) m) := by
  have hS3 : S < T256 := by rw [T256_eq]; exact Nat.lt_trans hS2 (by decide)
  have eO := wide_Of.eq u hu
  have eP := wide_Of.eq v hv
  have eS := wide_Shl.eq hu2 128
  have eD := wide_DivMod.eq hNT hv2 hv0
  have eR := rnd_Round.eq hS3 c q2 (!decide (T = 0)) m hS2 b1 b2
  have en := nil_words hT2
  rw [hN] at eS
  rw [hS, hT] at eD
  simp only [quot_Div.j1]
  rw [if_neg (by decide), if_neg h1, if_neg h2, if_neg h0]
  rw [eO]
  simp only [Option.bind_some]
  rw [eS]
  simp only [Option.bind_some]
  rw [eP]
  simp only [Option.bind_some]
  rw [eD]
  simp only [Option.bind_some]
  rw [e1, e2, sg_ne, en, eR]
  rfl
theorem div_main (k : Nat) (a b m : Int) (h1 : pC a < 3) (h2 : pC b < 3) (h0 : pC b ≠ 0) : quot_Div.j1 (k + 1) m (sg (qMi a b)) false (pM a) (pC a) (pX a) (pS a) (pM b) (pC b) (pX b) (pS b) = some (qMain a b m) := by
  have hpa := pS_bd a
  have hpb := pS_bd b
  have hxa := pX_bd a
  have hxb := pX_bd b
  have hsb := pS_pos b h0 (by omega)
  have hT : qT a b < T256 := Nat.lt_of_le_of_lt (Nat.mod_le _ _) (qN_T a)
  exact div_chain k m (pX a) (pX b) (pX a - pX b) (pX a - pX b - 128) (qMi a b) (pM a) (pM b) (pC a) (pC b) (pS a) (pS b) (qN a) (qS a b) (qT a b) (inU_of (U_pS a)) (inU_of (U_pS b)) (qN_e a) (qN_T a) (pS_T a) (pS_T b) (by omega)
    rfl rfl (qS_lt a b) hT (by unfold wrap64; omega) (by unfold wrap64; omega) (by omega) (by omega) (by omega) (by omega) h0

theorem div_spec (k : Nat) (a b m : Int) (ha : U a) (hb : U b) : quot_Div.f (k + 2) a b m = some (qDiv a b m) := by
  have hx := bits_xor_U a b ha hb
  have e1 : bits .and .u64 (bits .xor .u64 a b) 9223372036854775808 = sg (qMi a b) := by rw [band_sg _ hx.1, hx.2]; rfl
  have e2 := bor_inf (qMi a b)
  have ca := pC_bd a
  have cb := pC_bd b
  unfold quot_Div.f
  rw [e1, pat_Take.eq a (inU_of ha), Option.bind_some, pat_Take.eq b (inU_of hb), Option.bind_some, pat_IsNaN.eq a (inU_of ha), Option.bind_some, pat_IsNaN.eq b (inU_of hb)]
  unfold qDiv
  by_cases n1 : 3 < pC a
  · rw [decide_eq_true n1, if_pos rfl, if_pos (Or.inl n1)]
    simp only [quot_Div.j0]
    rw [if_pos trivial, quot_none.eq a b (inU_of ha) (inU_of hb)]
    rfl
  · rw [decide_eq_false n1, if_neg (by decide), Option.bind_some]
    by_cases n2 : 3 < pC b
    · rw [decide_eq_true n2, if_pos (Or.inr n2)]
      simp only [quot_Div.j0]
      rw [if_pos trivial, quot_none.eq a b (inU_of ha) (inU_of hb)]
      rfl
    · rw [decide_eq_false n2, if_neg (by omega)]
      simp only [quot_Div.j0]
      rw [if_neg (by decide)]
      by_cases q : pC a = pC b
      · by_cases q0 : pC a = 0
        · rw [if_pos q, if_pos q0, if_pos ⟨q, .inl q0⟩]
          simp only [quot_Div.j1]
          rw [if_pos trivial]
        · rw [if_pos q, if_neg q0]
          by_cases q3 : pC a = 3
          · rw [if_pos ⟨q, .inr q3⟩, beq_iff_eq.mpr q3]
            simp only [quot_Div.j1]
            rw [if_pos trivial]
          · rw [if_neg (by omega), beq_eq_false_iff_ne.mpr q3, if_neg q3, if_neg (by omega), if_neg (by omega)]
            exact div_main k a b m (by omega) (by omega) (by omega)
      · rw [if_neg q, if_neg (by omega)]
        by_cases q3 : pC a = 3
        · rw [if_pos q3]
          simp only [quot_Div.j1]
          rw [if_neg (by decide), if_pos q3, e2]
        · rw [if_neg q3]
          by_cases r3 : pC b = 3
          · rw [if_pos r3]
            simp only [quot_Div.j1]
            rw [if_neg (by decide), if_neg q3, if_pos r3]
          · rw [if_neg r3]
            by_cases r0 : pC b = 0
            · rw [if_pos r0]
              simp only [quot_Div.j1]
              rw [if_neg (by decide), if_neg q3, if_neg r3, if_pos r0, e2]
            · rw [if_neg r0]
              exact div_main k a b m (by omega) (by omega) r0
end Go.Proofs.Ytedjlpfggjcmfaa
