import Derived.Test.YtedjlpfggjcmfaaKQ9
import Derived.Test.YtedjlpfggjcmfaaKQXtillerlaw07QuotSquares
section
namespace Go.Proofs.Ytedjlpfggjcmfaa
set_option linter.unusedVariables false
set_option linter.unusedSimpArgs false
open Go.RowKit X Go.Proofs.YtedjlpfggjcmfaaW.PrintWords
theorem infA_iff {a : Int} : pA a = 9218868437227405312 ↔ pC a = 3 := by
  have hE := pE_bd a
  have hF := pF_bd a
  have e : pA a = pE a * 4503599627370496 + pF a := by unfold pA pE pF; omega
  unfold pC
  split <;> (try split) <;> (try split) <;> omega
theorem le_inf_iff {a : Int} : pA a ≤ 9218868437227405312 ↔ pC a ≤ 3 := by
  have hE := pE_bd a
  have hF := pF_bd a
  have e : pA a = pE a * 4503599627370496 + pF a := by unfold pA pE pF; omega
  unfold pC
  split <;> (try split) <;> (try split) <;> omega
theorem nothing_self {a : Int} (ha : U a) : prod_nothing.f a a = some false := by
  unfold prod_nothing.f
  rw [pat_Abs.eq a (inU_of ha), Option.bind_some, Option.bind_some]
  by_cases h : pA a = 0
  · rw [if_pos h, if_neg (by omega), if_neg (by omega)]
  · rw [if_neg h]
    by_cases h2 : pA a = 9218868437227405312
    · rw [if_pos h2, beq_eq_false_iff_ne.mpr h]
    · rw [if_neg h2]
theorem mul_fin {a m : Int} (ha : U a) (h : pC a < 3) (k : Nat) : prod_Mul.f (k + 2) a a m = some (rRound false (pX a + pX a) ((pS a).toNat * (pS a).toNat) m) := by
  have hs := pS_bd a
  have hx := pX_bd a
  have hs53 : (pS a).toNat < 2 ^ 53 := by rw [show (2 : Nat) ^ 53 = 9007199254740992 from rfl]; omega
  have hss : (pS a).toNat * (pS a).toNat < 2 ^ 53 * 2 ^ 53 := Nat.mul_lt_mul'' hs53 hs53
  rw [← Nat.pow_add] at hss
  have h254 : (pS a).toNat * (pS a).toNat < 2 ^ 254 := Nat.lt_trans hss (by decide)
  have hT : (pS a).toNat * (pS a).toNat < T256 := by rw [T256_eq]; exact Nat.lt_trans hss (by decide)
  have eM := wide_Mul.eq (pS_T a) (pS_T a) (by omega) (by omega)
  have eR := rnd_Round.eq hT false (pX a + pX a) false m h254 (by omega) (by omega)
  have ew : wrap64 (pX a + pX a) = pX a + pX a := by unfold wrap64; omega
  have eb : (pM a != pM a) = false := by cases pM a <;> rfl
  unfold prod_Mul.f
  rw [pat_IsNaN.eq a (inU_of ha), Option.bind_some, decide_eq_false (by omega), if_neg (by decide), Option.bind_some]
  simp only [prod_Mul.j0]
  rw [if_neg (by decide), nothing_self ha, Option.bind_some, if_neg (by decide), pat_Finite.eq a (inU_of ha), Option.bind_some, decide_eq_true h, if_pos rfl, Option.bind_some]
  simp only [prod_Mul.j1]
  rw [if_neg (by decide)]
  unfold prod_exact.f
  rw [pat_Take.eq a (inU_of ha)]
  simp only [Option.bind_some]
  rw [wide_Of.eq (pS a) (inU_of (U_pS a))]
  simp only [Option.bind_some]
  rw [eM]
  simp only [Option.bind_some]
  rw [eb, ew, eR]
  rfl
theorem mul_inf {a m : Int} (ha : U a) (h : pC a = 3) (k : Nat) : prod_Mul.f (k + 2) a a m = some (9218868437227405312, 0) := by
  have hx := bits_xor_U a a ha ha
  have e1 : bits .and .u64 (bits .xor .u64 a a) 9223372036854775808 = sg false := by rw [band_sg _ hx.1, hx.2]; cases pM a <;> rfl
  unfold prod_Mul.f
  rw [pat_IsNaN.eq a (inU_of ha), Option.bind_some, decide_eq_false (by omega), if_neg (by decide), Option.bind_some]
  simp only [prod_Mul.j0]
  rw [if_neg (by decide), nothing_self ha, Option.bind_some, if_neg (by decide), pat_Finite.eq a (inU_of ha), Option.bind_some, decide_eq_false (by omega), if_neg (by decide)]
  simp only [prod_Mul.j1]
  rw [if_pos trivial]
  unfold prod_sign.f
  rw [Option.bind_some, e1, bor_inf]
  rfl
theorem loud_self {a : Int} (ha : U a) (k : Nat) : ∃ t, prod_loud.f (k + 3) [a, a] = some t := by
  have r0 : rd [a, a] 0 = a := rfl
  have r1 : rd [a, a] 1 = a := rfl
  have w0 : wrap64 (0 + 1) = 1 := by unfold wrap64; omega
  have ll : (([a, a] : List Int).length : Int) = 2 := rfl
  have w1 : wrap64 (1 + 1) = 2 := by unfold wrap64; omega
  unfold prod_loud.f
  by_cases h : pC a = 5
  · refine ⟨1, ?_⟩
    simp only [prod_loud.l0]
    rw [ll, if_pos (by decide), if_pos (by decide), if_pos (by decide), r0, pat_Class.eq a (inU_of ha), Option.bind_some, if_pos h]
  · refine ⟨0, ?_⟩
    simp only [prod_loud.l0]
    rw [ll, if_pos (by decide), if_pos (by decide), if_pos (by decide), r0, pat_Class.eq a (inU_of ha), Option.bind_some, if_neg h, w0, if_pos (by decide), if_pos (by decide), if_pos (by decide), r1, pat_Class.eq a (inU_of ha), Option.bind_some, if_neg h, w1, if_neg (by decide)]
theorem sq_tail {b : Int} (hb : U b) (k : Nat) : tillerlaw07_QuotSquares.j1 (k + 4) b = some true := by
  have hbU := hb
  unfold U at hbU
  have done_ : tillerlaw07_QuotSquares.j2 (k + 3) b true = some true := by
    simp only [tillerlaw07_QuotSquares.j2]
    rw [if_pos trivial, sure7 k]
    rfl
  simp only [tillerlaw07_QuotSquares.j1]
  by_cases h0 : b = 0
  · rw [if_pos h0]; exact done_
  · rw [if_neg h0]
    by_cases h1 : b ≥ 9218868437227405312
    · rw [decide_eq_true h1]; exact done_
    · rw [decide_eq_false h1]
      have eA : pA b = b := by unfold pA; omega
      have hM : pM b = false := pM_pos (by omega)
      have c0 : pC b ≠ 0 := fun h => h0 (by rw [← eA]; exact zero_iff.2 h)
      have c3 : pC b < 3 := by
        have i1 := (le_inf_iff (a := b)).1 (by omega)
        have i2 : pC b ≠ 3 := fun h => by have := infA_iff.2 h; omega
        omega
      obtain ⟨x, s, hs, m1, m2, hr⟩ := root_mid c0 c3
      have eq : ∀ m, quot_Sqrt.f b m = some (rRound false x s m) := fun m => by
        rw [sqrt_spec b m hb]
        unfold qSqrt
        rw [if_neg (by omega), if_neg c0, if_neg (by rw [hM]; decide), if_neg (by omega), hr]
      obtain ⟨_, s2, _, s4, s5⟩ := round_sides x s 0
      have f4 := mid_flag (x := x) 4 hs m1 m2
      have f3 := mid_flag (x := x) 3 hs m1 m2
      have g4 := s4 4
      have g3 := s4 3
      have b4 := s5 4
      have ew : IntKind.u64.wrap ((rRound false x s 4).1 + 1) = (rRound false x s 4).1 + 1 := by rw [IntKind.wrap_u64]; omega
      simp only [tillerlaw07_QuotSquares.j2]
      rw [if_neg (by decide), eq 4, Option.bind_some, eq 3, Option.bind_some, ew]
      by_cases c : (rRound false x s 3).1 = (rRound false x s 4).1
      · have z4 : (rRound false x s 4).2 = 0 := by omega
        have z3 : (rRound false x s 3).2 = 0 := by omega
        rw [if_pos (by omega), if_pos c, if_pos z4, sure7 k]
        rfl
      · have z4 : (rRound false x s 4).2 = 16 := by omega
        have z3 : (rRound false x s 3).2 = 16 := by omega
        rw [if_pos (by omega), if_neg c, if_pos (by omega), if_pos z4, sure7 k]
        rfl
theorem QuotSquares : tillerlaw07_QuotSquares.Pure := by
  intro a b w0 w1
  have ha := U_wf w0
  have hb := U_wf w1
  refine ⟨5, ?_⟩
  have off : ∀ x, tillerlaw07_QuotSquares.j0 5 a b x false = some true := fun x => by
    simp only [tillerlaw07_QuotSquares.j0]
    rw [if_neg (by decide)]
    exact sq_tail hb 0
  have on : ∀ x, qSqrt x 0 = (pA a, 0) → U x → tillerlaw07_QuotSquares.j0 5 a b x true = some true := fun x hq hx => by
    simp only [tillerlaw07_QuotSquares.j0]
    rw [if_pos trivial, sqrt_spec x 0 hx, Option.bind_some, hq, bandnot_M a ha, if_pos rfl, if_pos rfl]
    exact sq_tail hb 0
  unfold tillerlaw07_QuotSquares.f
  rw [bandnot_M a ha]
  by_cases n : 3 < pC a
  · obtain ⟨t, ht⟩ := loud_self ha 1
    have hm : prod_Mul.f 5 a a 0 = some (9221120237041090560, t) := by
      unfold prod_Mul.f
      rw [pat_IsNaN.eq a (inU_of ha), Option.bind_some, decide_eq_true n, if_pos rfl]
      simp only [prod_Mul.j0]
      rw [if_pos trivial, ht]
      rfl
    rw [hm, Option.bind_some, decide_eq_false (by have := (le_inf_iff (a := a)); omega)]
    split <;> exact off _
  · rw [decide_eq_true (le_inf_iff.2 (by omega))]
    by_cases i : pC a = 3
    · rw [mul_inf ha i 3, Option.bind_some, if_pos rfl]
      refine on _ ?_ (by unfold U; omega)
      rw [infA_iff.2 i]
      decide
    · rw [mul_fin ha (by omega) 3, Option.bind_some]
      by_cases f : (rRound false (pX a + pX a) ((pS a).toNat * (pS a).toNat) 0).2 = 0
      · rw [if_pos f]
        by_cases z : pC a = 0
        · have hS : pS a = 0 := by have := zero_iff.2 z; have h3 := pF_bd a; have h4 := pE_bd a; unfold pA at this; unfold pS pE pF at *; split <;> omega
          have hr : rRound false (pX a + pX a) ((pS a).toNat * (pS a).toNat) 0 = (0, 0) := by unfold rRound; rw [hS, if_pos (show (0 : Int).toNat * (0 : Int).toNat = 0 from rfl)]; rfl
          rw [hr]
          refine on _ ?_ (by unfold U; omega)
          rw [zero_iff.2 z]
          decide
        · have e : rRound false (pX a + pX a) ((pS a).toNat * (pS a).toNat) 0 = ((rRound false (pX a + pX a) ((pS a).toNat * (pS a).toNat) 0).1, 0) := Prod.ext rfl f
          have hsa := pS_pos a z (by omega)
          have hS0 : (pS a).toNat ≠ 0 := by omega
          exact on _ (sq_root (by omega) z rfl e) (sq_exact (Nat.mul_ne_zero hS0 hS0) e).1
      · rw [if_neg f]
        exact off _
end Go.Proofs.Ytedjlpfggjcmfaa
end
section
namespace Go.Proofs.Ytedjlpfggjcmfaa.Pure
set_option linter.unusedVariables false
set_option linter.unusedSimpArgs false
theorem QuotSquares : Go.Proofs.Ytedjlpfggjcmfaa.X.tillerlaw07_QuotSquares.Pure := Go.Proofs.Ytedjlpfggjcmfaa.QuotSquares
end Go.Proofs.Ytedjlpfggjcmfaa.Pure
end
