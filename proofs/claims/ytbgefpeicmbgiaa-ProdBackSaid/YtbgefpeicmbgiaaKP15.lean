import Derived.Test.YtbgefpeicmbgiaaKPXtillerlaw06ProdBack
import Derived.Test.YtbgefpeicmbgiaaKP14
section
namespace Go.Proofs.Ytbgefpeicmbgiaa
set_option linter.unusedVariables false
set_option linter.unusedSimpArgs false
open Go.RowKit X
theorem qMi_comm (a b : Int) : qMi a b = qMi b a := by unfold qMi; cases pM a <;> cases pM b <;> rfl
theorem bad_comm (a b : Int) : bad a b = bad b a := by
  unfold bad
  rw [Bool.eq_iff_iff, decide_eq_true_iff, decide_eq_true_iff]
  omega
theorem qMul_comm (a b m : Int) : qMul b a m = qMul a b m := by
  unfold qMul qNone
  rw [bad_comm b a, qMi_comm b a, Int.add_comm (pX b), Nat.mul_comm (pS b).toNat]
  have e1 : (3 < pC b ∨ 3 < pC a) = (3 < pC a ∨ 3 < pC b) := propext Or.comm
  have e2 : (pC b = 3 ∨ pC a = 3) = (pC a = 3 ∨ pC b = 3) := propext Or.comm
  have e3 : (pC b = 5 ∨ pC a = 5) = (pC a = 5 ∨ pC b = 5) := propext Or.comm
  simp only [e1, e2, e3]
theorem zero_words (b : Bool) : pC (sg b) = 0 ∧ U (sg b) ∧ pM (sg b) = b ∧ (pS (sg b)).toNat = 0 := by
  refine ⟨by cases b <;> decide, U_sg b, pM_sg b, by cases b <;> decide⟩
theorem qFma_zero (a b m : Int) (c : Bool) (hc : c = qMi a b) : qFma a b (sg c) m = qMul a b m := by
  obtain ⟨z1, _, z3, z4⟩ := zero_words c
  unfold qFma qMul
  rw [z1, z3, z4]
  by_cases n : 3 < pC a ∨ 3 < pC b
  · have nb : ¬ bad a b = true := fun h => by have := (bad_iff a b).1 h; omega
    rw [if_neg nb, if_pos (by omega), if_pos n]
    unfold qNone
    congr 1
    by_cases g : pC a = 5 ∨ pC b = 5
    · rw [if_pos (by omega), if_pos g]
    · rw [if_neg (by omega), if_neg g]
  · rw [if_neg n]
    by_cases nb : bad a b = true
    · rw [if_pos nb, if_pos nb]
    · rw [if_neg nb, if_neg nb, if_neg (by omega)]
      by_cases i : pC a = 3 ∨ pC b = 3
      · rw [if_pos i, if_pos i, if_neg (by omega)]
      · rw [if_neg i, if_neg i, if_neg (by omega)]
        unfold qSumR sSum
        by_cases z : (pS a).toNat * (pS b).toNat = 0
        · rw [if_pos z, if_pos rfl, if_pos hc.symm, z]
        · rw [if_neg z, if_pos rfl]
theorem qMul_one {a : Int} (m : Int) (ha : U a) (h : pC a ≤ 3) : qMul a 4607182418800017408 m = (a, 0) := by
  obtain ⟨o1, o2, o3, o4⟩ := one_parts
  have hm : qMi a 4607182418800017408 = pM a := by unfold qMi; rw [o4]; cases pM a <;> rfl
  have nb : ¬ bad a 4607182418800017408 = true := fun h => by have := (bad_iff a 4607182418800017408).1 h; omega
  unfold qMul
  rw [hm, if_neg (by omega), if_neg nb, o1]
  by_cases i : pC a = 3
  · have e := pA_sg ha
    rw [inf_iff.2 i] at e
    rw [if_pos (.inl i), ← e]
  · have := round_exact ha (by omega) 52 m
    rw [if_neg (by omega), o2, o3, show (4503599627370496 : Int).toNat = 2 ^ 52 from rfl, show pX a + -52 = pX a - ((52 : Nat) : Int) by omega]
    exact this
theorem ProdBack : tillerlaw06_ProdBack.Pure := by
  intro a b m w0 w1 w2
  have ha := U_wf w0
  have hb := U_wf w1
  have hx := bits_xor_U a b ha hb
  have eZ : bits .and .u64 (bits .xor .u64 a b) 9223372036854775808 = sg (qMi a b) := by rw [band_sg _ hx.1, hx.2]; rfl
  have hz := (zero_words (qMi a b)).2.1
  have e1 := qFma_zero a b m (qMi a b) rfl
  have e2 := qFma_zero b a m (qMi a b) (qMi_comm a b)
  rw [qMul_comm a b m] at e2
  refine ⟨13, ?_⟩
  unfold tillerlaw06_ProdBack.f
  rw [eZ, mul_spec 8 m ha hb, Option.bind_some, mul_spec 8 m hb ha, Option.bind_some, fma_spec 5 m ha hb hz, Option.bind_some, fma_spec 5 m hb ha hz, Option.bind_some, qMul_comm a b m, e1, e2, if_pos rfl, if_pos rfl, if_pos rfl, if_pos rfl, if_pos rfl]
  rw [show ((qMul a b m).2 != (qMul a b m).2) = false by simp]
  simp only [tillerlaw06_ProdBack.j0]
  rw [if_neg (by decide), mul_spec 7 m ha (by unfold U; omega), Option.bind_some, bandnot_M a ha, sure06 0]
  by_cases n : pA a > 9218868437227405312
  · rw [if_pos n]
    rfl
  · have hc : pC a ≤ 3 := by have := mt (nan_iff a ha).2 n; omega
    rw [if_neg n, qMul_one m ha hc, if_pos rfl, if_pos rfl]
    rfl
end Go.Proofs.Ytbgefpeicmbgiaa
end
section
namespace Go.Proofs.Ytbgefpeicmbgiaa.Pure
set_option linter.unusedVariables false
set_option linter.unusedSimpArgs false
theorem ProdBack : Go.Proofs.Ytbgefpeicmbgiaa.X.tillerlaw06_ProdBack.Pure := Go.Proofs.Ytbgefpeicmbgiaa.ProdBack
end Go.Proofs.Ytbgefpeicmbgiaa.Pure
end
