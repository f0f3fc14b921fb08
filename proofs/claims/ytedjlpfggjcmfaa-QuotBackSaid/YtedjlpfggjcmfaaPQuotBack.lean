/-
  QuotBack: what is divided by 1 stays; a number that is not 0 by itself is 1; the divisor's other sign; no condition.
-/
import Derived.Test.YtedjlpfggjcmfaaLawQ3
import Derived.Test.YtedjlpfggjcmfaaSpecSure7
import Derived.Test.YtedjlpfggjcmfaaXtillerlaw07QuotBack
namespace Go.Proofs.Ytedjlpfggjcmfaa
open Go.RowKit X
theorem back_j2t (k : Nat) (a b m : Int) : tillerlaw07_QuotBack.j2 (k + 3) a b m true = some true := by
  simp only [tillerlaw07_QuotBack.j2]
  rw [if_pos trivial, sure7]
  rfl
theorem back_j2f (k : Nat) (a b m : Int) (ha : U a) (hb : U b) (h3 : m ≠ 3) (h4 : m ≠ 4) : tillerlaw07_QuotBack.j2 (k + 3) a b m false = some true := by
  simp only [tillerlaw07_QuotBack.j2]
  rw [if_neg (by decide), bxor_M b hb, div_spec k a b m ha hb, Option.bind_some, div_spec k a (pN b) m ha (U_N b hb), Option.bind_some, sure7 k]
  rcases div_neg (a := a) hb h3 h4 with ⟨f, e1, e2⟩ | ⟨A, f, c, h0, h1, e1, e2⟩
  · rw [e1, e2]
    simp
  · rw [e1, e2]
    have hU : U (A + sg c) := by have := sg_bd c; unfold U; omega
    have hn : A + sg c ≠ 9221120237041090560 := by cases c <;> simp only [sg] <;> simp <;> omega
    simp only
    rw [if_neg hn, bxor_M _ hU, pN_sg h0 (by omega)]
    simp
theorem back_j1 (k : Nat) (a b m : Int) (ha : U a) (hb : U b) : tillerlaw07_QuotBack.j1 (k + 4) a b m false = some true := by
  simp only [tillerlaw07_QuotBack.j1]
  rw [if_neg (by decide)]
  by_cases h3 : m = 3
  · rw [if_pos h3]; exact back_j2t k a b m
  · rw [if_neg h3]
    by_cases h4 : m = 4
    · rw [if_pos h4]; exact back_j2t k a b m
    · rw [if_neg h4]
      cases decide (bits .andNot .u64 b 9223372036854775808 > 9218868437227405312)
      · exact back_j2f k a b m ha hb h3 h4
      · exact back_j2t k a b m
theorem QuotBack : tillerlaw07_QuotBack.Pure := by
  intro a b m w0 w1 w2
  have ha := U_wf w0
  have hb := U_wf w1
  refine ⟨9, ?_⟩
  unfold tillerlaw07_QuotBack.f
  rw [div_spec 7 a 4607182418800017408 m ha (by unfold U; omega), Option.bind_some, bandnot_M a ha]
  have hn := nan_iff a ha
  by_cases h1 : pA a > 9218868437227405312
  · rw [if_pos h1]
    have : qDiv a 4607182418800017408 m = qNone a 4607182418800017408 := by unfold qDiv; rw [if_pos (Or.inl (hn.1 h1))]
    rw [this, if_pos (by rfl), sure7 7]
    rfl
  · rw [if_neg h1, div_spec 7 a a m ha ha, Option.bind_some]
    have hc : pC a ≤ 3 := by have := mt hn.2 h1; omega
    have hc0 := pC_bd a
    have hz := @zero_iff a
    have hi := @inf_iff a
    rw [div_one ha hc m]
    by_cases z : pC a = 0
    · rw [if_pos (hz.2 z), div_self_no (.inl z)]
      simp only [tillerlaw07_QuotBack.j0]
      rw [if_pos trivial, if_pos trivial, if_neg (by decide), if_pos trivial]
      exact back_j1 4 a b m ha hb
    · rw [if_neg (fun h => z (hz.1 h))]
      by_cases i : pC a = 3
      · rw [hi.2 i, div_self_no (.inr i)]
        simp only [tillerlaw07_QuotBack.j0]
        rw [if_pos trivial, if_pos trivial, if_neg (by decide), if_pos trivial]
        exact back_j1 4 a b m ha hb
      · rw [div_self z (by omega)]
        have : (pA a != 9218868437227405312) = true := bne_iff_ne.mpr (fun h => i (hi.1 h))
        rw [this]
        simp only [tillerlaw07_QuotBack.j0]
        rw [if_pos trivial, if_pos trivial, if_pos trivial, if_pos trivial, if_pos trivial]
        exact back_j1 4 a b m ha hb
end Go.Proofs.Ytedjlpfggjcmfaa
