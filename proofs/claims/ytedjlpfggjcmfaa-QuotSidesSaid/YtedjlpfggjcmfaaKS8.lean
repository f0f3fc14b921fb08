import Derived.Test.YtedjlpfggjcmfaaKS6
import Derived.Test.YtedjlpfggjcmfaaKSXtillerlaw07QuotSides
section
namespace Go.Proofs.Ytedjlpfggjcmfaa
set_option linter.unusedVariables false
set_option linter.unusedSimpArgs false
open Go.RowKit X
theorem sides_nan (k : Nat) (v f : Int) (w g : Int) (h : w = v ∧ g = f) : tillerlaw07_QuotSides.j0 (k + 3) v f v f w g true = some true := by
  obtain ⟨rfl, rfl⟩ := h
  simp only [tillerlaw07_QuotSides.j0]
  rw [if_pos trivial, if_pos trivial, if_pos trivial, if_pos trivial, sure7]
  rfl
theorem sides_ok (k : Nat) (x7 x8 x9 x10 x11 x12 : Int) (h0 : 0 ≤ x7) (h1 : x7 < 9223372036854775808) (hp : x11 = x7 ∨ x11 = x9) (hq : x9 = x7 ∨ x9 = x7 + 1)
    (f1 : (bits .and .u8 x8 16 != 0) = decide (x9 ≠ x7)) (f2 : (bits .and .u8 x10 16 != 0) = decide (x9 ≠ x7)) (f3 : (bits .and .u8 x12 16 != 0) = decide (x9 ≠ x7)) : tillerlaw07_QuotSides.j0 (k + 3) x7 x8 x9 x10 x11 x12 false = some true := by
  have ew : IntKind.u64.wrap (x7 + 1) = x7 + 1 := by rw [IntKind.wrap_u64]; omega
  have en : (x9 != x7) = decide (x9 ≠ x7) := by rw [Bool.eq_iff_iff]; simp
  simp only [tillerlaw07_QuotSides.j0]
  rw [ew, f1, f2, f3, en, sure7 (k + 0)]
  by_cases c : x9 = x7
  · have hx : x11 = x7 := by omega
    subst c hx
    simp
  · have hx : x9 = x7 + 1 := by omega
    subst hx
    rcases hp with rfl | rfl
    · simp
    · simp
theorem QuotSides : tillerlaw07_QuotSides.Pure := by
  intro a0 a1 a2 w0 w1 w2
  have ha := U_wf w0
  have hb := U_wf w1
  refine ⟨9, ?_⟩
  unfold tillerlaw07_QuotSides.f
  rw [bandnot_M a0 ha, bandnot_M a1 hb, div_spec 7 _ _ 4 (U_A a0) (U_A a1), Option.bind_some, div_spec 7 _ _ 3 (U_A a0) (U_A a1), Option.bind_some, div_spec 7 _ _ a2 (U_A a0) (U_A a1), Option.bind_some]
  rcases div_sides (pA_bd a0).2 (pA_bd a1).2 with ⟨f, h⟩ | ⟨v, f, hf, hv, h⟩ | ⟨x, s, h⟩
  · rw [h, h, h, if_pos rfl]
    exact sides_nan 6 _ _ _ _ ⟨rfl, rfl⟩
  · rw [h, h, h]
    have hn : v ≠ 9221120237041090560 := by omega
    rw [if_neg hn, beq_eq_false_iff_ne.mpr hn]
    have hf2 : (bits .and .u8 f 16 != 0) = decide (v ≠ v) := by rcases hf with rfl | rfl <;> simp <;> decide
    exact sides_ok 6 _ _ _ _ _ _ (by omega) (by omega) (.inl rfl) (.inl rfl) hf2 hf2 hf2
  · rw [h, h, h]
    obtain ⟨s1, s2, s3, s4, s5⟩ := round_sides x s a2
    have b4 := s5 4
    have b3 := s5 3
    rw [if_neg (by omega), beq_eq_false_iff_ne.mpr (by omega)]
    have hfl : ∀ m, (bits .and .u8 (rRound false x s m).2 16 != 0) = decide ((rRound false x s 3).1 ≠ (rRound false x s 4).1) := fun m => by
      rw [bits16 _ (s3 m), Bool.eq_iff_iff, decide_eq_true_iff, decide_eq_true_iff]
      exact s4 m
    exact sides_ok 6 _ _ _ _ _ _ b4.1 (by omega) s1 s2 (hfl _) (hfl _) (hfl _)
end Go.Proofs.Ytedjlpfggjcmfaa
end
section
namespace Go.Proofs.Ytedjlpfggjcmfaa.Pure
set_option linter.unusedVariables false
set_option linter.unusedSimpArgs false
theorem QuotSides : Go.Proofs.Ytedjlpfggjcmfaa.X.tillerlaw07_QuotSides.Pure := Go.Proofs.Ytedjlpfggjcmfaa.QuotSides
end Go.Proofs.Ytedjlpfggjcmfaa.Pure
end
