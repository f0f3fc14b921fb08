import Derived.Test.YtfnkmedajchbgaaKNXtillerlaw12NarrowTo
import Derived.Test.YtfnkmedajchbgaaKN19
section
namespace Go.Proofs.Ytfnkmedajchbgaa
set_option linter.unusedVariables false
set_option linter.unusedSimpArgs false
open Go.RowKit X Go.Proofs.YtfnkmedajchbgaaW.PrintWords
theorem NarrowTo : tillerlaw12_NarrowTo.Pure := by
  intro p m w0 w1
  have hp := U_wf w0
  obtain ⟨K, h⟩ := ref_to12_ev m hp
  replace h : ∀ k, K ≤ k → tillerref12_To.f k p m = some (nTo p m) := h
  have hf := nTo_fl p m
  refine ⟨K + 5, ?_⟩
  unfold tillerlaw12_NarrowTo.f
  rw [nto_spec K m hp, Option.bind_some, h (K + 5) (by omega), Option.bind_some, if_pos rfl, if_pos (by unfold wrap64; omega), sure12 K]
  rfl
end Go.Proofs.Ytfnkmedajchbgaa
end
section
namespace Go.Proofs.Ytfnkmedajchbgaa.Pure
set_option linter.unusedVariables false
set_option linter.unusedSimpArgs false
theorem NarrowTo : Go.Proofs.Ytfnkmedajchbgaa.X.tillerlaw12_NarrowTo.Pure := Go.Proofs.Ytfnkmedajchbgaa.NarrowTo
end Go.Proofs.Ytfnkmedajchbgaa.Pure
end
