/-
  What must come whatever the input is (chapter 7).
-/
import Derived.Test.YtedjlpfggjcmfaaSpecDiv
import Derived.Test.YtedjlpfggjcmfaaXtillerlaw07sure
namespace Go.Proofs.Ytedjlpfggjcmfaa
open Go.RowKit X
theorem sure7 (k : Nat) : tillerlaw07_sure.f (k + 2) = some true := by
  unfold tillerlaw07_sure.f
  rw [div_spec k _ _ _ (by unfold U; omega) (by unfold U; omega)]
  decide +kernel
theorem U_wf {a : Int} (h : (Lit.int .u64 a).wf = true) : U a := by
  unfold Lit.wf at h
  simp only [Bool.and_eq_true, decide_eq_true_eq] at h
  exact h
end Go.Proofs.Ytedjlpfggjcmfaa
