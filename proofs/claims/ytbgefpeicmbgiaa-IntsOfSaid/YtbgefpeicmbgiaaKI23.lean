import Derived.Test.YtbgefpeicmbgiaaKIXtillerlaw11IntsOf
import Derived.Test.YtbgefpeicmbgiaaKISpecRef11
section
namespace Go.Proofs.Ytbgefpeicmbgiaa
set_option linter.unusedVariables false
set_option linter.unusedSimpArgs false
open Go.RowKit X Go.Proofs.YtbgefpeicmbgiaaW.PrintWords
theorem IntsOf : tillerlaw11_IntsOf.Pure := by
  intro n x m w0 w1 w2
  have hn := I64_wf w0
  have hx := U_wf w1
  have hs : U ((n.natAbs : Nat) : Int) := by unfold U; unfold I64 at hn; omega
  obtain ⟨K1, h1⟩ := ref11_of_ev (decide (n < 0)) m hs
  replace h1 : ∀ k, K1 ≤ k → tillerref11_Of.f k (decide (n < 0)) ((n.natAbs : Nat) : Int) m = some (rRound (decide (n < 0)) 0 ((n.natAbs : Nat) : Int).toNat m) := h1
  obtain ⟨K2, h2⟩ := ref11_of_ev false m hx
  replace h2 : ∀ k, K2 ≤ k → tillerref11_Of.f k false x m = some (rRound false 0 x.toNat m) := h2
  rw [Int.toNat_natCast] at h1
  refine ⟨K1 + K2 + 6, ?_⟩
  have f1 := round_fl (decide (n < 0)) 0 n.natAbs m
  have f2 := round_fl false 0 x.toNat m
  have J : tillerlaw11_IntsOf.j0 (K1 + K2 + 6) n x m (rRound (decide (n < 0)) 0 n.natAbs m).1 (rRound (decide (n < 0)) 0 n.natAbs m).2 ((n.natAbs : Nat) : Int) = some true := by
    simp only [tillerlaw11_IntsOf.j0]
    rw [h1 (K1 + K2 + 5) (by omega), Option.bind_some, ofPlain_eq m hx, Option.bind_some, h2 (K1 + K2 + 5) (by omega), Option.bind_some, if_pos rfl, if_pos (by unfold wrap64; omega), if_pos rfl, if_pos (by unfold wrap64; omega), sure11 (K1 + K2)]
    rfl
  unfold tillerlaw11_IntsOf.f
  rw [of_eq m hn, Option.bind_some]
  unfold I64 at hn
  by_cases c : n < 0
  · rw [if_pos c, show IntKind.u64.wrap (-(IntKind.u64.wrap n)) = ((n.natAbs : Nat) : Int) by simp only [IntKind.wrap_u64]; omega]
    exact J
  · rw [if_neg c, show IntKind.u64.wrap n = ((n.natAbs : Nat) : Int) by rw [IntKind.wrap_u64]; omega]
    exact J
end Go.Proofs.Ytbgefpeicmbgiaa
end
section
namespace Go.Proofs.Ytbgefpeicmbgiaa.Pure
set_option linter.unusedVariables false
set_option linter.unusedSimpArgs false
theorem IntsOf : Go.Proofs.Ytbgefpeicmbgiaa.X.tillerlaw11_IntsOf.Pure := Go.Proofs.Ytbgefpeicmbgiaa.IntsOf
end Go.Proofs.Ytbgefpeicmbgiaa.Pure
end
