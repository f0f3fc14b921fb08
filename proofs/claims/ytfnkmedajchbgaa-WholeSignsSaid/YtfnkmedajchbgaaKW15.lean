import Derived.Test.YtfnkmedajchbgaaKW12
import Derived.Test.YtfnkmedajchbgaaKWXtillerlaw08WholeSigns
section
namespace Go.Proofs.Ytfnkmedajchbgaa
set_option linter.unusedVariables false
set_option linter.unusedSimpArgs false
open Go.RowKit X
theorem w_N2 (a b : Int) : wLow a (pN b) = wLow a b ∧ wU a (pN b) = wU a b ∧ wV a (pN b) = wV a b := by
  have h : wLow a (pN b) = wLow a b := by unfold wLow; rw [pX_N]
  refine ⟨h, ?_, ?_⟩
  · unfold wU; rw [h]
  · unfold wV; rw [h, pX_N, pS_N]
theorem w_N1 (a b : Int) : wLow (pN a) b = wLow a b ∧ wU (pN a) b = wU a b ∧ wV (pN a) b = wV a b := by
  have h : wLow (pN a) b = wLow a b := by unfold wLow; rw [pX_N]
  refine ⟨h, ?_, ?_⟩
  · unfold wU; rw [h, pX_N, pS_N]
  · unfold wV; rw [h]
theorem signs_cases {a b : Int} (ha : U a) :
    (∃ f, (∀ main, qRests a b main = (9221120237041090560, f)) ∧ (∀ main, qRests a (pN b) main = (9221120237041090560, f)) ∧ (∀ main, qRests (pN a) b main = (9221120237041090560, f))) ∨
    (∃ A c B d, 0 ≤ A ∧ A < 9218868437227405312 ∧ 0 ≤ B ∧ B < 9218868437227405312 ∧
      qRests a b (wRem a b) = (A + sg c, 0) ∧ qRests a (pN b) (wRem a (pN b)) = (A + sg c, 0) ∧ qRests (pN a) b (wRem (pN a) b) = (A + sg (!c), 0) ∧
      qRests a b (wMod a b) = (B + sg d, 0) ∧ qRests a (pN b) (wMod a (pN b)) = (B + sg d, 0) ∧ qRests (pN a) b (wMod (pN a) b) = (B + sg (!d), 0)) := by
  have ca := pC_bd a
  have cb := pC_bd b
  unfold qRests qNone
  simp only [pC_N]
  by_cases n1 : 3 < pC a ∨ 3 < pC b
  · left
    simp only [if_pos n1]
    exact ⟨_, fun _ => rfl, fun _ => rfl, fun _ => rfl⟩
  · simp only [if_neg n1]
    by_cases n2 : pC a = 3 ∨ pC b = 0
    · left
      simp only [if_pos n2]
      exact ⟨_, fun _ => rfl, fun _ => rfl, fun _ => rfl⟩
    · right
      simp only [if_neg n2]
      by_cases n3 : pC b = 3 ∨ pC a = 0
      · simp only [if_pos n3]
        have e := pA_sg ha
        have hA := of_fin ha (by omega)
        have h0 := pA_bd a
        have eN : pN a = pA a + sg (!pM a) := by
          have := pN_sg h0.1 h0.2 (pM a)
          rw [← e] at this
          exact this
        exact ⟨pA a, pM a, pA a, pM a, h0.1, hA, h0.1, hA, by rw [← e], by rw [← e], by rw [← eN], by rw [← e], by rw [← e], by rw [← eN]⟩
      · simp only [if_neg n3]
        have hs := pS_pos b (by omega) (by omega)
        obtain ⟨u1, u2, u3⟩ := w_N2 a b
        obtain ⟨v1, v2, v3⟩ := w_N1 a b
        have hf2 : wFlip a (pN b) = wFlip a b := by unfold wFlip; rw [u2, u3]
        have hf1 : wFlip (pN a) b = wFlip a b := by unfold wFlip; rw [v2, v3]
        obtain ⟨B, B0, B1, _, _, B4⟩ := wMod_val (a := a) hs
        have m1 : wMod a b = (B + sg (pM a), 0) := B4 _ _
        have m2 : wMod a (pN b) = (B + sg (pM a), 0) := by unfold wMod; rw [u1, u2, u3]; exact B4 _ _
        have m3 : wMod (pN a) b = (B + sg (!pM a), 0) := by unfold wMod; rw [v1, v2, v3, pM_N ha]; exact B4 _ _
        by_cases hf : wFlip a b = true
        · obtain ⟨A, A0, A1, _, _, _, A5⟩ := wRem_val (a := a) hs hf
          refine ⟨A, !pM a, B, pM a, A0, A1, B0, B1, ?_, ?_, ?_, m1, m2, m3⟩
          · unfold wRem; rw [if_pos hf]; exact A5 _ _
          · unfold wRem; rw [hf2, if_pos hf, u1, u2, u3]; exact A5 _ _
          · unfold wRem; rw [hf1, if_pos hf, v1, v2, v3, pM_N ha]; exact A5 _ _
        · refine ⟨B, pM a, B, pM a, B0, B1, B0, B1, ?_, ?_, ?_, m1, m2, m3⟩
          · unfold wRem; rw [if_neg hf]; exact m1
          · unfold wRem; rw [hf2, if_neg hf]; exact m2
          · unfold wRem; rw [hf1, if_neg hf]; exact m3
theorem WholeSigns : tillerlaw08_WholeSigns.Pure := by
  intro a b w0 w1
  have ha := U_wf w0
  have hb := U_wf w1
  refine ⟨36, ?_⟩
  unfold tillerlaw08_WholeSigns.f
  rw [bxor_M a ha, bxor_M b hb, rem_spec 0 ha hb, Option.bind_some, rem_spec 0 ha (U_N b hb), Option.bind_some, rem_spec 0 (U_N a ha) hb, Option.bind_some, mod_spec 0 ha hb, Option.bind_some, mod_spec 0 ha (U_N b hb), Option.bind_some, mod_spec 0 (U_N a ha) hb, Option.bind_some, sure08 0]
  rcases signs_cases (b := b) ha with ⟨f, h1, h2, h3⟩ | ⟨A, c, B, d, A0, A1, B0, B1, e1, e2, e3, e4, e5, e6⟩
  · simp only [h1, h2, h3]
    simp
  · rw [e1, e2, e3, e4, e5, e6]
    have hn : A + sg c ≠ 9221120237041090560 := by cases c <;> simp only [sg] <;> simp <;> omega
    dsimp only
    rw [if_neg hn, bxor_M _ (sgU A0 (by omega) c), bxor_M _ (sgU B0 (by omega) d), pN_sg A0 (by omega), pN_sg B0 (by omega)]
    simp
end Go.Proofs.Ytfnkmedajchbgaa
end
section
namespace Go.Proofs.Ytfnkmedajchbgaa.Pure
set_option linter.unusedVariables false
set_option linter.unusedSimpArgs false
theorem WholeSigns : Go.Proofs.Ytfnkmedajchbgaa.X.tillerlaw08_WholeSigns.Pure := Go.Proofs.Ytfnkmedajchbgaa.WholeSigns
end Go.Proofs.Ytfnkmedajchbgaa.Pure
end
