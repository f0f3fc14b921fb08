/-
  Plain law behind QuotSides and QuotBack.
-/
import Derived.Test.YtedjlpfggjcmfaaSpecDiv
namespace Go.Proofs.Ytedjlpfggjcmfaa
open Go.RowKit
theorem pM_pos {A : Int} (h : A < 9223372036854775808) : pM A = false := by unfold pM; exact decide_eq_false (by omega)
theorem div_sides {A B : Int} (hA : A < 9223372036854775808) (hB : B < 9223372036854775808) :
    (∃ f, ∀ m, qDiv A B m = (9221120237041090560, f)) ∨ (∃ v f, (f = 0 ∨ f = 2) ∧ (v = 0 ∨ v = 9218868437227405312) ∧ ∀ m, qDiv A B m = (v, f)) ∨ (∃ x s, ∀ m, qDiv A B m = rRound false x s m) := by
  have hm : qMi A B = false := by unfold qMi; rw [pM_pos hA, pM_pos hB]; rfl
  by_cases n1 : 3 < pC A ∨ 3 < pC B
  · exact .inl ⟨(qNone A B).2, fun m => by unfold qDiv; rw [if_pos n1]; rfl⟩
  · by_cases n2 : pC A = pC B ∧ (pC A = 0 ∨ pC A = 3)
    · exact .inl ⟨1, fun m => by unfold qDiv; rw [if_neg n1, if_pos n2]⟩
    · right
      by_cases n3 : pC A = 3
      · exact .inl ⟨_, 0, .inl rfl, .inr rfl, fun m => by unfold qDiv; rw [if_neg n1, if_neg n2, if_pos n3, hm]; rfl⟩
      · by_cases n4 : pC B = 3
        · exact .inl ⟨_, 0, .inl rfl, .inl rfl, fun m => by unfold qDiv; rw [if_neg n1, if_neg n2, if_neg n3, if_pos n4, hm]; rfl⟩
        · by_cases n5 : pC B = 0
          · exact .inl ⟨_, 2, .inr rfl, .inr rfl, fun m => by unfold qDiv; rw [if_neg n1, if_neg n2, if_neg n3, if_neg n4, if_pos n5, hm]; rfl⟩
          · exact .inr ⟨_, _, fun m => by unfold qDiv; rw [if_neg n1, if_neg n2, if_neg n3, if_neg n4, if_neg n5]; unfold qMain; rw [hm]⟩

theorem pE_N (p : Int) : pE (pN p) = pE p := by unfold pE pN; split <;> omega
theorem pF_N (p : Int) : pF (pN p) = pF p := by unfold pF pN; split <;> omega
theorem pC_N (p : Int) : pC (pN p) = pC p := by unfold pC; rw [pE_N, pF_N]
theorem pX_N (p : Int) : pX (pN p) = pX p := by unfold pX; rw [pE_N]
theorem pS_N (p : Int) : pS (pN p) = pS p := by unfold pS; rw [pE_N, pF_N]
theorem pM_N {p : Int} (hp : U p) : pM (pN p) = !pM p := by
  unfold U at hp
  unfold pM pN
  by_cases h : p < 9223372036854775808
  · rw [if_pos h, decide_eq_true (by omega), decide_eq_false (by omega)]; rfl
  · rw [if_neg h, decide_eq_false (by omega), decide_eq_true (by omega)]; rfl
theorem pN_sg {A : Int} (h0 : 0 ≤ A) (h1 : A < 9223372036854775808) (b : Bool) : pN (A + sg b) = A + sg (!b) := by
  unfold pN
  cases b
  · rw [show sg false = 0 from rfl, show sg (!false) = 9223372036854775808 from rfl, if_pos (by omega)]; omega
  · rw [show sg true = 9223372036854775808 from rfl, show sg (!true) = 0 from rfl, if_neg (by omega)]; omega
theorem not_bne (a b : Bool) : (a != !b) = !(a != b) := by cases a <;> cases b <;> rfl
theorem swM_id {m : Int} (h3 : m ≠ 3) (h4 : m ≠ 4) : swM m = m := by unfold swM; rw [if_neg h3, if_neg h4]

/-- the divisor's other sign -/
theorem div_neg {a b m : Int} (hb : U b) (h3 : m ≠ 3) (h4 : m ≠ 4) :
    (∃ f, qDiv a b m = (9221120237041090560, f) ∧ qDiv a (pN b) m = (9221120237041090560, f)) ∨
    (∃ A f c, 0 ≤ A ∧ A ≤ 9218868437227405312 ∧ qDiv a b m = (A + sg c, f) ∧ qDiv a (pN b) m = (A + sg (!c), f)) := by
  have hm : qMi a (pN b) = !qMi a b := by unfold qMi; rw [pM_N hb, not_bne]
  unfold qDiv
  rw [pC_N, hm]
  by_cases n1 : 3 < pC a ∨ 3 < pC b
  · rw [if_pos n1, if_pos n1]
    exact .inl ⟨_, rfl, by unfold qNone; rw [pC_N]⟩
  · rw [if_neg n1, if_neg n1]
    by_cases n2 : pC a = pC b ∧ (pC a = 0 ∨ pC a = 3)
    · rw [if_pos n2, if_pos n2]
      exact .inl ⟨_, rfl, rfl⟩
    · rw [if_neg n2, if_neg n2]
      right
      by_cases n3 : pC a = 3
      · rw [if_pos n3, if_pos n3]
        exact ⟨_, _, _, by decide, Int.le_refl _, rfl, rfl⟩
      · rw [if_neg n3, if_neg n3]
        by_cases n4 : pC b = 3
        · rw [if_pos n4, if_pos n4]
          exact ⟨0, 0, qMi a b, by decide, by decide, by rw [Int.zero_add], by rw [Int.zero_add]⟩
        · rw [if_neg n4, if_neg n4]
          by_cases n5 : pC b = 0
          · rw [if_pos n5, if_pos n5]
            exact ⟨_, _, _, by decide, Int.le_refl _, rfl, rfl⟩
          · rw [if_neg n5, if_neg n5]
            have e1 : qR a (pN b) = qR a b := by unfold qR qT; rw [pS_N]
            have e2 : qS a (pN b) = qS a b := by unfold qS; rw [pS_N]
            obtain ⟨A, f, h0, h1, h2, h3'⟩ := round_sw (qMi a b) (rX (qR a b) (pX a - pX b - 128)) (rS (qR a b) (qS a b)) m
            rw [swM_id h3 h4] at h3'
            refine ⟨A, f, _, h0, h1, h2, ?_⟩
            unfold qMain
            rw [hm, e1, e2, pX_N]
            exact h3'

theorem one_parts : pC 4607182418800017408 = 2 ∧ pX 4607182418800017408 = -52 ∧ pS 4607182418800017408 = 4503599627370496 ∧ pM 4607182418800017408 = false := by decide
/-- what is divided by 1 stays -/
theorem div_one {a : Int} (ha : U a) (h : pC a ≤ 3) (m : Int) : qDiv a 4607182418800017408 m = (a, 0) := by
  obtain ⟨o1, o2, o3, o4⟩ := one_parts
  have hm : qMi a 4607182418800017408 = pM a := by unfold qMi; rw [o4]; cases pM a <;> rfl
  unfold qDiv
  rw [o1, hm, if_neg (by omega), if_neg (by omega)]
  by_cases n3 : pC a = 3
  · rw [if_pos n3]
    have : a = 9218868437227405312 + sg (pM a) := by
      have hE := pE_bd a
      have hF := pF_bd a
      unfold pC at n3
      by_cases e : pE a = 2047
      · rw [if_pos e] at n3
        by_cases f : pF a = 0
        · unfold pE at e; unfold pF at f; unfold U at ha; unfold pM sg
          by_cases g : 9223372036854775808 ≤ a
          · rw [decide_eq_true g, if_pos rfl]; omega
          · rw [decide_eq_false g, if_neg (by decide)]; omega
        · rw [if_neg f] at n3; split at n3 <;> omega
      · rw [if_neg e] at n3; split at n3; omega; split at n3 <;> omega
    rw [← this]
  · rw [if_neg n3, if_neg (by omega), if_neg (by omega)]
    have e0 : qN a = (pS a).toNat * 2 ^ 76 * 4503599627370496 := by unfold qN; rw [Nat.mul_assoc]
    have e1 : qS a 4607182418800017408 = (pS a).toNat * 2 ^ 76 := by
      unfold qS
      rw [o3, e0]
      exact Nat.mul_div_cancel _ (by decide)
    have e2 : qR a 4607182418800017408 = false := by
      unfold qR qT
      rw [o3, e0, show ((4503599627370496 : Int)).toNat = 4503599627370496 from rfl, Nat.mul_mod_left]
      rfl
    unfold qMain
    rw [e1, e2, hm, o2]
    have := round_exact ha (by omega) 76 m
    rw [show rX false (pX a - -52 - 128) = pX a - ((76 : Nat) : Int) by unfold rX; rw [if_neg (by decide)]; omega]
    exact this
/-- a number by itself is 1 -/
theorem div_self {a : Int} (h1 : pC a ≠ 0) (h3 : pC a < 3) (m : Int) : qDiv a a m = (4607182418800017408, 0) := by
  have hm : qMi a a = false := by unfold qMi; cases pM a <;> rfl
  unfold qDiv
  rw [hm, if_neg (by omega), if_neg (by omega), if_neg (by omega), if_neg (by omega), if_neg h1]
  have hs := pS_pos a h1 (by omega)
  have e1 : qS a a = 2 ^ 128 := by unfold qS qN; exact Nat.mul_div_cancel_left _ (by omega)
  have e2 : qR a a = false := by unfold qR qT qN; rw [Nat.mul_mod_right]; rfl
  unfold qMain
  rw [e1, e2, hm]
  obtain ⟨o1, o2, o3, o4⟩ := one_parts
  have := round_exact (p := 4607182418800017408) (by unfold U; omega) (by omega) 76 m
  rw [o2, o3, o4] at this
  rw [show rX false (pX a - pX a - 128) = -52 - ((76 : Nat) : Int) by unfold rX; rw [if_neg (by decide)]; omega, show rS false (2 ^ 128) = (4503599627370496 : Int).toNat * 2 ^ 76 by unfold rS; decide]
  exact this
theorem div_self_no {a : Int} (h : pC a = 0 ∨ pC a = 3) (m : Int) : qDiv a a m = (9221120237041090560, 1) := by
  unfold qDiv
  rw [if_neg (by omega), if_pos ⟨rfl, h⟩]
theorem zero_iff {a : Int} : pA a = 0 ↔ pC a = 0 := by
  have hE := pE_bd a
  have hF := pF_bd a
  have e : pA a = pE a * 4503599627370496 + pF a := by unfold pA pE pF; omega
  unfold pC
  rw [e]
  constructor
  · intro h
    rw [if_neg (by omega), if_neg (by omega), if_neg (by omega)]
  · intro h
    split at h
    · split at h; omega; split at h <;> omega
    · split at h; omega; split at h <;> omega
theorem inf_iff {a : Int} : pA a = 9218868437227405312 ↔ pC a = 3 := by
  have hE := pE_bd a
  have hF := pF_bd a
  have e : pA a = pE a * 4503599627370496 + pF a := by unfold pA pE pF; omega
  unfold pC
  rw [e]
  constructor
  · intro h
    rw [if_pos (by omega), if_pos (by omega)]
  · intro h
    split at h
    · split at h; omega; split at h <;> omega
    · split at h; omega; split at h <;> omega
end Go.Proofs.Ytedjlpfggjcmfaa
