import Derived.Test.YtfnkmedajchbgaaKW12
import Derived.Test.YtfnkmedajchbgaaKWXtillerlaw08WholeSteps
section
namespace Go.Proofs.Ytfnkmedajchbgaa
set_option linter.unusedVariables false
set_option linter.unusedSimpArgs false
open Go.RowKit X
theorem key_eq {A : Int} (h0 : 0 ≤ A) (h1 : A < 9218868437227405312) (c : Bool) : tillerlaw08_key.f (A + sg c) = some (if c = true then -A else A) := by
  have hU := sgU h0 (by omega) c
  have hA := sgA h0 (by omega) c
  unfold tillerlaw08_key.f
  rw [bandnot_M _ hU, hA]
  cases c
  · rw [if_neg (by simp only [sg]; simp; omega), if_neg (by decide)]
    congr 1
    simp only [sg, wrap64]; simp; omega
  · rw [if_pos (by simp only [sg]; simp; omega), if_pos rfl]
    congr 1
    unfold wrap64; omega
theorem rV_lo {V N : Nat} (mi : Bool) : rV mi V N (if mi = true then 3 else 4) = V / 2 ^ (N + 1) := by
  unfold rV upB
  cases mi <;> simp
theorem rV_hi {V N : Nat} (mi : Bool) : rV mi V N (if mi = true then 4 else 3) = V / 2 ^ (N + 1) + if V % 2 ^ (N + 1) ≠ 0 then 1 else 0 := by
  have h2 : V / 2 ^ N % 2 = 0 ∨ V / 2 ^ N % 2 = 1 := by omega
  have hm := mod_two_pow V N
  have hp := Nat.two_pow_pos N
  have e : (decide (V / 2 ^ N % 2 = 1) || decide (V % 2 ^ N ≠ 0)) = decide (V % 2 ^ (N + 1) ≠ 0) := by
    rw [hm, Bool.eq_iff_iff]
    simp only [Bool.or_eq_true, decide_eq_true_eq]
    rcases h2 with h2 | h2 <;> rw [h2] <;> omega
  unfold rV upB
  cases mi
  · rw [if_neg (show ¬ false = true by decide), if_neg (show ¬ (3 : Int) = 2 by decide), if_pos rfl, Bool.not_false, Bool.true_and, e]
    simp only [decide_eq_true_eq]
  · rw [if_pos rfl, if_neg (show ¬ (4 : Int) = 2 by decide), if_neg (show ¬ (4 : Int) = 3 by decide), if_pos rfl, Bool.true_and, e]
    simp only [decide_eq_true_eq]
theorem rV_any {V N : Nat} (mi : Bool) (m : Int) : rV mi V N m = V / 2 ^ (N + 1) ∨ rV mi V N m = V / 2 ^ (N + 1) + if V % 2 ^ (N + 1) ≠ 0 then 1 else 0 := by
  by_cases z : V % 2 ^ (N + 1) = 0
  · left
    have e : V = V / 2 ^ (N + 1) * 2 ^ (N + 1) := by have := Nat.div_add_mod V (2 ^ (N + 1)); rw [z, Nat.mul_comm] at this; omega
    conv => lhs; rw [e]
    exact rV_exact _ _ _ _
  · rw [if_pos z]
    unfold rV
    split
    · right; rfl
    · left; rfl
theorem val_uniq {p q : Int} (p0 : 0 ≤ p) (p1 : p < 9218868437227405312) (q0 : 0 ≤ q) (q1 : q < 9218868437227405312) (h : pV p = pV q) : p = q := by
  have := pV_inj (fin_of p0 p1) (fin_of q0 q1) h
  rw [pA_self p0 (by omega), pA_self q0 (by omega)] at this
  exact this
theorem val_le {p q : Int} (p0 : 0 ≤ p) (p1 : p < 9218868437227405312) (q0 : 0 ≤ q) (q1 : q < 9218868437227405312) (h : pV p ≤ pV q) : p ≤ q := by
  have := (pV_le_iff (fin_of p0 p1) (fin_of q0 q1)).1 h
  rw [pA_self p0 (by omega), pA_self q0 (by omega)] at this
  exact this
theorem WholeSteps : tillerlaw08_WholeSteps.Pure := by
  intro a m w0 w1
  have ha := U_wf w0
  refine ⟨36, ?_⟩
  unfold tillerlaw08_WholeSteps.f
  rw [r3_Finite.eq a (inU_of ha), Option.bind_some]
  by_cases c3 : pC a < 3
  · obtain ⟨N, hN⟩ : ∃ N : Nat, N = 1073 := ⟨_, rfl⟩
    obtain ⟨l, l0', l1', l2', l3', l4'⟩ := wRnd_val ha c3 4 hN
    obtain ⟨h, h0, h1, h2, h3, h4⟩ := wRnd_val ha c3 3 hN
    obtain ⟨p, p0, p1, p2, p3, p4⟩ := wRnd_val ha c3 m hN
    have pp := Nat.two_pow_pos (N + 1)
    have hdm := Nat.div_add_mod (pV a) (2 ^ (N + 1))
    have hml := Nat.mod_lt (pV a) pp
    have hUp := sgU p0 (by omega) (pM a)
    have hCp : pC (p + sg (pM a)) < 3 := by rw [(C_same (sgAA p (pM a))).1]; exact p2
    have hVp : pV (p + sg (pM a)) = rV (pM a) (pV a) N m * 2 ^ (N + 1) := by rw [pV_same (sgAA p (pM a)), p3]
    obtain ⟨t, t0, t1, t2, t3, t4⟩ := wRnd_val hUp hCp m hN
    rw [sgM p0 (by omega) (pM a)] at t3 t4
    rw [hVp] at t3 t4
    rw [rV_exact] at t3
    have htp : t = p := val_uniq t0 t1 p0 p1 (by rw [t3, p3])
    subst htp
    have e2 : wRnd (t + sg (pM a)) m true = (t + sg (pM a), 0) := by rw [t4, Nat.mul_mod_left, if_neg (by omega)]
    have f0 : (if pV a % 2 ^ (N + 1) ≠ 0 then (if false = true then 16 else 0) else 0 : Int) = 0 := by split <;> simp
    have eA := pA_sg ha
    have bA := pA_bd a
    have fA := of_fin ha c3
    have ka := key_eq bA.1 fA (pM a)
    rw [← eA] at ka
    have hVa : pV (pA a) = pV a := pV_same (pA_pA a)
    rw [decide_eq_true c3, if_pos rfl, wround_spec 32 4 false ha, Option.bind_some, wround_spec 32 3 false ha, Option.bind_some, wround_spec 32 m false ha, Option.bind_some, l4', h4, p4, f0]
    dsimp only
    rw [wround_spec 32 m true hUp, Option.bind_some, e2, key_eq l0' l1', key_eq h0 h1, ka, sure08 0]
    simp only [Option.bind_some]
    rw [if_pos trivial, if_pos trivial, if_pos trivial, band_sg _ hUp, band_sg _ ha, sgM p0 (by omega)]
    have hlo := rV_lo (V := pV a) (N := N) (pM a)
    have hhi := rV_hi (V := pV a) (N := N) (pM a)
    have hany := rV_any (V := pV a) (N := N) (pM a) m
    have hq1 : pV a / 2 ^ (N + 1) * 2 ^ (N + 1) ≤ pV a := Nat.div_mul_le_self _ _
    have hq2 : pV a ≤ (pV a / 2 ^ (N + 1) + if pV a % 2 ^ (N + 1) ≠ 0 then 1 else 0) * 2 ^ (N + 1) := by
      rw [Nat.add_mul]
      rw [Nat.mul_comm] at hdm
      split <;> omega
    have ord : (if pM a = true then -l else l) ≤ (if pM a = true then -(pA a) else pA a) ∧ (if pM a = true then -(pA a) else pA a) ≤ (if pM a = true then -h else h) := by
      cases hM : pM a
      · rw [hM] at hlo hhi l3' h3
        rw [if_neg (by decide)] at hlo hhi
        rw [if_neg (by decide), if_neg (by decide), if_neg (by decide)]
        exact ⟨val_le l0' l1' bA.1 fA (by rw [l3', hlo, hVa]; exact hq1), val_le bA.1 fA h0 h1 (by rw [h3, hhi, hVa]; exact hq2)⟩
      · rw [hM] at hlo hhi l3' h3
        rw [if_pos rfl] at hlo hhi
        rw [if_pos rfl, if_pos rfl, if_pos rfl]
        have a1 := val_le h0 h1 bA.1 fA (by rw [h3, hlo, hVa]; exact hq1)
        have a2 := val_le bA.1 fA l0' l1' (by rw [l3', hhi, hVa]; exact hq2)
        omega
    have two : t = l ∨ t = h := by
      have e4 : ∀ z, rV (pM a) (pV a) N m = rV (pM a) (pV a) N z → (z = 4 → t = l) ∧ (z = 3 → t = h) := fun z hz =>
        ⟨fun g => val_uniq t0 t1 l0' l1' (by subst g; rw [p3, l3', hz]), fun g => val_uniq t0 t1 h0 h1 (by subst g; rw [p3, h3, hz])⟩
      cases hM : pM a
      · rw [hM, if_neg (by decide)] at hlo hhi
        rcases hany with g | g
        · left; exact (e4 4 (by rw [g, hM, hlo])).1 rfl
        · right; exact (e4 3 (by rw [g, hM, hhi])).2 rfl
      · rw [hM, if_pos rfl] at hlo hhi
        rcases hany with g | g
        · right; exact (e4 3 (by rw [g, hM, hlo])).2 rfl
        · left; exact (e4 4 (by rw [g, hM, hhi])).1 rfl
    have fin : (if (if pM a = true then -l else l) ≤ (if pM a = true then -(pA a) else pA a) then (if (if pM a = true then -(pA a) else pA a) ≤ (if pM a = true then -h else h) then (if sg (pM a) = sg (pM a) then some true else some false) else some false) else some false) = some true := by
      rw [if_pos ord.1, if_pos ord.2, if_pos rfl]
    by_cases g : t + sg (pM a) = l + sg (pM a)
    · rw [if_pos g]; exact fin
    · have : t = h := by rcases two with z | z
                         · exact absurd (by rw [z]) g
                         · exact z
      rw [if_neg g, if_pos (by rw [this])]
      exact fin
  · rw [decide_eq_false c3, if_neg (by decide), sure08 0]
    rfl
end Go.Proofs.Ytfnkmedajchbgaa
end
section
namespace Go.Proofs.Ytfnkmedajchbgaa.Pure
set_option linter.unusedVariables false
set_option linter.unusedSimpArgs false
theorem WholeSteps : Go.Proofs.Ytfnkmedajchbgaa.X.tillerlaw08_WholeSteps.Pure := Go.Proofs.Ytfnkmedajchbgaa.WholeSteps
end Go.Proofs.Ytfnkmedajchbgaa.Pure
end
