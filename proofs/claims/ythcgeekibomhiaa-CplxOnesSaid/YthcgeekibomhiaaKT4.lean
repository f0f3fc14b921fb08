import Derived.Test.YthcgeekibomhiaaKTBaseC
section
namespace Go.Proofs.Ythcgeekibomhiaa
set_option linter.unusedVariables false
set_option linter.unusedSimpArgs false
open Go.RowKit
theorem blen_mul_pow {s : Nat} (hs : s ≠ 0) (k : Nat) : blen (s * 2 ^ k) = blen s + k := by
  have h1 := blen_le hs
  have h2 := blen_lt s
  have h3 := blen_pos hs
  have e : blen s + k = (blen s - 1 + k) + 1 := by omega
  rw [e]
  refine blen_eq ?_ ?_
  · rw [Nat.pow_add]; exact Nat.mul_le_mul_right _ h1
  · rw [show blen s - 1 + k + 1 = blen s + k by omega, Nat.pow_add]
    exact Nat.mul_lt_mul_of_pos_right h2 (Nat.two_pow_pos k)
theorem rN_ge (x : Int) (s : Nat) : -1074 ≤ rN x s := by unfold rN; split <;> omega
theorem rN_cases (x : Int) (s : Nat) : rN x s = -1074 ∧ x + (blen s : Int) - 53 ≤ -1074 ∨ rN x s = x + (blen s : Int) - 53 ∧ -1074 ≤ x + (blen s : Int) - 53 := by
  unfold rN rTop; split <;> omega
theorem cutQ53_lt {s : Nat} {x : Int} (hs : s ≠ 0) : cutQ s x (rN x s) < 2 ^ 53 := by
  have hb : x + (blen s : Int) - rN x s ≤ 53 := by rcases rN_cases x s with h | h <;> omega
  have h2 := blen_lt s
  unfold cutQ
  split
  · next h =>
    have h3 : s * 2 ^ (x - rN x s).toNat < 2 ^ 53 := by
      refine Nat.lt_of_lt_of_le (Nat.mul_lt_mul_of_pos_right h2 (Nat.two_pow_pos _)) ?_
      rw [← Nat.pow_add]
      exact Nat.pow_le_pow_right (by omega) (by omega)
    exact Nat.lt_of_le_of_lt (Nat.mod_le _ _) h3
  · next h =>
    refine Nat.div_lt_of_lt_mul ?_
    rw [← Nat.pow_add]
    exact Nat.lt_of_lt_of_le h2 (Nat.pow_le_pow_right (by omega) (by omega))
theorem cutQ_no_mod {s : Nat} {x : Int} (hs : s ≠ 0) (h : rN x s ≤ x) : cutQ s x (rN x s) = s * 2 ^ (x - rN x s).toNat := by
  have hb : x + (blen s : Int) - rN x s ≤ 53 := by rcases rN_cases x s with h | h <;> omega
  have h2 := blen_lt s
  have h3 : s * 2 ^ (x - rN x s).toNat < 2 ^ 53 := by
    refine Nat.lt_of_lt_of_le (Nat.mul_lt_mul_of_pos_right h2 (Nat.two_pow_pos _)) ?_
    rw [← Nat.pow_add]
    exact Nat.pow_le_pow_right (by omega) (by omega)
  unfold cutQ
  rw [if_pos h, T256_eq]
  exact Nat.mod_eq_of_lt (Nat.lt_trans h3 (by decide))
theorem cutQ_ge {s : Nat} {x : Int} (hs : s ≠ 0) (hn : -1074 < rN x s) : 2 ^ 52 ≤ cutQ s x (rN x s) := by
  have hb : rN x s = x + (blen s : Int) - 53 := by rcases rN_cases x s with h | h <;> omega
  have h1 := blen_le hs
  have hp := blen_pos hs
  by_cases h : rN x s ≤ x
  · rw [cutQ_no_mod hs h]
    refine Nat.le_trans ?_ (Nat.mul_le_mul_right _ h1)
    rw [← Nat.pow_add]
    exact Nat.pow_le_pow_right (by omega) (by omega)
  · unfold cutQ
    rw [if_neg h, Nat.le_div_iff_mul_le (Nat.two_pow_pos _), ← Nat.pow_add]
    exact Nat.le_trans (Nat.pow_le_pow_right (by omega) (by omega)) h1
def uu (mi : Bool) (x : Int) (s : Nat) (m : Int) : Nat := if upB m mi (decide (cutQ s x (rN x s) % 2 = 1)) (cutH s x (rN x s)) (cutR s x (rN x s)) = true then 1 else 0
def PQ (mi : Bool) (x : Int) (s : Nat) (m : Int) : Int := ((cutQ s x (rN x s) + uu mi x s m : Nat) : Int) + (rN x s + 1074) * 4503599627370496
theorem uu_le (mi : Bool) (x : Int) (s : Nat) (m : Int) : uu mi x s m ≤ 1 := by unfold uu; split <;> omega
theorem l0_small {n : Nat} (h : n < 18446744073709551616) : l0 n = (n : Int) := by unfold l0; omega
theorem round_eq (mi : Bool) (x : Int) (s : Nat) (m : Int) (hs : s ≠ 0) : rRound mi x s m = if 9218868437227405312 ≤ PQ mi x s m then (overP mi m, 20) else (PQ mi x s m + sg mi, rFlag mi x s m) := by
  have hlt := cutQ53_lt (x := x) hs
  have hge := cutQ_ge (x := x) hs
  have hn := rN_ge x s
  have hu := uu_le mi x s m
  have eQ : rQ mi x s m = cutQ s x (rN x s) + uu mi x s m := by
    unfold rQ rTo
    rw [Nat.mod_eq_of_lt]
    · rfl
    · show cutQ s x (rN x s) + uu mi x s m < T256
      rw [T256_eq]
      exact Nat.lt_of_le_of_lt (show _ ≤ 2 ^ 53 by omega) (by decide)
  have eP : PQ mi x s m = ((rQ mi x s m : Nat) : Int) + (rN x s + 1074) * 4503599627370496 := by unfold PQ; rw [eQ]
  unfold rRound
  rw [if_neg hs]
  rw [show (2 : Nat) ^ 53 = 9007199254740992 from rfl] at hlt
  rw [show (2 : Nat) ^ 52 = 4503599627370496 from rfl] at hge
  generalize hq : rQ mi x s m = q at *
  generalize hnn : rN x s = n at *
  generalize PQ mi x s m = P at *
  by_cases hb : 53 < blen q
  · have hq53 : q = 9007199254740992 := by
      have : ¬ q < 2 ^ 53 := fun h => by have := blen_le_iff.2 h; omega
      rw [show (2 : Nat) ^ 53 = 9007199254740992 from rfl] at this
      omega
    have e1 : rQ2 mi x s m = 4503599627370496 := by unfold rQ2; rw [hq, if_pos hb, hq53]
    have e2 : rN2 mi x s m = n + 1 := by unfold rN2; rw [hq, hnn, if_pos hb]
    rw [e1, e2]
    by_cases ho : 971 < n + 1
    · rw [if_pos ho, if_pos (by omega)]
    · rw [if_neg ho, if_neg (by omega)]
      congr 1
      unfold rP
      rw [l0_small (by decide), if_pos (by decide), IntKind.wrap_u64]
      unfold pA
      omega
  · have hq53 : q < 9007199254740992 := blen_le_iff.1 (show blen q ≤ 53 by omega)
    have e1 : rQ2 mi x s m = q := by unfold rQ2; rw [hq, if_neg hb]
    have e2 : rN2 mi x s m = n := by unfold rN2; rw [hq, hnn, if_neg hb]
    rw [e1, e2]
    by_cases ho : 971 < n
    · rw [if_pos ho, if_pos (by omega)]
    · rw [if_neg ho, if_neg (by omega)]
      congr 1
      unfold rP
      rw [l0_small (by omega)]
      by_cases h52 : (4503599627370496 : Int) ≤ q
      · rw [if_pos h52, IntKind.wrap_u64]
        unfold pA
        omega
      · rw [if_neg h52]
        unfold pA
        omega
theorem upB_no (m : Int) (a b : Bool) : upB m a b false false = false := by
  unfold upB
  repeat' split
  all_goals first | rfl | (cases a <;> rfl)
theorem pat_parts {p : Int} (hp : U p) (hf : pC p < 3) : (0 < pE p ∧ pE p < 2047 ∧ pX p = pE p - 1075 ∧ pS p = pF p + 4503599627370496 ∨ pE p = 0 ∧ pX p = -1074 ∧ pS p = pF p) ∧ p = pE p * 4503599627370496 + pF p + sg (pM p) := by
  have h1 := pE_bd p
  have h2 := pF_bd p
  have hE : pE p ≠ 2047 := by
    intro h
    unfold pC at hf
    rw [if_pos h] at hf
    split at hf
    · omega
    · split at hf <;> omega
  refine ⟨?_, ?_⟩
  · unfold pX pS
    rw [if_neg hE, if_neg hE]
    by_cases h : 0 < pE p
    · rw [if_pos h, if_pos h]; left; omega
    · rw [if_neg h, if_neg h]; right; omega
  · unfold pE pF pM sg
    unfold U at hp
    by_cases h : 9223372036854775808 ≤ p
    · rw [decide_eq_true h, if_pos rfl]; omega
    · rw [decide_eq_false h, if_neg (by decide)]; omega
theorem round_exact {p : Int} (hp : U p) (hf : pC p < 3) (k : Nat) (m : Int) : rRound (pM p) (pX p - k) ((pS p).toNat * 2 ^ k) m = (p, 0) := by
  obtain ⟨hc, hpe⟩ := pat_parts hp hf
  have hF := pF_bd p
  by_cases h0 : pS p = 0
  · have e : (pS p).toNat * 2 ^ k = 0 := by rw [h0]; simp
    unfold rRound
    rw [if_pos e]
    have : pE p * 4503599627370496 + pF p = 0 := by omega
    rw [this, Int.zero_add] at hpe
    rw [← hpe]
  · generalize hS : (pS p).toNat = S at *
    have hS0 : S ≠ 0 := by omega
    have hs : S * 2 ^ k ≠ 0 := Nat.mul_ne_zero hS0 (Nat.ne_of_gt (Nat.two_pow_pos k))
    have hb := blen_mul_pow hS0 k
    have hN : rN (pX p - k) (S * 2 ^ k) = pX p := by
      unfold rN rTop
      rw [hb]
      rcases hc with ⟨g0, g1, g2, g3⟩ | ⟨g0, g1, g2⟩
      · have : blen S = 52 + 1 := blen_eq (by rw [show (2 : Nat) ^ 52 = 4503599627370496 from rfl]; omega) (by rw [show (2 : Nat) ^ (52 + 1) = 9007199254740992 from rfl]; omega)
        rw [this]
        split <;> omega
      · have : blen S ≤ 52 := blen_le_iff.2 (by rw [show (2 : Nat) ^ 52 = 4503599627370496 from rfl]; omega)
        split <;> omega
    have hQ : cutQ (S * 2 ^ k) (pX p - k) (pX p) = S := by
      unfold cutQ
      by_cases hk : k = 0
      · subst hk
        rw [if_pos (by omega), show (pX p - ((0 : Nat) : Int) - pX p).toNat = 0 by omega, Nat.pow_zero, Nat.mul_one, Nat.mul_one, T256_eq]
        refine Nat.mod_eq_of_lt (Nat.lt_of_lt_of_le (show S < 2 ^ 53 from ?_) (show 2 ^ 53 ≤ 2 ^ 256 by decide))
        rw [show (2 : Nat) ^ 53 = 9007199254740992 from rfl]
        omega
      · rw [if_neg (by omega), show (pX p - (pX p - (k : Int))).toNat = k by omega]
        exact Nat.mul_div_cancel _ (Nat.two_pow_pos k)
    have hH : cutH (S * 2 ^ k) (pX p - k) (pX p) = false ∧ cutR (S * 2 ^ k) (pX p - k) (pX p) = false := by
      unfold cutH cutR
      by_cases hk : k = 0
      · subst hk
        rw [if_pos (by omega), if_pos (by omega)]
        exact ⟨rfl, rfl⟩
      · rw [if_neg (by omega), if_neg (by omega), show (pX p - (pX p - (k : Int)) - 1).toNat = k - 1 by omega]
        have e : S * 2 ^ k = (S * 2) * 2 ^ (k - 1) := by rw [Nat.mul_assoc, ← Nat.pow_succ']; congr 2; omega
        rw [e, Nat.mul_div_cancel _ (Nat.two_pow_pos _), Nat.mul_mod_left, Nat.mul_mod_left]
        exact ⟨by decide, by decide⟩
    have hu : uu (pM p) (pX p - k) (S * 2 ^ k) m = 0 := by
      unfold uu
      rw [hN, hH.1, hH.2, upB_no]
      rfl
    have hP : PQ (pM p) (pX p - k) (S * 2 ^ k) m = pE p * 4503599627370496 + pF p := by
      unfold PQ
      rw [hN, hQ, hu]
      omega
    have hfl : rFlag (pM p) (pX p - k) (S * 2 ^ k) m = 0 := by
      unfold rFlag rOdd
      rw [hN, hH.1, hH.2]
      rfl
    rw [round_eq _ _ _ _ hs, hP, hfl, if_neg (by omega), ← hpe]
def swM (m : Int) : Int := if m = 3 then 4 else if m = 4 then 3 else m
theorem upB_sw (m : Int) (a b c d : Bool) : upB (swM m) (!a) b c d = upB m a b c d := by
  unfold upB swM
  by_cases h3 : m = 3
  · subst h3; simp
  · by_cases h4 : m = 4
    · subst h4; simp
    · simp [h3, h4]
theorem overP_sw (m : Int) (a : Bool) : ∃ A, 0 ≤ A ∧ A ≤ 9218868437227405312 ∧ overP a m = A + sg a ∧ overP (!a) (swM m) = A + sg (!a) := by
  refine ⟨if m = 2 ∨ (m = 3 ∧ a = true) ∨ (m = 4 ∧ a = false) then 9218868437227405311 else 9218868437227405312, by split <;> omega, by split <;> omega, rfl, ?_⟩
  unfold overP swM
  congr 1
  by_cases h3 : m = 3
  · subst h3; simp
  · by_cases h4 : m = 4
    · subst h4; simp
    · simp [h3, h4]
theorem rTo_sw (mi : Bool) (x : Int) (s : Nat) (n m : Int) : rTo (!mi) x s n (swM m) = rTo mi x s n m := by unfold rTo; rw [upB_sw]
theorem rFlag_sw (mi : Bool) (x : Int) (s : Nat) (m : Int) : rFlag (!mi) x s (swM m) = rFlag mi x s m := by unfold rFlag rTiny; rw [rTo_sw]
theorem PQ_sw (mi : Bool) (x : Int) (s : Nat) (m : Int) : PQ (!mi) x s (swM m) = PQ mi x s m := by unfold PQ uu; rw [upB_sw]
theorem PQ_ge (mi : Bool) (x : Int) (s : Nat) (m : Int) : 0 ≤ PQ mi x s m := by unfold PQ; have := rN_ge x s; omega
theorem round_sw (mi : Bool) (x : Int) (s : Nat) (m : Int) : ∃ A f, 0 ≤ A ∧ A ≤ 9218868437227405312 ∧ rRound mi x s m = (A + sg mi, f) ∧ rRound (!mi) x s (swM m) = (A + sg (!mi), f) := by
  by_cases hs : s = 0
  · refine ⟨0, 0, by omega, by omega, ?_, ?_⟩ <;> (unfold rRound; rw [if_pos hs, Int.zero_add])
  · rw [round_eq _ _ _ _ hs, round_eq _ _ _ _ hs, PQ_sw, rFlag_sw]
    have := PQ_ge mi x s m
    split
    · obtain ⟨A, h0, h1, h2, h3⟩ := overP_sw m mi
      exact ⟨A, 20, h0, h1, by rw [h2], by rw [h3]⟩
    · exact ⟨_, _, this, by omega, rfl, rfl⟩
end Go.Proofs.Ythcgeekibomhiaa
end
section
namespace Go.Proofs.Ythcgeekibomhiaa
set_option linter.unusedVariables false
set_option linter.unusedSimpArgs false
open Go.RowKit
theorem blen_div {s k : Nat} (h : s / 2 ^ k ≠ 0) : blen s = blen (s / 2 ^ k) + k := by rw [blen_shift s k h, Nat.add_comm]
def SameAt (x1 : Int) (s1 : Nat) (x2 : Int) (s2 : Nat) (n : Int) : Prop := cutQ s1 x1 n = cutQ s2 x2 n ∧ cutH s1 x1 n = cutH s2 x2 n ∧ cutR s1 x1 n = cutR s2 x2 n
theorem round_same {x1 x2 : Int} {s1 s2 : Nat} (hz : s1 = 0 ↔ s2 = 0) (hb : s1 ≠ 0 → x1 + (blen s1 : Int) = x2 + (blen s2 : Int))
    (h : s1 ≠ 0 → ∀ n, x1 + (blen s1 : Int) - 53 ≤ n → SameAt x1 s1 x2 s2 n) (mi : Bool) (m : Int) : rRound mi x1 s1 m = rRound mi x2 s2 m := by
  by_cases z : s1 = 0
  · unfold rRound; rw [if_pos z, if_pos (hz.1 z)]
  · have z2 : s2 ≠ 0 := fun g => z (hz.2 g)
    have hb := hb z
    have hN : rN x2 s2 = rN x1 s1 := by unfold rN rTop; rw [hb]
    have hn : x1 + (blen s1 : Int) - 53 ≤ rN x1 s1 := by rcases rN_cases x1 s1 with g | g <;> omega
    obtain ⟨a1, a2, a3⟩ := h z _ hn
    obtain ⟨b1, b2, b3⟩ := h z (x1 + (blen s1 : Int) - 53) (Int.le_refl _)
    have ht : rTiny mi x1 s1 (rTop x1 s1) m = rTiny mi x2 s2 (rTop x2 s2) m := by
      unfold rTiny
      rw [show rTop x2 s2 = rTop x1 s1 by unfold rTop; rw [hb]]
      have e : rTo mi x1 s1 (rTop x1 s1 - 53) m = rTo mi x2 s2 (rTop x1 s1 - 53) m := by
        unfold rTo rTop
        rw [b1, b2, b3]
      rw [e]
    have hP : PQ mi x1 s1 m = PQ mi x2 s2 m := by unfold PQ uu; rw [hN, a1, a2, a3]
    have hF : rFlag mi x1 s1 m = rFlag mi x2 s2 m := by unfold rFlag rOdd; rw [hN, a2, a3, ht]
    rw [round_eq _ _ _ _ z, round_eq _ _ _ _ z2, hP, hF]
theorem round_scale (mi : Bool) (x : Int) (s k : Nat) (m : Int) : rRound mi (x - k) (s * 2 ^ k) m = rRound mi x s m := by
  have hk := Nat.two_pow_pos k
  refine round_same ⟨fun h => ?_, fun h => by rw [h, Nat.zero_mul]⟩ (fun h => ?_) (fun h n hn => ?_) mi m
  · rcases Nat.mul_eq_zero.1 h with g | g
    · exact g
    · omega
  · have : s ≠ 0 := fun g => h (by rw [g, Nat.zero_mul])
    rw [blen_mul_pow this]; omega
  · have hs : s ≠ 0 := fun g => h (by rw [g, Nat.zero_mul])
    rw [blen_mul_pow hs] at hn
    unfold SameAt cutQ cutH cutR
    by_cases c1 : n ≤ x - k
    · rw [if_pos c1, if_pos c1, if_pos c1, if_pos (by omega), if_pos (by omega), if_pos (by omega), Nat.mul_assoc, ← Nat.pow_add, show k + (x - (k : Int) - n).toNat = (x - n).toNat by omega]
      exact ⟨rfl, rfl, rfl⟩
    · rw [if_neg c1, if_neg c1, if_neg c1]
      by_cases c2 : n ≤ x
      · obtain ⟨j, hj⟩ : ∃ j, (n - (x - (k : Int))).toNat = j + 1 := ⟨(n - (x - (k : Int))).toNat - 1, by omega⟩
        have hkj : k = (x - n).toNat + (j + 1) := by omega
        have hl := blen_lt s
        have hlt : s * 2 ^ (x - n).toNat < T256 := by
          have h1 : s * 2 ^ (x - n).toNat < 2 ^ (blen s + (x - n).toNat) := by rw [Nat.pow_add]; exact Nat.mul_lt_mul_of_pos_right hl (Nat.two_pow_pos _)
          refine Nat.lt_of_lt_of_le h1 ?_
          rw [T256_eq]
          exact Nat.pow_le_pow_right (by omega) (by omega)
        rw [if_pos c2, if_pos c2, if_pos c2, hj, show (n - (x - (k : Int)) - 1).toNat = j by omega, Nat.mod_eq_of_lt hlt]
        have e1 : s * 2 ^ k = s * 2 ^ (x - n).toNat * 2 * 2 ^ j := by rw [hkj, Nat.pow_add, Nat.pow_succ]; simp only [Nat.mul_assoc, Nat.mul_comm 2]
        have e2 : s * 2 ^ k = s * 2 ^ (x - n).toNat * 2 ^ (j + 1) := by rw [e1, Nat.pow_succ, Nat.mul_assoc _ 2, Nat.mul_comm 2]
        refine ⟨by rw [e2]; exact Nat.mul_div_cancel _ (Nat.two_pow_pos _), ?_, ?_⟩
        · rw [e1, Nat.mul_div_cancel _ (Nat.two_pow_pos _), Nat.mul_mod_left]; rfl
        · rw [e1, Nat.mul_mod_left]; rfl
      · obtain ⟨j, hj⟩ : ∃ j, (n - x).toNat = j + 1 := ⟨(n - x).toNat - 1, by omega⟩
        rw [if_neg c2, if_neg c2, if_neg c2, hj, show (n - x - 1).toNat = j by omega, show (n - (x - (k : Int))).toNat = j + 1 + k by omega, show (n - (x - (k : Int)) - 1).toNat = j + k by omega]
        rw [Nat.pow_add, Nat.pow_add 2 j k, Nat.mul_div_mul_right _ _ hk, Nat.mul_div_mul_right _ _ hk, Nat.mul_mod_mul_right]
        refine ⟨rfl, rfl, ?_⟩
        rw [Bool.eq_iff_iff]
        simp only [decide_eq_true_eq, ne_eq, Nat.mul_eq_zero]
        omega
theorem round_sticky (mi : Bool) (x : Int) (s j : Nat) (m : Int) (hq : 2 ^ 54 ≤ s / 2 ^ (j + 1)) : rRound mi (x + j) (2 * (s / 2 ^ (j + 1)) + if s % 2 ^ (j + 1) ≠ 0 then 1 else 0) m = rRound mi x s m := by
  generalize hqq : s / 2 ^ (j + 1) = q at *
  generalize ht : (if s % 2 ^ (j + 1) ≠ 0 then 1 else 0) = t
  have ht1 : t ≤ 1 := by rw [← ht]; split <;> omega
  have htz : t = 0 ↔ s % 2 ^ (j + 1) = 0 := by rw [← ht]; split <;> omega
  have hq0 : q ≠ 0 := by omega
  have b1 : blen s = blen q + (j + 1) := by rw [← hqq]; exact blen_div (by rw [hqq]; exact hq0)
  have b2 : blen (2 * q + t) = blen q + 1 := by
    have := blen_div (s := 2 * q + t) (k := 1) (by rw [Nat.pow_one]; omega)
    rw [Nat.pow_one, show (2 * q + t) / 2 = q by omega] at this
    exact this
  have b3 : 55 ≤ blen q := by
    rcases Nat.lt_or_ge (blen q) 55 with g | g
    · have := blen_le_iff.1 (show blen q ≤ 54 by omega); omega
    · exact g
  have hs0 : s ≠ 0 := fun g => hq0 (by rw [← hqq, g, Nat.zero_div])
  refine round_same ⟨fun h => by omega, fun h => absurd h hs0⟩ (fun _ => by rw [b1, b2]; omega) (fun _ n hn => ?_) mi m
  rw [b2] at hn
  obtain ⟨i, hi⟩ : ∃ i, (n - (x + (j : Int))).toNat = i + 2 := ⟨(n - (x + (j : Int))).toNat - 2, by omega⟩
  have e1 : (n - (x + (j : Int)) - 1).toNat = i + 1 := by omega
  have e2 : (n - x).toNat = (j + 1) + (i + 1) := by omega
  have e3 : (n - x - 1).toNat = (j + 1) + i := by omega
  unfold SameAt cutQ cutH cutR
  rw [if_neg (by omega), if_neg (by omega), if_neg (by omega), if_neg (by omega), if_neg (by omega), if_neg (by omega), hi, e1, e2, e3]
  have d1 : ∀ i, (2 * q + t) / 2 ^ (i + 1) = q / 2 ^ i := fun i => by rw [Nat.pow_succ', ← Nat.div_div_eq_div_mul, show (2 * q + t) / 2 = q by omega]
  have d2 : ∀ i, s / 2 ^ ((j + 1) + i) = q / 2 ^ i := fun i => by rw [Nat.pow_add, ← Nat.div_div_eq_div_mul, hqq]
  refine ⟨by rw [d1, d2], by rw [d1, d2], ?_⟩
  have m1 : (2 * q + t) % 2 ^ (i + 1) = t + 2 * (q % 2 ^ i) := by rw [Nat.pow_succ', Nat.mod_mul, show (2 * q + t) / 2 = q by omega]; omega
  have m2 : s % 2 ^ ((j + 1) + i) = s % 2 ^ (j + 1) + 2 ^ (j + 1) * (q % 2 ^ i) := by rw [Nat.pow_add, Nat.mod_mul, hqq]
  rw [m1, m2, Bool.eq_iff_iff]
  have hp := Nat.two_pow_pos (j + 1)
  simp only [decide_eq_true_eq, ne_eq, Nat.add_eq_zero_iff, Nat.mul_eq_zero]
  omega
end Go.Proofs.Ythcgeekibomhiaa
end
section
namespace Go.Proofs.Ythcgeekibomhiaa
set_option linter.unusedVariables false
set_option linter.unusedSimpArgs false
open Go.RowKit
theorem pS_T (a : Int) : (pS a).toNat < T256 := by have := pS_bd a; rw [T256_eq]; omega
theorem U_pS (a : Int) : U (pS a) := by have := pS_bd a; unfold U; omega
theorem U_wf {a : Int} (h : (Lit.int .u64 a).wf = true) : U a := by
  unfold Lit.wf at h
  simp only [Bool.and_eq_true, decide_eq_true_eq] at h
  exact h
theorem pE_N (p : Int) : pE (pN p) = pE p := by unfold pE pN; split <;> omega
theorem pF_N (p : Int) : pF (pN p) = pF p := by unfold pF pN; split <;> omega
theorem pC_N (p : Int) : pC (pN p) = pC p := by unfold pC; rw [pE_N, pF_N]
theorem pX_N (p : Int) : pX (pN p) = pX p := by unfold pX; rw [pE_N]
theorem pS_N (p : Int) : pS (pN p) = pS p := by unfold pS; rw [pE_N, pF_N]
theorem pM_N {p : Int} (hp : U p) : pM (pN p) = !pM p := by
  unfold U at hp
  unfold pM pN
  by_cases h : p < 9223372036854775808
  · rw [if_pos h, decide_eq_true (by omega), decide_eq_false (by omega)]; rfl
  · rw [if_neg h, decide_eq_false (by omega), decide_eq_true (by omega)]; rfl
theorem pN_sg {A : Int} (h0 : 0 ≤ A) (h1 : A < 9223372036854775808) (b : Bool) : pN (A + sg b) = A + sg (!b) := by
  unfold pN
  cases b
  · rw [show sg false = 0 from rfl, show sg (!false) = 9223372036854775808 from rfl, if_pos (by omega)]; omega
  · rw [show sg true = 9223372036854775808 from rfl, show sg (!true) = 0 from rfl, if_neg (by omega)]; omega
theorem one_parts : pC 4607182418800017408 = 2 ∧ pX 4607182418800017408 = -52 ∧ pS 4607182418800017408 = 4503599627370496 ∧ pM 4607182418800017408 = false := by decide
theorem zero_iff {a : Int} : pA a = 0 ↔ pC a = 0 := by
  have hE := pE_bd a
  have hF := pF_bd a
  have e : pA a = pE a * 4503599627370496 + pF a := by unfold pA pE pF; omega
  unfold pC
  rw [e]
  constructor
  · intro h
    rw [if_neg (by omega), if_neg (by omega), if_neg (by omega)]
  · intro h
    split at h
    · split at h; omega; split at h <;> omega
    · split at h; omega; split at h <;> omega
theorem inf_iff {a : Int} : pA a = 9218868437227405312 ↔ pC a = 3 := by
  have hE := pE_bd a
  have hF := pF_bd a
  have e : pA a = pE a * 4503599627370496 + pF a := by unfold pA pE pF; omega
  unfold pC
  rw [e]
  constructor
  · intro h
    rw [if_pos (by omega), if_pos (by omega)]
  · intro h
    split at h
    · split at h; omega; split at h <;> omega
    · split at h; omega; split at h <;> omega
theorem infA_iff {a : Int} : pA a = 9218868437227405312 ↔ pC a = 3 := by
  have hE := pE_bd a
  have hF := pF_bd a
  have e : pA a = pE a * 4503599627370496 + pF a := by unfold pA pE pF; omega
  unfold pC
  split <;> (try split) <;> (try split) <;> omega
def md (m : Int) : Int := if m < 0 ∨ 4 < m then 0 else m
end Go.Proofs.Ythcgeekibomhiaa
end
section
namespace Go.Proofs.Ythcgeekibomhiaa
set_option linter.unusedVariables false
set_option linter.unusedSimpArgs false
open Go.RowKit
theorem pA_EF (p : Int) : pA p = pE p * 4503599627370496 + pF p := by unfold pA pE pF; omega
theorem EF_inj {a b : Int} (h : pA a = pA b) : pE a = pE b ∧ pF a = pF b := by
  rw [pA_EF, pA_EF] at h
  have ea := pE_bd a
  have eb := pE_bd b
  have fa := pF_bd a
  have fb := pF_bd b
  omega
theorem pA_sg {p : Int} (hp : U p) : p = pA p + sg (pM p) := by
  unfold U at hp
  unfold pA pM sg
  by_cases h : 9223372036854775808 ≤ p
  · rw [decide_eq_true h, if_pos rfl]; omega
  · rw [decide_eq_false h, if_neg (by decide)]; omega
theorem sgAA (A : Int) (b : Bool) : pA (A + sg b) = pA A := by
  unfold pA
  cases b <;> simp only [sg] <;> simp <;> omega
theorem C_same {a b : Int} (h : pA a = pA b) : pC a = pC b ∧ pX a = pX b ∧ pS a = pS b := by
  obtain ⟨h1, h2⟩ := EF_inj h
  unfold pC pX pS
  rw [h1, h2]
  exact ⟨rfl, rfl, rfl⟩
theorem sgU {A : Int} (h0 : 0 ≤ A) (h1 : A < 9223372036854775808) (b : Bool) : U (A + sg b) := by have := sg_bd b; unfold U; omega
end Go.Proofs.Ythcgeekibomhiaa
end
section
namespace Go.Proofs.Ythcgeekibomhiaa
set_option linter.unusedVariables false
set_option linter.unusedSimpArgs false
open Go.RowKit
def sSum (mx : Bool) (ex : Int) (sx : Nat) (my : Bool) (ey : Int) (sy : Nat) (m : Int) : Bool × Int × Nat :=
  if sx = 0 then (if sy = 0 then (if mx = my then mx else decide (m = 4), ex, 0) else (my, ey, sy))
  else if sy = 0 then (mx, ex, sx)
  else if ey ≤ ex then
    (if mx = my then (my, ey, sx * 2 ^ (ex - ey).toNat + sy) else if sx * 2 ^ (ex - ey).toNat = sy then (decide (m = 4), ey, 0) else if sy < sx * 2 ^ (ex - ey).toNat then (mx, ey, sx * 2 ^ (ex - ey).toNat - sy) else (my, ey, sy - sx * 2 ^ (ex - ey).toNat))
  else
    (if mx = my then (mx, ex, sy * 2 ^ (ey - ex).toNat + sx) else if sy * 2 ^ (ey - ex).toNat = sx then (decide (m = 4), ex, 0) else if sx < sy * 2 ^ (ey - ex).toNat then (my, ex, sy * 2 ^ (ey - ex).toNat - sx) else (mx, ex, sx - sy * 2 ^ (ey - ex).toNat))
def rNum (mi : Bool) (e : Int) (s : Nat) (o : Bool) (m : Int) : Int × Int := rRound mi (rX o e) (rS o s) m
theorem rNum_false (mi : Bool) (e : Int) (s : Nat) (m : Int) : rNum mi e s false m = rRound mi e s m := rfl
theorem rNum_cut (mi : Bool) (e : Int) (s sh : Nat) (m : Int) (hq : 2 ^ 54 ≤ s / 2 ^ sh) : rNum mi (e + sh) (s / 2 ^ sh) (decide (s % 2 ^ sh ≠ 0)) m = rRound mi e s m := by
  by_cases z : s % 2 ^ sh = 0
  · rw [decide_eq_false (by omega), rNum_false]
    have h := round_scale mi (e + sh) (s / 2 ^ sh) sh m
    rw [show e + (sh : Int) - (sh : Int) = e by omega, Nat.div_mul_cancel (Nat.dvd_of_mod_eq_zero z)] at h
    exact h.symm
  · obtain ⟨j, hj⟩ : ∃ j, sh = j + 1 := by
      cases sh with
      | zero => rw [Nat.pow_zero, Nat.mod_one] at z; exact absurd rfl z
      | succ j => exact ⟨j, rfl⟩
    subst hj
    have h := round_sticky mi e s j m hq
    rw [if_pos z] at h
    rw [decide_eq_true z, ← h]
    unfold rNum rX rS
    rw [if_pos rfl, if_pos rfl, show e + ((j + 1 : Nat) : Int) - 1 = e + (j : Int) by omega]
theorem beside_add {S y sh : Nat} : (S * 2 ^ sh + y) / 2 ^ sh = S + y / 2 ^ sh ∧ (S * 2 ^ sh + y) % 2 ^ sh = y % 2 ^ sh := by
  have hp := Nat.two_pow_pos sh
  refine ⟨?_, ?_⟩
  · rw [Nat.add_comm, Nat.add_mul_div_right _ _ hp, Nat.add_comm]
  · rw [Nat.add_comm, Nat.add_mul_mod_self_right]
theorem beside_sub {S y sh : Nat} (h : y / 2 ^ sh < S) : (S * 2 ^ sh - y) / 2 ^ sh = S - y / 2 ^ sh - (if y % 2 ^ sh ≠ 0 then 1 else 0) ∧ ((S * 2 ^ sh - y) % 2 ^ sh ≠ 0 ↔ y % 2 ^ sh ≠ 0) := by
  have hp := Nat.two_pow_pos sh
  have hdm := Nat.div_add_mod y (2 ^ sh)
  have hml := Nat.mod_lt y hp
  generalize hq : y / 2 ^ sh = q at *
  generalize hr : y % 2 ^ sh = r at *
  generalize hP : 2 ^ sh = P at *
  obtain ⟨T, hT⟩ : ∃ T, S = q + 1 + T := ⟨S - q - 1, by omega⟩
  have e1 : S * P = P * q + P + T * P := by rw [hT, Nat.add_mul, Nat.add_mul, Nat.one_mul, Nat.mul_comm q P]
  by_cases z : r = 0
  · subst z
    have e : S * P - y = (T + 1) * P := by rw [Nat.add_mul, Nat.one_mul]; omega
    rw [e, Nat.mul_div_cancel _ hp, Nat.mul_mod_left, if_neg (by omega)]
    exact ⟨by omega, Iff.rfl⟩
  · have e : S * P - y = T * P + (P - r) := by omega
    rw [e, if_pos z]
    refine ⟨?_, ?_⟩
    · rw [Nat.add_comm, Nat.add_mul_div_right _ _ hp, Nat.div_eq_of_lt (by omega)]; omega
    · rw [Nat.add_comm, Nat.add_mul_mod_self_right, Nat.mod_eq_of_lt (by omega)]
      omega
end Go.Proofs.Ythcgeekibomhiaa
end
