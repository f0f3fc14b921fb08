/-
  Plain law of rounding: what rRound answers, in one row; exact numbers; the other sign; the sides. No program here.
-/
import Derived.Test.YtedjlpfggjcmfaaBaseC
namespace Go.Proofs.Ytedjlpfggjcmfaa
open Go.RowKit

theorem blen_mul_pow {s : Nat} (hs : s ≠ 0) (k : Nat) : blen (s * 2 ^ k) = blen s + k := by
  have h1 := blen_le hs
  have h2 := blen_lt s
  have h3 := blen_pos hs
  have e : blen s + k = (blen s - 1 + k) + 1 := by omega
  rw [e]
  refine blen_eq ?_ ?_
  · rw [Nat.pow_add]; exact Nat.mul_le_mul_right _ h1
  · rw [show blen s - 1 + k + 1 = blen s + k by omega, Nat.pow_add]
    exact Nat.mul_lt_mul_of_pos_right h2 (Nat.two_pow_pos k)

theorem rN_ge (x : Int) (s : Nat) : -1074 ≤ rN x s := by unfold rN; split <;> omega
theorem rN_cases (x : Int) (s : Nat) : rN x s = -1074 ∧ x + (blen s : Int) - 53 ≤ -1074 ∨ rN x s = x + (blen s : Int) - 53 ∧ -1074 ≤ x + (blen s : Int) - 53 := by
  unfold rN rTop; split <;> omega

/-- what is cut has 53 bits at most; just 53, if it is not at the lower end -/
theorem cutQ53_lt {s : Nat} {x : Int} (hs : s ≠ 0) : cutQ s x (rN x s) < 2 ^ 53 := by
  have hb : x + (blen s : Int) - rN x s ≤ 53 := by rcases rN_cases x s with h | h <;> omega
  have h2 := blen_lt s
  unfold cutQ
  split
  · next h =>
    have h3 : s * 2 ^ (x - rN x s).toNat < 2 ^ 53 := by
      refine Nat.lt_of_lt_of_le (Nat.mul_lt_mul_of_pos_right h2 (Nat.two_pow_pos _)) ?_
      rw [← Nat.pow_add]
      exact Nat.pow_le_pow_right (by omega) (by omega)
    exact Nat.lt_of_le_of_lt (Nat.mod_le _ _) h3
  · next h =>
    refine Nat.div_lt_of_lt_mul ?_
    rw [← Nat.pow_add]
    exact Nat.lt_of_lt_of_le h2 (Nat.pow_le_pow_right (by omega) (by omega))
theorem cutQ_no_mod {s : Nat} {x : Int} (hs : s ≠ 0) (h : rN x s ≤ x) : cutQ s x (rN x s) = s * 2 ^ (x - rN x s).toNat := by
  have hb : x + (blen s : Int) - rN x s ≤ 53 := by rcases rN_cases x s with h | h <;> omega
  have h2 := blen_lt s
  have h3 : s * 2 ^ (x - rN x s).toNat < 2 ^ 53 := by
    refine Nat.lt_of_lt_of_le (Nat.mul_lt_mul_of_pos_right h2 (Nat.two_pow_pos _)) ?_
    rw [← Nat.pow_add]
    exact Nat.pow_le_pow_right (by omega) (by omega)
  unfold cutQ
  rw [if_pos h, T256_eq]
  exact Nat.mod_eq_of_lt (Nat.lt_trans h3 (by decide))
theorem cutQ_ge {s : Nat} {x : Int} (hs : s ≠ 0) (hn : -1074 < rN x s) : 2 ^ 52 ≤ cutQ s x (rN x s) := by
  have hb : rN x s = x + (blen s : Int) - 53 := by rcases rN_cases x s with h | h <;> omega
  have h1 := blen_le hs
  have hp := blen_pos hs
  by_cases h : rN x s ≤ x
  · rw [cutQ_no_mod hs h]
    refine Nat.le_trans ?_ (Nat.mul_le_mul_right _ h1)
    rw [← Nat.pow_add]
    exact Nat.pow_le_pow_right (by omega) (by omega)
  · unfold cutQ
    rw [if_neg h, Nat.le_div_iff_mul_le (Nat.two_pow_pos _), ← Nat.pow_add]
    exact Nat.le_trans (Nat.pow_le_pow_right (by omega) (by omega)) h1

def uu (mi : Bool) (x : Int) (s : Nat) (m : Int) : Nat := if upB m mi (decide (cutQ s x (rN x s) % 2 = 1)) (cutH s x (rN x s)) (cutR s x (rN x s)) = true then 1 else 0
def PQ (mi : Bool) (x : Int) (s : Nat) (m : Int) : Int := ((cutQ s x (rN x s) + uu mi x s m : Nat) : Int) + (rN x s + 1074) * 4503599627370496
theorem uu_le (mi : Bool) (x : Int) (s : Nat) (m : Int) : uu mi x s m ≤ 1 := by unfold uu; split <;> omega
theorem l0_small {n : Nat} (h : n < 18446744073709551616) : l0 n = (n : Int) := by unfold l0; omega

theorem round_eq (mi : Bool) (x : Int) (s : Nat) (m : Int) (hs : s ≠ 0) : rRound mi x s m = if 9218868437227405312 ≤ PQ mi x s m then (overP mi m, 20) else (PQ mi x s m + sg mi, rFlag mi x s m) := by
  have hlt := cutQ53_lt (x := x) hs
  have hge := cutQ_ge (x := x) hs
  have hn := rN_ge x s
  have hu := uu_le mi x s m
  have eQ : rQ mi x s m = cutQ s x (rN x s) + uu mi x s m := by
    unfold rQ rTo
    rw [Nat.mod_eq_of_lt]
    · rfl
    · show cutQ s x (rN x s) + uu mi x s m < T256
      rw [T256_eq]
      exact Nat.lt_of_le_of_lt (show _ ≤ 2 ^ 53 by omega) (by decide)
  have eP : PQ mi x s m = ((rQ mi x s m : Nat) : Int) + (rN x s + 1074) * 4503599627370496 := by unfold PQ; rw [eQ]
  unfold rRound
  rw [if_neg hs]
  rw [show (2 : Nat) ^ 53 = 9007199254740992 from rfl] at hlt
  rw [show (2 : Nat) ^ 52 = 4503599627370496 from rfl] at hge
  generalize hq : rQ mi x s m = q at *
  generalize hnn : rN x s = n at *
  generalize PQ mi x s m = P at *
  by_cases hb : 53 < blen q
  · have hq53 : q = 9007199254740992 := by
      have : ¬ q < 2 ^ 53 := fun h => by have := blen_le_iff.2 h; omega
      rw [show (2 : Nat) ^ 53 = 9007199254740992 from rfl] at this
      omega
    have e1 : rQ2 mi x s m = 4503599627370496 := by unfold rQ2; rw [hq, if_pos hb, hq53]
    have e2 : rN2 mi x s m = n + 1 := by unfold rN2; rw [hq, hnn, if_pos hb]
    rw [e1, e2]
    by_cases ho : 971 < n + 1
    · rw [if_pos ho, if_pos (by omega)]
    · rw [if_neg ho, if_neg (by omega)]
      congr 1
      unfold rP
      rw [l0_small (by decide), if_pos (by decide), IntKind.wrap_u64]
      unfold pA
      omega
  · have hq53 : q < 9007199254740992 := blen_le_iff.1 (show blen q ≤ 53 by omega)
    have e1 : rQ2 mi x s m = q := by unfold rQ2; rw [hq, if_neg hb]
    have e2 : rN2 mi x s m = n := by unfold rN2; rw [hq, hnn, if_neg hb]
    rw [e1, e2]
    by_cases ho : 971 < n
    · rw [if_pos ho, if_pos (by omega)]
    · rw [if_neg ho, if_neg (by omega)]
      congr 1
      unfold rP
      rw [l0_small (by omega)]
      by_cases h52 : (4503599627370496 : Int) ≤ q
      · rw [if_pos h52, IntKind.wrap_u64]
        unfold pA
        omega
      · rw [if_neg h52]
        unfold pA
        omega

/-- a number that is a pattern's is that pattern, without flags -/
theorem upB_no (m : Int) (a b : Bool) : upB m a b false false = false := by
  unfold upB
  repeat' split
  all_goals first | rfl | (cases a <;> rfl)
theorem pat_parts {p : Int} (hp : U p) (hf : pC p < 3) : (0 < pE p ∧ pE p < 2047 ∧ pX p = pE p - 1075 ∧ pS p = pF p + 4503599627370496 ∨ pE p = 0 ∧ pX p = -1074 ∧ pS p = pF p) ∧ p = pE p * 4503599627370496 + pF p + sg (pM p) := by
  have h1 := pE_bd p
  have h2 := pF_bd p
  have hE : pE p ≠ 2047 := by
    intro h
    unfold pC at hf
    rw [if_pos h] at hf
    split at hf
    · omega
    · split at hf <;> omega
  refine ⟨?_, ?_⟩
  · unfold pX pS
    rw [if_neg hE, if_neg hE]
    by_cases h : 0 < pE p
    · rw [if_pos h, if_pos h]; left; omega
    · rw [if_neg h, if_neg h]; right; omega
  · unfold pE pF pM sg
    unfold U at hp
    by_cases h : 9223372036854775808 ≤ p
    · rw [decide_eq_true h, if_pos rfl]; omega
    · rw [decide_eq_false h, if_neg (by decide)]; omega
theorem round_exact {p : Int} (hp : U p) (hf : pC p < 3) (k : Nat) (m : Int) : rRound (pM p) (pX p - k) ((pS p).toNat * 2 ^ k) m = (p, 0) := by
  obtain ⟨hc, hpe⟩ := pat_parts hp hf
  have hF := pF_bd p
  by_cases h0 : pS p = 0
  · have e : (pS p).toNat * 2 ^ k = 0 := by rw [h0]; simp
    unfold rRound
    rw [if_pos e]
    have : pE p * 4503599627370496 + pF p = 0 := by omega
    rw [this, Int.zero_add] at hpe
    rw [← hpe]
  · generalize hS : (pS p).toNat = S at *
    have hS0 : S ≠ 0 := by omega
    have hs : S * 2 ^ k ≠ 0 := Nat.mul_ne_zero hS0 (Nat.ne_of_gt (Nat.two_pow_pos k))
    have hb := blen_mul_pow hS0 k
    have hN : rN (pX p - k) (S * 2 ^ k) = pX p := by
      unfold rN rTop
      rw [hb]
      rcases hc with ⟨g0, g1, g2, g3⟩ | ⟨g0, g1, g2⟩
      · have : blen S = 52 + 1 := blen_eq (by rw [show (2 : Nat) ^ 52 = 4503599627370496 from rfl]; omega) (by rw [show (2 : Nat) ^ (52 + 1) = 9007199254740992 from rfl]; omega)
        rw [this]
        split <;> omega
      · have : blen S ≤ 52 := blen_le_iff.2 (by rw [show (2 : Nat) ^ 52 = 4503599627370496 from rfl]; omega)
        split <;> omega
    have hQ : cutQ (S * 2 ^ k) (pX p - k) (pX p) = S := by
      unfold cutQ
      by_cases hk : k = 0
      · subst hk
        rw [if_pos (by omega), show (pX p - ((0 : Nat) : Int) - pX p).toNat = 0 by omega, Nat.pow_zero, Nat.mul_one, Nat.mul_one, T256_eq]
        refine Nat.mod_eq_of_lt (Nat.lt_of_lt_of_le (show S < 2 ^ 53 from ?_) (show 2 ^ 53 ≤ 2 ^ 256 by decide))
        rw [show (2 : Nat) ^ 53 = 9007199254740992 from rfl]
        omega
      · rw [if_neg (by omega), show (pX p - (pX p - (k : Int))).toNat = k by omega]
        exact Nat.mul_div_cancel _ (Nat.two_pow_pos k)
    have hH : cutH (S * 2 ^ k) (pX p - k) (pX p) = false ∧ cutR (S * 2 ^ k) (pX p - k) (pX p) = false := by
      unfold cutH cutR
      by_cases hk : k = 0
      · subst hk
        rw [if_pos (by omega), if_pos (by omega)]
        exact ⟨rfl, rfl⟩
      · rw [if_neg (by omega), if_neg (by omega), show (pX p - (pX p - (k : Int)) - 1).toNat = k - 1 by omega]
        have e : S * 2 ^ k = (S * 2) * 2 ^ (k - 1) := by rw [Nat.mul_assoc, ← Nat.pow_succ']; congr 2; omega
        rw [e, Nat.mul_div_cancel _ (Nat.two_pow_pos _), Nat.mul_mod_left, Nat.mul_mod_left]
        exact ⟨by decide, by decide⟩
    have hu : uu (pM p) (pX p - k) (S * 2 ^ k) m = 0 := by
      unfold uu
      rw [hN, hH.1, hH.2, upB_no]
      rfl
    have hP : PQ (pM p) (pX p - k) (S * 2 ^ k) m = pE p * 4503599627370496 + pF p := by
      unfold PQ
      rw [hN, hQ, hu]
      omega
    have hfl : rFlag (pM p) (pX p - k) (S * 2 ^ k) m = 0 := by
      unfold rFlag rOdd
      rw [hN, hH.1, hH.2]
      rfl
    rw [round_eq _ _ _ _ hs, hP, hfl, if_neg (by omega), ← hpe]

/-- the other sign, the modes of the sides changed -/
def swM (m : Int) : Int := if m = 3 then 4 else if m = 4 then 3 else m
theorem upB_sw (m : Int) (a b c d : Bool) : upB (swM m) (!a) b c d = upB m a b c d := by
  unfold upB swM
  by_cases h3 : m = 3
  · subst h3; simp
  · by_cases h4 : m = 4
    · subst h4; simp
    · simp [h3, h4]
theorem overP_sw (m : Int) (a : Bool) : ∃ A, 0 ≤ A ∧ A ≤ 9218868437227405312 ∧ overP a m = A + sg a ∧ overP (!a) (swM m) = A + sg (!a) := by
  refine ⟨if m = 2 ∨ (m = 3 ∧ a = true) ∨ (m = 4 ∧ a = false) then 9218868437227405311 else 9218868437227405312, by split <;> omega, by split <;> omega, rfl, ?_⟩
  unfold overP swM
  congr 1
  by_cases h3 : m = 3
  · subst h3; simp
  · by_cases h4 : m = 4
    · subst h4; simp
    · simp [h3, h4]
theorem rTo_sw (mi : Bool) (x : Int) (s : Nat) (n m : Int) : rTo (!mi) x s n (swM m) = rTo mi x s n m := by unfold rTo; rw [upB_sw]
theorem rFlag_sw (mi : Bool) (x : Int) (s : Nat) (m : Int) : rFlag (!mi) x s (swM m) = rFlag mi x s m := by unfold rFlag rTiny; rw [rTo_sw]
theorem PQ_sw (mi : Bool) (x : Int) (s : Nat) (m : Int) : PQ (!mi) x s (swM m) = PQ mi x s m := by unfold PQ uu; rw [upB_sw]
theorem PQ_ge (mi : Bool) (x : Int) (s : Nat) (m : Int) : 0 ≤ PQ mi x s m := by unfold PQ; have := rN_ge x s; omega
theorem round_sw (mi : Bool) (x : Int) (s : Nat) (m : Int) : ∃ A f, 0 ≤ A ∧ A ≤ 9218868437227405312 ∧ rRound mi x s m = (A + sg mi, f) ∧ rRound (!mi) x s (swM m) = (A + sg (!mi), f) := by
  by_cases hs : s = 0
  · refine ⟨0, 0, by omega, by omega, ?_, ?_⟩ <;> (unfold rRound; rw [if_pos hs, Int.zero_add])
  · rw [round_eq _ _ _ _ hs, round_eq _ _ _ _ hs, PQ_sw, rFlag_sw]
    have := PQ_ge mi x s m
    split
    · obtain ⟨A, h0, h1, h2, h3⟩ := overP_sw m mi
      exact ⟨A, 20, h0, h1, by rw [h2], by rw [h3]⟩
    · exact ⟨_, _, this, by omega, rfl, rfl⟩

/-- the sides, of a number from 0 on: all modes answer that by Down or that by Up, which are the same or neighbours; Inexact (16) just where they are not the same -/
theorem bits16 (f : Int) (h : f = 0 ∨ f = 16 ∨ f = 24 ∨ f = 20) : (bits .and .u8 f 16 != 0) = decide (f ≠ 0) := by
  rcases h with h | h | h | h <;> subst h <;> decide
theorem rFlag_cases (mi : Bool) (x : Int) (s : Nat) (m : Int) : rFlag mi x s m = 0 ∧ rOdd s x (rN x s) = false ∨ (rFlag mi x s m = 16 ∨ rFlag mi x s m = 24) ∧ rOdd s x (rN x s) = true := by
  unfold rFlag
  cases h : rOdd s x (rN x s)
  · left; simp
  · right
    simp only [if_true, and_true]
    split <;> simp
theorem uu_down (x : Int) (s : Nat) : uu false x s 4 = 0 := by unfold uu upB; simp
theorem uu_up (x : Int) (s : Nat) : uu false x s 3 = if rOdd s x (rN x s) = true then 1 else 0 := by unfold uu upB rOdd; simp
theorem uu_exact (mi : Bool) (x : Int) (s : Nat) (m : Int) (h : rOdd s x (rN x s) = false) : uu mi x s m = 0 := by
  unfold rOdd at h
  unfold uu
  rw [(Bool.or_eq_false_iff.1 h).1, (Bool.or_eq_false_iff.1 h).2, upB_no]
  rfl
def Fl (f : Int) : Prop := f = 0 ∨ f = 16 ∨ f = 24 ∨ f = 20
theorem round_sides (x : Int) (s : Nat) (m : Int) :
    ((rRound false x s m).1 = (rRound false x s 4).1 ∨ (rRound false x s m).1 = (rRound false x s 3).1) ∧
    ((rRound false x s 3).1 = (rRound false x s 4).1 ∨ (rRound false x s 3).1 = (rRound false x s 4).1 + 1) ∧
    (∀ m, Fl (rRound false x s m).2) ∧ (∀ m, (rRound false x s m).2 ≠ 0 ↔ (rRound false x s 3).1 ≠ (rRound false x s 4).1) ∧
    (∀ m, 0 ≤ (rRound false x s m).1 ∧ (rRound false x s m).1 ≤ 9218868437227405312) := by
  by_cases hs : s = 0
  · have e : ∀ m, rRound false x s m = (0, 0) := fun m => by unfold rRound; rw [if_pos hs]; rfl
    rw [e m, e 3, e 4]
    exact ⟨.inl rfl, .inl rfl, fun m => by rw [e]; exact .inl rfl, fun m => by simp [e], fun m => by rw [e]; exact ⟨by decide, by decide⟩⟩
  · have e := fun m => round_eq false x s m hs
    have hge := fun m => PQ_ge false x s m
    have hsg : sg false = 0 := rfl
    have hov : ∀ m, overP false m = 9218868437227405311 ∨ overP false m = 9218868437227405312 := fun m => by unfold overP; rw [hsg]; split <;> omega
    have h3 : overP false 3 = 9218868437227405312 := by decide
    have h4 : overP false 4 = 9218868437227405311 := by decide
    cases ho : rOdd s x (rN x s)
    · have hP : ∀ m, PQ false x s m = PQ false x s 4 := fun m => by unfold PQ; rw [uu_exact _ _ _ m ho, uu_exact _ _ _ 4 ho]
      have hf : ∀ m, rFlag false x s m = 0 := fun m => by rcases rFlag_cases false x s m with h | h; exact h.1; rw [ho] at h; simp at h
      simp only [e, hP, hf, hsg]
      have := hge 4
      split
      · rw [h3, h4]
        refine ⟨?_, .inr (by decide), fun m => .inr (.inr (.inr rfl)), fun m => by simp, fun m => ?_⟩
        · rcases hov m with h | h <;> rw [h] <;> simp
        · rcases hov m with h | h <;> rw [h] <;> simp
      · exact ⟨.inl rfl, .inl rfl, fun m => .inl rfl, fun m => by simp, fun m => ⟨by simp; omega, by simp; omega⟩⟩
    · have hP3 : PQ false x s 3 = PQ false x s 4 + 1 := by unfold PQ; rw [uu_down, uu_up, ho]; simp; omega
      have hPm : ∀ m, PQ false x s m = PQ false x s 4 ∨ PQ false x s m = PQ false x s 4 + 1 := fun m => by
        have := uu_le false x s m
        unfold PQ
        rw [uu_down]
        omega
      have hf : ∀ m, rFlag false x s m = 16 ∨ rFlag false x s m = 24 := fun m => by rcases rFlag_cases false x s m with h | h; rw [ho] at h; simp at h; exact h.1
      have hg := hge 4
      have hFl : ∀ m, Fl (rRound false x s m).2 := fun m => by
        rw [e]; unfold Fl
        split
        · simp
        · have := hf m; simp; omega
      have hne : ∀ m, (rRound false x s m).2 ≠ 0 := fun m => by
        rw [e]
        split
        · simp
        · have := hf m; simp; omega
      have hbd : ∀ m, 0 ≤ (rRound false x s m).1 ∧ (rRound false x s m).1 ≤ 9218868437227405312 := fun m => by
        rw [e]
        have := hge m
        split
        · rcases hov m with h | h <;> rw [h] <;> simp
        · rw [hsg]; exact ⟨by simp; omega, by simp; omega⟩
      have h34 : (rRound false x s 3).1 = (rRound false x s 4).1 + 1 := by
        rw [e, e, hP3, h3, h4, hsg]
        split <;> split <;> (simp; try omega)
      have hm : (rRound false x s m).1 = (rRound false x s 4).1 ∨ (rRound false x s m).1 = (rRound false x s 4).1 + 1 := by
        rw [e, e, h4, hsg]
        have h1 := hov m
        have h2 := hPm m
        split <;> split <;> (simp; try omega)
        all_goals (unfold PQ at *; omega)
      refine ⟨by rw [h34]; exact hm, .inr h34, hFl, fun m => ?_, hbd⟩
      rw [h34]
      simp only [ne_eq, hne, not_false_eq_true, true_iff]
      omega
end Go.Proofs.Ytedjlpfggjcmfaa
