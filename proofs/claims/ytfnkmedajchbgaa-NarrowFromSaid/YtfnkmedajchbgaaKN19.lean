import Derived.Test.YtfnkmedajchbgaaKN4
import Derived.Test.YtfnkmedajchbgaaKN8
import Derived.Test.YtfnkmedajchbgaaKN12
import Derived.Test.YtfnkmedajchbgaaKNXtillerref12To
import Derived.Test.YtfnkmedajchbgaaKN17
import Derived.Test.YtfnkmedajchbgaaKNXtillerref04Round
section
namespace Go.Proofs.Ytfnkmedajchbgaa
set_option linter.unusedVariables false
set_option linter.unusedSimpArgs false
open Go.RowKit X Go.Proofs.YtfnkmedajchbgaaW.PrintWords
theorem one_B {B : Nat} (h : 1 ≤ B) : 1 < 65536 ^ B := by
  have := Nat.pow_le_pow_right (n := 65536) (by omega) h
  rw [Nat.pow_one] at this
  omega
section
variable {B : Nat}
theorem of_one : Ev (fun k => r2_Of.f k 1) (ln 1) := of_ev (n := 1) (by unfold U; omega)
theorem to_j3 (hB : B ≤ 1000000) {q : Nat} (hq : q < 65536 ^ B) (h1 : 1 ≤ B) (up : Bool) : Ev (fun k => r4_To.j3 k (ln q) up) (ln (q + if up = true then 1 else 0), true) := by
  cases up
  · refine Ev.step (f := fun _ => some _) (fun k => ?_) (Ev.now _)
    simp only [r4_To.j3]
    rw [if_neg (by decide), if_neg (by decide), Nat.add_zero]
  · refine Ev.step (f := fun k => (r2_Of.f k 1).bind fun t281 => ((r2_Add.f k (ln q) t281).bind fun t284 => (some (t284, true)))) (fun k => ?_) (Ev.bind of_one (Ev.bind (add_ev hB hq (one_B h1)) (Ev.now _)))
    simp only [r4_To.j3]
    first | rw [if_pos rfl] | rw [if_pos trivial]
theorem to_j2 (hB : B ≤ 1000000) {q : Nat} (hq : q < 65536 ^ B) (h1 : 1 ≤ B) (m : Int) (H J mi : Bool) (e : Int) (X : List Int) : Ev (fun k => r4_To.j2 k m (ln q) H J mi e X) (ln (q + if (if m = 1 then H else if m = 2 then false else if m = 3 then !mi else if m = 4 then mi else J) = true then 1 else 0), true) := by
  have h3 := to_j3 hB hq h1
  refine Ev.step (f := fun k => r4_To.j3 k (ln q) (if m = 1 then H else if m = 2 then false else if m = 3 then !mi else if m = 4 then mi else J)) (fun k => ?_) (h3 _)
  simp only [r4_To.j2]
  by_cases c1 : m = 1
  · rw [if_pos c1, if_pos c1]
  · rw [if_neg c1, if_neg c1]
    by_cases c2 : m = 2
    · rw [if_pos c2, if_pos c2]
    · rw [if_neg c2, if_neg c2]
      by_cases c3 : m = 3
      · rw [if_pos c3, if_pos c3]
      · rw [if_neg c3, if_neg c3]
        by_cases c4 : m = 4
        · rw [if_pos c4, if_pos c4]
        · rw [if_neg c4, if_neg c4]
theorem to_j1 (hB : B ≤ 1000000) {q : Nat} (hq : q < 65536 ^ B) (h1 : 1 ≤ B) (m : Int) (H just mi : Bool) (e : Int) (X : List Int) : Ev (fun k => r4_To.j1 k m (ln q) H just mi e X) (ln (q + if (if m = 1 then H else if m = 2 then false else if m = 3 then !mi else if m = 4 then mi else H && (!just || decide (q % 2 = 1))) = true then 1 else 0), true) := by
  refine Ev.step (f := fun k => r4_To.j2 k m (ln q) H (H && (!just || decide (q % 2 = 1))) mi e X) (fun k => ?_) (to_j2 hB hq h1 m H _ mi e X)
  simp only [r4_To.j1]
  cases H
  · rw [if_neg (by decide)]; rfl
  · first | rw [if_pos rfl] | rw [if_pos trivial]
    cases just
    · rw [if_neg (by decide)]; rfl
    · first | rw [if_pos rfl] | rw [if_pos trivial]
      by_cases h0 : q = 0
      · subst h0
        rw [ln_zero]
        rfl
      · have hl : 0 < (ln q).length := ln_lt_iff.2 (by rw [Nat.pow_zero]; omega)
        have hr := rd_ln q 0
        rw [Nat.pow_zero, Nat.div_one] at hr
        rw [if_pos (by omega), if_pos (by omega), show (0 : Int) = ((0 : Nat) : Int) from rfl, hr, Int.tmod_eq_emod_of_nonneg (by omega)]
        congr 1
        rw [Bool.eq_iff_iff]
        simp only [beq_iff_eq, Bool.true_and, Bool.not_true, Bool.false_or, decide_eq_true_eq]
        omega
theorem to_j0 (hB : B ≤ 1000000) {q r : Nat} (hq : q < 65536 ^ B) (hr : r < 65536 ^ B) (b : Nat) (hb : 2 ^ b < 65536 ^ B) (hbl : b ≤ 10000000) (m : Int) (H mi : Bool) (e : Int) (X : List Int) (h1 : 1 ≤ B) :
    Ev (fun k => r4_To.j0 k m ((b + 1 : Nat) : Int) (ln q) H (ln r) mi e X) (ln (q + if (if m = 1 then H else if m = 2 then false else if m = 3 then !mi else if m = 4 then mi else H && (!(H && decide (r = 2 ^ b)) || decide (q % 2 = 1))) = true then 1 else 0), true) := by
  cases H
  · have := to_j1 hB hq h1 m false false mi e X
    refine Ev.step (f := fun k => r4_To.j1 k m (ln q) false false mi e X) (fun k => ?_) this
    simp only [r4_To.j0]
    rw [if_neg (by decide)]
  · have hS := shl_ev hB (one_B h1) b hbl
    rw [Nat.one_mul] at hS
    have hC := cmp_ev hB hr hb
    have ej : (cmpI r (2 ^ b) == 0) = decide (r = 2 ^ b) := by
      rw [Bool.eq_iff_iff]
      simp only [beq_iff_eq, decide_eq_true_eq]
      unfold cmpI
      split
      · omega
      · split <;> omega
    have := to_j1 hB hq h1 m true (decide (r = 2 ^ b)) mi e X
    rw [← ej] at this
    refine Ev.step (f := fun k => (r2_Of.f k 1).bind fun t273 => ((r2_Shl.f k t273 (b : Int)).bind fun t276 => ((r2_Cmp.f k (ln r) t276).bind fun t279 => (r4_To.j1 k m (ln q) true (t279 == 0) mi e X)))) (fun k => ?_) (Ev.bind of_one (Ev.bind hS (Ev.bind hC ?_)))
    · simp only [r4_To.j0]
      first | rw [if_pos rfl, show wrap64 (((b + 1 : Nat) : Int) - 1) = (b : Int) by unfold wrap64; omega] | rw [if_pos trivial, show wrap64 (((b + 1 : Nat) : Int) - 1) = (b : Int) by unfold wrap64; omega]
    · rw [← ej]
      simp only [Bool.true_and] at this ⊢
      exact this
theorem to_ev (hB : B ≤ 1000000) (h1 : 1 ≤ B) {s : Nat} {e n m : Int} (mi : Bool) (hs : s < 65536 ^ B) (he : -2000000 ≤ e) (he2 : e ≤ 2000000) (hn : -2000000 ≤ n) (hn2 : n ≤ 2000000) (hm : m = 0 ∨ m = 1 ∨ m = 2 ∨ m = 3 ∨ m = 4) (hbig : 2 ^ (n - e).toNat < 65536 ^ B) :
    Ev (fun k => r4_To.f k mi e (ln s) n m) (ln (tQ mi e s n m), rOdd s e n) := by
  by_cases c : n ≤ e
  · have hS := shl_ev hB hs (e - n).toNat (by omega)
    have e1 : tQ mi e s n m = s * 2 ^ (e - n).toNat := by unfold tQ; rw [if_pos c]
    have e2 : rOdd s e n = false := by unfold rOdd cutH cutR; rw [if_pos c, if_pos c]; rfl
    rw [e1, e2]
    refine Ev.congr (f := fun k => (r2_Shl.f k (ln s) (((e - n).toNat : Nat) : Int)).bind fun t258 => some (t258, false)) (fun k => ?_) (Ev.bind hS (Ev.now _))
    unfold r4_To.f
    rw [if_pos (by omega), show wrap64 (e - n) = (((e - n).toNat : Nat) : Int) by unfold wrap64; omega]
  · obtain ⟨b, hb⟩ : ∃ b, (n - e).toNat = b + 1 := ⟨(n - e).toNat - 1, by omega⟩
    rw [hb] at hbig
    have hbb : 2 ^ b < 65536 ^ B := by rw [Nat.pow_succ] at hbig; omega
    have ew : wrap64 (n - e) = ((b + 1 : Nat) : Int) := by unfold wrap64; omega
    have ew2 : wrap64 (((b + 1 : Nat) : Int) - 1) = (b : Int) := by unfold wrap64; omega
    have hR := shr_ev hB hs (b + 1) (by omega) (by omega)
    have hq : s / 2 ^ (b + 1) < 65536 ^ B := Nat.lt_of_le_of_lt (Nat.div_le_self _ _) hs
    have hodd := odd_of s (show e < n by omega)
    rw [hb] at hodd
    have hH : cutH s e n = decide (s / 2 ^ b % 2 = 1) := by unfold cutH; rw [if_neg c, show (n - e - 1).toNat = b by omega]
    have hRr : cutR s e n = decide (s % 2 ^ b ≠ 0) := by unfold cutR; rw [if_neg c, show (n - e - 1).toNat = b by omega]
    rw [hodd]
    by_cases z : s % 2 ^ (b + 1) = 0
    · have e1 : tQ mi e s n m = s / 2 ^ (b + 1) := by
        have ho : rOdd s e n = false := by rw [odd_of s (by omega), hb]; exact decide_eq_false (by omega)
        unfold rOdd at ho
        unfold tQ tU
        rw [if_neg c, hb, (Bool.or_eq_false_iff.1 ho).1, (Bool.or_eq_false_iff.1 ho).2, upB_no]
        rfl
      rw [e1, decide_eq_false (by omega)]
      rw [decide_eq_false (by omega)] at hR
      refine Ev.congr (f := fun k => (r2_Shr.f k (ln s) ((b + 1 : Nat) : Int)).bind fun bt261 => (if bt261.2 = true then ((r2_Bit.f k (ln s) (b : Int)).bind fun t265 => ((r2_Len.f k (ln s)).bind fun t266 => (if ((b + 1 : Nat) : Int) ≤ t266 then ((r2_Shl.f k bt261.1 ((b + 1 : Nat) : Int)).bind fun t267 => ((r2_Sub.f k (ln s) t267).bind fun t270 => (r4_To.j0 k m ((b + 1 : Nat) : Int) bt261.1 (t265 == 1) t270 mi e (ln s)))) else (r4_To.j0 k m ((b + 1 : Nat) : Int) bt261.1 (t265 == 1) (ln s) mi e (ln s))))) else (some (bt261.1, false)))) (fun k => ?_) (Ev.bind hR ?_)
      · unfold r4_To.f
        rw [if_neg (by omega), ew, ew2]
      · exact Ev.congr (fun k => by rw [if_neg Bool.false_ne_true]) (Ev.now _)
    · rw [decide_eq_true z]
      rw [decide_eq_true z] at hR
      have hBit := bit_ev s b (by omega)
      have hLen := len_ev hB hs
      have eb : (((s / 2 ^ b % 2 : Nat) : Int) == 1) = cutH s e n := by rw [hH, Bool.eq_iff_iff]; simp only [beq_iff_eq, decide_eq_true_eq]; omega
      have hrest : s % 2 ^ (b + 1) < 65536 ^ B := Nat.lt_of_le_of_lt (Nat.mod_le _ _) hs
      have hj0 := to_j0 hB hq hrest b hbb (by omega) m (cutH s e n) mi e (ln s) h1
      have hlost : (cutH s e n || cutR s e n) = true := by have := odd_of s (show e < n by omega); unfold rOdd at this; rw [this, hb]; exact decide_eq_true z
      have ejust : (cutH s e n && decide (s % 2 ^ (b + 1) = 2 ^ b)) = (cutH s e n && !cutR s e n) := by
        rw [hH, hRr]
        have := mod_two_pow s b
        have hp := Nat.two_pow_pos b
        by_cases t : s / 2 ^ b % 2 = 1
        · rw [decide_eq_true t, Bool.true_and, Bool.true_and, this, t, Bool.eq_iff_iff]
          simp only [decide_eq_true_eq, Bool.not_eq_true', decide_eq_false_iff_not]
          omega
        · rw [decide_eq_false t]; rfl
      have eT : tQ mi e s n m = s / 2 ^ (b + 1) + if tU mi e s n m = true then 1 else 0 := by unfold tQ; rw [if_neg c, hb]
      have eU : tU mi e s n m = upB m mi (decide (s / 2 ^ (b + 1) % 2 = 1)) (cutH s e n) (cutR s e n) := by unfold tU; rw [hb]
      rw [ejust, upB_lost m mi (decide (s / 2 ^ (b + 1) % 2 = 1)) _ _ hlost hm, ← eU, ← eT] at hj0
      refine Ev.congr (f := fun k => (r2_Shr.f k (ln s) ((b + 1 : Nat) : Int)).bind fun bt261 => (if bt261.2 = true then ((r2_Bit.f k (ln s) (b : Int)).bind fun t265 => ((r2_Len.f k (ln s)).bind fun t266 => (if ((b + 1 : Nat) : Int) ≤ t266 then ((r2_Shl.f k bt261.1 ((b + 1 : Nat) : Int)).bind fun t267 => ((r2_Sub.f k (ln s) t267).bind fun t270 => (r4_To.j0 k m ((b + 1 : Nat) : Int) bt261.1 (t265 == 1) t270 mi e (ln s)))) else (r4_To.j0 k m ((b + 1 : Nat) : Int) bt261.1 (t265 == 1) (ln s) mi e (ln s))))) else (some (bt261.1, false)))) (fun k => ?_) (Ev.bind hR (Ev.congr (fun k => by first | rw [if_pos rfl] | rw [if_pos trivial]) (Ev.bind hBit (Ev.bind hLen ?_))))
      · unfold r4_To.f
        rw [if_neg (by omega), ew, ew2]
      · simp only [eb]
        by_cases hl : ((b + 1 : Nat) : Int) ≤ (blen s : Int)
        · have hS := shl_ev hB hq (b + 1) (by omega)
          have hm2 := Nat.div_add_mod s (2 ^ (b + 1))
          have hsub := sub_ev hB hs (y := s / 2 ^ (b + 1) * 2 ^ (b + 1)) (Nat.div_mul_le_self _ _)
          rw [show s - s / 2 ^ (b + 1) * 2 ^ (b + 1) = s % 2 ^ (b + 1) by rw [Nat.mul_comm]; omega] at hsub
          exact Ev.congr (fun k => by rw [if_pos hl]) (Ev.bind hS (Ev.bind hsub hj0))
        · have : s < 2 ^ (b + 1) := blen_le_iff.1 (by omega)
          rw [Nat.mod_eq_of_lt this] at hj0
          exact Ev.congr (fun k => by rw [if_neg hl]) hj0
end
end Go.Proofs.Ytfnkmedajchbgaa
end
section
namespace Go.Proofs.Ytfnkmedajchbgaa
set_option linter.unusedVariables false
set_option linter.unusedSimpArgs false
open Go.RowKit X Go.Proofs.YtfnkmedajchbgaaW.PrintWords
def overA (mi : Bool) (m : Int) : Int := if m = 2 ∨ (m = 3 ∧ mi = true) ∨ (m = 4 ∧ mi = false) then 9218868437227405311 else 9218868437227405312
theorem overA_bd (mi : Bool) (m : Int) : 0 ≤ overA mi m ∧ overA mi m < 9223372036854775808 := by unfold overA; split <;> omega
theorem over4_eq (mi : Bool) (m : Int) : r4_over.f mi m = some (overA mi m) := by
  unfold r4_over.f overA
  by_cases h2 : m = 2
  · rw [if_pos h2, if_pos (.inl h2)]
  · rw [if_neg h2]
    by_cases h3 : m = 3
    · subst h3; cases mi <;> simp
    · rw [if_neg h3]
      by_cases h4 : m = 4
      · subst h4; cases mi <;> simp
      · simp [h2, h3, h4]
theorem signed4_eq {a : Int} (h0 : 0 ≤ a) (h1 : a < 9223372036854775808) (mi : Bool) : r4_signed.f a mi = some (a + sg mi) := by
  unfold r4_signed.f sg
  cases mi
  · simp
  · rw [if_pos rfl, if_pos rfl, IntKind.wrap_u64]
    congr 1
    omega
theorem round_j4 (k : Nat) (n f : Int) (q : Nat) (mi : Bool) (e : Int) (X : List Int) (hn : -1074 ≤ n) (hn2 : n ≤ 971) (hq : q < 9007199254740992) (h52 : q < 4503599627370496 → n = -1074) :
    r4_Round.j4 (k + 1) n f (q : Int) mi e X = some ((q : Int) + (n + 1074) * 4503599627370496 + sg mi, f) := by
  simp only [r4_Round.j4]
  by_cases c : (q : Int) ≥ 4503599627370496
  · have e0 : wrap64 (n + 1075) = n + 1075 := by unfold wrap64; omega
    have e1 : IntKind.u64.wrap ((IntKind.u64.wrap ((IntKind.u64.wrap ((IntKind.u64.wrap (n + 1075)) * 4503599627370496)) + (q : Int))) - 4503599627370496) = (q : Int) + (n + 1074) * 4503599627370496 := by simp only [IntKind.wrap_u64]; omega
    rw [if_pos c, e0, e1, signed4_eq (by omega) (by omega)]
    rfl
  · rw [if_neg c, signed4_eq (by omega) (by omega), Option.bind_some]
    have := h52 (by omega)
    subst this
    simp
theorem round_j6 (k : Nat) (n f : Int) (q : Nat) (mi : Bool) (e : Int) (X : List Int) (hn : -1074 ≤ n) (hn2 : n ≤ 971) (hq : q < 9007199254740992) (h52 : q < 4503599627370496 → n = -1074) :
    r4_Round.j6 (k + 1) n f (q : Int) mi e X = some ((q : Int) + (n + 1074) * 4503599627370496 + sg mi, f) := by
  simp only [r4_Round.j6]
  by_cases c : (q : Int) ≥ 4503599627370496
  · have e0 : wrap64 (n + 1075) = n + 1075 := by unfold wrap64; omega
    have e1 : IntKind.u64.wrap ((IntKind.u64.wrap ((IntKind.u64.wrap ((IntKind.u64.wrap (n + 1075)) * 4503599627370496)) + (q : Int))) - 4503599627370496) = (q : Int) + (n + 1074) * 4503599627370496 := by simp only [IntKind.wrap_u64]; omega
    rw [if_pos c, e0, e1, signed4_eq (by omega) (by omega)]
    rfl
  · rw [if_neg c, signed4_eq (by omega) (by omega), Option.bind_some]
    have := h52 (by omega)
    subst this
    simp
def fin2 (mi : Bool) (n : Int) (q : Nat) (m f : Int) : Int × Int := if 9218868437227405312 ≤ (q : Int) + (n + 1074) * 4503599627370496 then (overA mi m + sg mi, 20) else ((q : Int) + (n + 1074) * 4503599627370496 + sg mi, f)
theorem small_B {B q : Nat} (hB : 130000 ≤ B) (hq : q < 18446744073709551616) : q < 65536 ^ B := by
  have := Nat.pow_le_pow_right (n := 65536) (by omega) (show 4 ≤ B by omega)
  rw [show 65536 ^ 4 = 18446744073709551616 from rfl] at this
  omega
section
variable {B : Nat}
theorem round_j3 (hB : B ≤ 1000000) (hB2 : 130000 ≤ B) {n : Int} {q : Nat} (m f : Int) (mi : Bool) (e : Int) (X : List Int) (hn : -1074 ≤ n) (hn2 : n ≤ 2000) (hq : q ≤ 9007199254740992) (h52 : q < 4503599627370496 → n = -1074) :
    Ev (fun k => r4_Round.j3 k m n (ln q) f mi e X) (fin2 mi n q m f) := by
  have hqB : q < 65536 ^ B := small_B hB2 (by omega)
  have hL := len_ev hB hqB
  have hLow := low_ev q (by have := ln_length hqB; omega)
  rw [Nat.mod_eq_of_lt (by omega)] at hLow
  have hb : blen q ≤ 54 := blen_le_iff.2 (by rw [show (2 : Nat) ^ 54 = 18014398509481984 from rfl]; omega)
  have hov := overA_bd mi m
  refine Ev.step (f := fun k => (r2_Len.f k (ln q)).bind fun t305 => (if (wrap64 (t305 + n)) > 1024 then ((r4_over.f mi m).bind fun t306 => ((r4_signed.f t306 mi).bind fun t307 => (some (t307, 20)))) else ((r2_Low.f k (ln q)).bind fun t308 => (if t308 = 9007199254740992 then (r4_Round.j4 k (wrap64 (n + 1)) f 4503599627370496 mi e X) else (r4_Round.j4 k n f t308 mi e X))))) (fun k => by simp only [r4_Round.j3]) (Ev.bind hL ?_)
  have ew : wrap64 ((blen q : Int) + n) = (blen q : Int) + n := by unfold wrap64; omega
  have ew1 : wrap64 (n + 1) = n + 1 := by unfold wrap64; omega
  unfold fin2
  simp only [ew, ew1]
  by_cases c : (blen q : Int) + n > 1024
  · have hP : 9218868437227405312 ≤ (q : Int) + (n + 1074) * 4503599627370496 := by
      rcases Nat.lt_or_ge q 4503599627370496 with g | g
      · have := h52 g; omega
      · rcases Nat.lt_or_ge q 9007199254740992 with g2 | g2
        · have := blen_53 g g2; omega
        · have : q = 9007199254740992 := by omega
          subst this; have := blen_54; omega
    rw [if_pos hP]
    refine Ev.congr (fun k => ?_) (Ev.now _)
    rw [if_pos c, over4_eq, Option.bind_some, signed4_eq hov.1 hov.2, Option.bind_some]
  · have hP : ¬ 9218868437227405312 ≤ (q : Int) + (n + 1074) * 4503599627370496 := by
      rcases Nat.lt_or_ge q 4503599627370496 with g | g
      · have := h52 g; omega
      · rcases Nat.lt_or_ge q 9007199254740992 with g2 | g2
        · have := blen_53 g g2; omega
        · have : q = 9007199254740992 := by omega
          subst this; have := blen_54; omega
    rw [if_neg hP]
    refine Ev.congr (fun k => by rw [if_neg c]) (Ev.bind hLow ?_)
    by_cases c3 : (q : Int) = 9007199254740992
    · refine Ev.congr (fun k => by rw [if_pos c3]) (Ev.step (fun k => round_j4 k (n + 1) f 4503599627370496 mi e X (by omega) ?_ (by omega) (by omega)) ?_)
      · have : q = 9007199254740992 := by omega
        subst this; have := blen_54; omega
      · refine Ev.congr (fun k => ?_) (Ev.now _)
        congr 2
        omega
    · refine Ev.congr (fun k => by rw [if_neg c3]) (Ev.step (fun k => round_j4 k n f q mi e X hn ?_ (by omega) h52) (Ev.now _))
      rcases Nat.lt_or_ge q 4503599627370496 with g | g
      · have := h52 g; omega
      · have := blen_53 g (by omega); omega
theorem round_j5 (hB : B ≤ 1000000) (hB2 : 130000 ≤ B) {n : Int} {q : Nat} (m f : Int) (mi : Bool) (e : Int) (X : List Int) (hn : -1074 ≤ n) (hn2 : n ≤ 2000) (hq : q ≤ 9007199254740992) (h52 : q < 4503599627370496 → n = -1074) :
    Ev (fun k => r4_Round.j5 k m n (ln q) f mi e X) (fin2 mi n q m f) := by
  have hqB : q < 65536 ^ B := small_B hB2 (by omega)
  have hL := len_ev hB hqB
  have hLow := low_ev q (by have := ln_length hqB; omega)
  rw [Nat.mod_eq_of_lt (by omega)] at hLow
  have hb : blen q ≤ 54 := blen_le_iff.2 (by rw [show (2 : Nat) ^ 54 = 18014398509481984 from rfl]; omega)
  have hov := overA_bd mi m
  refine Ev.step (f := fun k => (r2_Len.f k (ln q)).bind fun t305 => (if (wrap64 (t305 + n)) > 1024 then ((r4_over.f mi m).bind fun t306 => ((r4_signed.f t306 mi).bind fun t307 => (some (t307, 20)))) else ((r2_Low.f k (ln q)).bind fun t308 => (if t308 = 9007199254740992 then (r4_Round.j6 k (wrap64 (n + 1)) f 4503599627370496 mi e X) else (r4_Round.j6 k n f t308 mi e X))))) (fun k => by simp only [r4_Round.j5]) (Ev.bind hL ?_)
  have ew : wrap64 ((blen q : Int) + n) = (blen q : Int) + n := by unfold wrap64; omega
  have ew1 : wrap64 (n + 1) = n + 1 := by unfold wrap64; omega
  unfold fin2
  simp only [ew, ew1]
  by_cases c : (blen q : Int) + n > 1024
  · have hP : 9218868437227405312 ≤ (q : Int) + (n + 1074) * 4503599627370496 := by
      rcases Nat.lt_or_ge q 4503599627370496 with g | g
      · have := h52 g; omega
      · rcases Nat.lt_or_ge q 9007199254740992 with g2 | g2
        · have := blen_53 g g2; omega
        · have : q = 9007199254740992 := by omega
          subst this; have := blen_54; omega
    rw [if_pos hP]
    refine Ev.congr (fun k => ?_) (Ev.now _)
    rw [if_pos c, over4_eq, Option.bind_some, signed4_eq hov.1 hov.2, Option.bind_some]
  · have hP : ¬ 9218868437227405312 ≤ (q : Int) + (n + 1074) * 4503599627370496 := by
      rcases Nat.lt_or_ge q 4503599627370496 with g | g
      · have := h52 g; omega
      · rcases Nat.lt_or_ge q 9007199254740992 with g2 | g2
        · have := blen_53 g g2; omega
        · have : q = 9007199254740992 := by omega
          subst this; have := blen_54; omega
    rw [if_neg hP]
    refine Ev.congr (fun k => by rw [if_neg c]) (Ev.bind hLow ?_)
    by_cases c3 : (q : Int) = 9007199254740992
    · refine Ev.congr (fun k => by rw [if_pos c3]) (Ev.step (fun k => round_j6 k (n + 1) f 4503599627370496 mi e X (by omega) ?_ (by omega) (by omega)) ?_)
      · have : q = 9007199254740992 := by omega
        subst this; have := blen_54; omega
      · refine Ev.congr (fun k => ?_) (Ev.now _)
        congr 2
        omega
    · refine Ev.congr (fun k => by rw [if_neg c3]) (Ev.step (fun k => round_j6 k n f q mi e X hn ?_ (by omega) h52) (Ev.now _))
      rcases Nat.lt_or_ge q 4503599627370496 with g | g
      · have := h52 g; omega
      · have := blen_53 g (by omega); omega
theorem fin2_round (mi : Bool) (e : Int) (s : Nat) (m : Int) (hs : s ≠ 0) : fin2 mi (rN e s) (tQ mi e s (rN e s) m) m (rFlag mi e s m) = rRound mi e s m := by
  rw [round_eq _ _ _ _ hs, tQ_rN _ _ _ _ hs]
  rfl
theorem pow_B {t : Nat} (hB2 : 130000 ≤ B) (h : t ≤ 2000000) : 2 ^ t < 65536 ^ B := by
  rw [show (65536 : Nat) = 2 ^ 16 from rfl, ← Nat.pow_mul]
  exact (Nat.pow_lt_pow_iff_right (by omega)).2 (by omega)
theorem round_j2 (hB : B ≤ 1000000) (hB2 : 130000 ≤ B) (mi : Bool) {e : Int} {s : Nat} {m : Int} (hs : s ≠ 0) (hsB : s < 65536 ^ B) (he : -900000 ≤ e) (he2 : e ≤ 900000) (ht : -1300 ≤ e + (blen s : Int)) (ht2 : e + (blen s : Int) ≤ 1100) (hm : m = 0 ∨ m = 1 ∨ m = 2 ∨ m = 3 ∨ m = 4) :
    Ev (fun k => r4_Round.j2 k m (e + (blen s : Int)) mi e (ln s)) (rRound mi e s m) := by
  have ew : wrap64 (e + (blen s : Int) - 53) = e + (blen s : Int) - 53 := by unfold wrap64; omega
  have hbl := blen_pos hs
  have hTf := to_ev hB (by omega) mi hsB (e := e) (n := e + (blen s : Int) - 53) (m := m) (by omega) (by omega) (by omega) (by omega) hm (pow_B hB2 (by omega))
  obtain ⟨f1, f2, f3⟩ := tQ_53 mi e s m hs
  have hLf := len_ev hB (x := tQ mi e s (e + (blen s : Int) - 53) m) (small_B hB2 (by omega))
  have htf := tiny_iff mi e s m hs
  have hbf : blen (tQ mi e s (e + (blen s : Int) - 53) m) ≤ 54 := blen_le_iff.2 (by rw [show (2 : Nat) ^ 54 = 18014398509481984 from rfl]; omega)
  have hfin := fin2_round mi e s m hs
  have hq1 := tQ_rN mi e s m hs
  have hqlt := cutQ53_lt (x := e) hs
  have hqge := cutQ_ge (x := e) hs
  have huu := uu_le mi e s m
  rw [show (2 : Nat) ^ 53 = 9007199254740992 from rfl] at hqlt
  rw [show (2 : Nat) ^ 52 = 4503599627370496 from rfl] at hqge
  have hng := rN_ge e s
  by_cases c : e + (blen s : Int) - 53 < -1074
  · have hN : rN e s = -1074 := by unfold rN rTop; rw [if_pos c]
    rw [hN] at hfin hq1 hqlt hqge hng
    have hT := to_ev hB (by omega) mi hsB (e := e) (n := -1074) (m := m) (by omega) (by omega) (by omega) (by omega) hm (pow_B hB2 (by omega))
    have h3 := fun f => round_j3 hB hB2 (n := -1074) (q := tQ mi e s (-1074) m) m f mi e (ln s) (by omega) (by omega) (by omega) (fun _ => rfl)
    refine Ev.step (f := fun k => (r4_To.f k mi e (ln s) (-1074) m).bind fun bt296 => (if bt296.2 = true then ((r4_To.f k mi e (ln s) (e + (blen s : Int) - 53) m).bind fun bt300 => ((r2_Len.f k bt300.1).bind fun t304 => (if (wrap64 ((wrap64 (t304 + (e + (blen s : Int)))) - 53)) ≤ (-1022) then (r4_Round.j3 k m (-1074) bt296.1 24 mi e (ln s)) else (r4_Round.j3 k m (-1074) bt296.1 16 mi e (ln s))))) else (r4_Round.j3 k m (-1074) bt296.1 0 mi e (ln s)))) (fun k => ?_) (Ev.bind hT ?_)
    · simp only [r4_Round.j2]
      rw [ew, if_pos c]
    · unfold rFlag at hfin
      rw [hN] at hfin
      cases ho : rOdd s e (-1074)
      · rw [ho, if_neg (by decide)] at hfin
        exact Ev.congr (fun k => by simp only [ho]; rw [if_neg (by decide)]) (hfin ▸ h3 0)
      · rw [ho, if_pos rfl] at hfin
        refine Ev.congr (fun k => by simp only [ho]; rw [if_pos trivial]) (Ev.bind hTf (Ev.bind hLf ?_))
        have ew2 : wrap64 ((wrap64 ((blen (tQ mi e s (e + (blen s : Int) - 53) m) : Int) + (e + (blen s : Int)))) - 53) = (blen (tQ mi e s (e + (blen s : Int) - 53) m) : Int) + (e + (blen s : Int)) - 53 := by unfold wrap64; omega
        simp only [ew2]
        by_cases ct : (blen (tQ mi e s (e + (blen s : Int) - 53) m) : Int) + (e + (blen s : Int)) - 53 ≤ -1022
        · rw [if_pos (htf.1 ct)] at hfin
          exact Ev.congr (fun k => by rw [if_pos ct]) (hfin ▸ h3 24)
        · rw [if_neg (fun h => ct (htf.2 h))] at hfin
          exact Ev.congr (fun k => by rw [if_neg ct]) (hfin ▸ h3 16)
  · have hN : rN e s = e + (blen s : Int) - 53 := by unfold rN rTop; rw [if_neg c]
    rw [hN] at hfin hq1 hqlt hqge hng
    have h3 := fun f => round_j5 hB hB2 (n := e + (blen s : Int) - 53) (q := tQ mi e s (e + (blen s : Int) - 53) m) m f mi e (ln s) (by omega) (by omega) (by omega) (fun h => by omega)
    refine Ev.step (f := fun k => (r4_To.f k mi e (ln s) (e + (blen s : Int) - 53) m).bind fun bt311 => (if bt311.2 = true then ((r4_To.f k mi e (ln s) (e + (blen s : Int) - 53) m).bind fun bt315 => ((r2_Len.f k bt315.1).bind fun t319 => (if (wrap64 ((wrap64 (t319 + (e + (blen s : Int)))) - 53)) ≤ (-1022) then (r4_Round.j5 k m (e + (blen s : Int) - 53) bt311.1 24 mi e (ln s)) else (r4_Round.j5 k m (e + (blen s : Int) - 53) bt311.1 16 mi e (ln s))))) else (r4_Round.j5 k m (e + (blen s : Int) - 53) bt311.1 0 mi e (ln s)))) (fun k => ?_) (Ev.bind hTf ?_)
    · simp only [r4_Round.j2]
      rw [ew, if_neg c]
    · unfold rFlag at hfin
      rw [hN] at hfin
      cases ho : rOdd s e (e + (blen s : Int) - 53)
      · rw [ho, if_neg (by decide)] at hfin
        exact Ev.congr (fun k => by simp only [ho]; rw [if_neg (by decide)]) (hfin ▸ h3 0)
      · rw [ho, if_pos rfl] at hfin
        refine Ev.congr (fun k => by simp only [ho]; rw [if_pos trivial]) (Ev.bind hTf (Ev.bind hLf ?_))
        have ew2 : wrap64 ((wrap64 ((blen (tQ mi e s (e + (blen s : Int) - 53) m) : Int) + (e + (blen s : Int)))) - 53) = (blen (tQ mi e s (e + (blen s : Int) - 53) m) : Int) + (e + (blen s : Int)) - 53 := by unfold wrap64; omega
        simp only [ew2]
        by_cases ct : (blen (tQ mi e s (e + (blen s : Int) - 53) m) : Int) + (e + (blen s : Int)) - 53 ≤ -1022
        · rw [if_pos (htf.1 ct)] at hfin
          exact Ev.congr (fun k => by rw [if_pos ct]) (hfin ▸ h3 24)
        · rw [if_neg (fun h => ct (htf.2 h))] at hfin
          exact Ev.congr (fun k => by rw [if_neg ct]) (hfin ▸ h3 16)
theorem round_j1 (hB : B ≤ 1000000) (hB2 : 130000 ≤ B) (mi : Bool) {e : Int} {s : Nat} {m : Int} (hsB : s < 65536 ^ B) (hbl : blen s ≤ 1000000) (he : -900000 ≤ e) (he2 : e ≤ 900000) (hm : m = 0 ∨ m = 1 ∨ m = 2 ∨ m = 3 ∨ m = 4) :
    Ev (fun k => r4_Round.j1 k m mi e (ln s)) (rRound mi e s m) := by
  by_cases hs : s = 0
  · subst hs
    refine Ev.step (f := fun _ => some _) (fun k => ?_) (Ev.now _)
    simp only [r4_Round.j1]
    rw [ln_zero, if_pos (by rfl), signed4_eq (by omega) (by omega), Option.bind_some]
    unfold rRound
    rw [if_pos rfl, Int.zero_add]
  · have hL := len_ev hB hsB
    have hl : 0 < (ln s).length := ln_lt_iff.2 (by rw [Nat.pow_zero]; omega)
    have ew : wrap64 (e + (blen s : Int)) = e + (blen s : Int) := by unfold wrap64; omega
    have hov := overA_bd mi m
    refine Ev.step (f := fun k => (r2_Len.f k (ln s)).bind fun t290 => (if (wrap64 (e + t290)) > 1100 then ((r4_over.f mi m).bind fun t291 => ((r4_signed.f t291 mi).bind fun t292 => (some (t292, 20)))) else (if (wrap64 (e + t290)) < (-1200) then ((r2_Of.f k 1).bind fun t293 => (r4_Round.j2 k m (-1299) mi (-1300) t293)) else (r4_Round.j2 k m (wrap64 (e + t290)) mi e (ln s))))) (fun k => by simp only [r4_Round.j1]; rw [if_neg (by omega)]) (Ev.bind hL ?_)
    simp only [ew]
    by_cases c : e + (blen s : Int) > 1100
    · have hN : rN e s = e + (blen s : Int) - 53 := by rcases rN_cases e s with g | g <;> omega
      have hP : 9218868437227405312 ≤ PQ mi e s m := by
        have := cutQ_ge (x := e) hs (by omega)
        rw [show (2 : Nat) ^ 52 = 4503599627370496 from rfl] at this
        unfold PQ
        omega
      rw [round_eq _ _ _ _ hs, if_pos hP]
      refine Ev.congr (fun k => ?_) (Ev.now _)
      rw [if_pos c, over4_eq, Option.bind_some, signed4_eq hov.1 hov.2, Option.bind_some]
      rfl
    · by_cases c2 : e + (blen s : Int) < -1200
      · rw [round_far mi m hs c2]
        have := round_j2 hB hB2 mi (e := -1300) (s := 1) (m := m) (by omega) (one_B (by omega)) (by omega) (by omega) (by decide) (by decide) hm
        rw [show (-1300 : Int) + (blen 1 : Int) = -1299 by decide] at this
        exact Ev.congr (fun k => by rw [if_neg c, if_pos c2]) (Ev.bind of_one this)
      · exact Ev.congr (fun k => by rw [if_neg c, if_neg c2]) (round_j2 hB hB2 mi hs hsB he he2 (by omega) (by omega) hm)
theorem ref_round_ev (hB : B ≤ 1000000) (hB2 : 130000 ≤ B) (mi : Bool) {e : Int} {s : Nat} (m : Int) (hsB : s < 65536 ^ B) (hbl : blen s ≤ 1000000) (he : -900000 ≤ e) (he2 : e ≤ 900000) :
    Ev (fun k => r4_Round.f k mi e (ln s) m) (rRound mi e s m) := by
  rw [← round_md]
  have h1 := round_j1 hB hB2 mi (e := e) (s := s) (m := md m) hsB hbl he he2 (md_in m)
  by_cases c1 : m < 0
  · have e0 : md m = 0 := by unfold md; rw [if_pos (.inl c1)]
    rw [e0] at h1 ⊢
    refine Ev.congr (f := fun k => r4_Round.j0 k m true mi e (ln s)) (fun k => by unfold r4_Round.f; rw [if_pos c1]) (Ev.step (fun k => ?_) h1)
    simp only [r4_Round.j0]
    rw [if_pos trivial]
  · refine Ev.congr (f := fun k => r4_Round.j0 k m (decide (m > 4)) mi e (ln s)) (fun k => by unfold r4_Round.f; rw [if_neg c1]) ?_
    by_cases c2 : m > 4
    · have e0 : md m = 0 := by unfold md; rw [if_pos (.inr c2)]
      rw [e0] at h1 ⊢
      rw [decide_eq_true c2]
      refine Ev.step (fun k => ?_) h1
      simp only [r4_Round.j0]
      rw [if_pos trivial]
    · have e0 : md m = m := by unfold md; rw [if_neg (by omega)]
      rw [e0] at h1 ⊢
      rw [decide_eq_false c2]
      refine Ev.step (fun k => ?_) h1
      simp only [r4_Round.j0]
      rw [if_neg (by decide)]
end
end Go.Proofs.Ytfnkmedajchbgaa
end
section
namespace Go.Proofs.Ytfnkmedajchbgaa.X
open Go.RowKit Go.Proofs.YtfnkmedajchbgaaW.PrintWords Go.Proofs.YtfnkmedajchbgaaW.PrintLast Go.Proofs.YtfnkmedajchbgaaW.PrintMore
attribute [local go_sem] max2_int min2_int max_two min_two max_three min_three max_four min_four   
set_option linter.unusedVariables false
set_option linter.unusedSimpArgs false
def tillerref12_From.j0 : Nat → Bool → Int → Int → Bool → Option (Int × Int)
 | 0, _, _, _, _ => none
 | k + 1, x4, x5, x6, x19 => if x19 = true then (if x6 < 4194304 then (some (9221120237041090560, 1)) else (some (9221120237041090560, 0))) else (if x5 = 255 then (if x4 = true then (some (18442240474082181120, 0)) else (some (9218868437227405312, 0))) else (if x5 = 0 then ((r2_Of.f k (IntKind.u64.wrap (x6))).bind fun q1 => ((r4_Round.f k x4 (-149) q1 0).bind fun q2 => (some (q2.1, q2.2)))) else ((r2_Of.f k (IntKind.u64.wrap ((IntKind.u64.wrap (x6)) + 8388608))).bind fun q3 => ((r4_Round.f k x4 (wrap64 ((wrap64 (x5)) - 150)) q3 0).bind fun q4 => (some (q4.1, q4.2))))))
def tillerref12_From.f (k : Nat) (a0 : Int) : Option (Int × Int) := if ((Int.tdiv a0 8388608) % 256) = 255 then (tillerref12_From.j0 k (decide (a0 ≥ 2147483648)) ((Int.tdiv a0 8388608) % 256) (Int.tmod a0 8388608) (decide ((Int.tmod a0 8388608) > 0))) else (tillerref12_From.j0 k (decide (a0 ≥ 2147483648)) ((Int.tdiv a0 8388608) % 256) (Int.tmod a0 8388608) false)
theorem tillerref12_From.mono_l : ∀ k, (∀ y0 y1 y2 y3, LeO (tillerref12_From.j0 k y0 y1 y2 y3) (tillerref12_From.j0 (k + 1) y0 y1 y2 y3))
 | 0 => fun _ _ _ _ r h => by simp [tillerref12_From.j0] at h
 | k + 1 => by
  have ih0 := tillerref12_From.mono_l k
  · intro y0 y1 y2 y3
    unfold tillerref12_From.j0
    repeat' first
    | (with_reducible exact ih0 _ _ _ _)
    | (with_reducible exact r2_Of.mono _ _)
    | (with_reducible exact r4_Round.mono _ _ _ _ _)
    | (with_reducible exact LeO.refl _)
    | (with_reducible exact LeO.none _)
    | (with_reducible refine LeO.ite ?_ ?_)
    | (with_reducible refine LeO.bind ?_ (fun _ => ?_))
    | exact ih0 _ _ _ _
    | exact r2_Of.mono _ _
    | exact r4_Round.mono _ _ _ _ _
    | exact LeO.none _
    | refine LeO.ite ?_ ?_
    | refine LeO.bind ?_ (fun _ => ?_)
theorem tillerref12_From.mono : ∀ a0 k, LeO (tillerref12_From.f k a0) (tillerref12_From.f (k + 1) a0) := by
 intro a0 k; have ih0 := tillerref12_From.mono_l k
 unfold tillerref12_From.f
 repeat' first
  | (with_reducible exact ih0 _ _ _ _)
  | (with_reducible exact r2_Of.mono _ _)
  | (with_reducible exact r4_Round.mono _ _ _ _ _)
  | (with_reducible exact LeO.refl _)
  | (with_reducible exact LeO.none _)
  | (with_reducible refine LeO.ite ?_ ?_)
  | (with_reducible refine LeO.bind ?_ (fun _ => ?_))
  | exact ih0 _ _ _ _
  | exact r2_Of.mono _ _
  | exact r4_Round.mono _ _ _ _ _
  | exact LeO.none _
  | refine LeO.ite ?_ ?_
  | refine LeO.bind ?_ (fun _ => ?_)
set_option maxHeartbeats 8000000 in
set_option maxRecDepth 100000 in
theorem tillerref12_From.calls (k : Nat) (a0 : Int) (r1 : Int) (r2 : Int) (w : World) (h : tillerref12_From.f k a0 = some (r1, r2)) :
 Calls Try.prog 16 #[.int .u32 a0] w fun e w' => e = .returned (.tuple #[.int .u64 r1, .int .i64 r2]) ∧ Below w.heap.size w w' := by
 have hu66 := Try.underlying66; have HB := Aside0.mk (Below.refl w.heap.size w); have H : (if ((Int.tdiv a0 8388608) % 256) = 255 then (tillerref12_From.j0 k (decide (a0 ≥ 2147483648)) ((Int.tdiv a0 8388608) % 256) (Int.tmod a0 8388608) (decide ((Int.tmod a0 8388608) > 0))) else (tillerref12_From.j0 k (decide (a0 ≥ 2147483648)) ((Int.tdiv a0 8388608) % 256) (Int.tmod a0 8388608) false)) = some (r1, r2) := h; clear h; have HC2 := Aside0.mk H; clear H
 go_enter Try.func16, Try.ntmps16
 go_upto_region 2 with (fail)
 go_cut [4, 19] (fun v4 v19 wc => ∃ (kq : Nat) (q0 : Bool) (q6 : Bool), v4 = .bool q0 ∧ v19 = .bool q6 ∧ Aside0 (tillerref12_From.j0 kq q0 ((Int.tdiv a0 8388608) % 256) (Int.tmod a0 8388608) q6 = some (r1, r2)) ∧ Aside0 (kq ≤ k) ∧ Aside0 (Below w.heap.size w wc))
 case first =>
  have H := HC2.out; clear HC2
  by_cases c3 : ((Int.tdiv a0 8388608) % 256) = 255
  · rw [if_pos c3] at H
    have q5 : (((Int.tdiv a0 8388608) % 256) == 255) = true := beq_iff_eq.mpr c3; have q9 : (((Int.tdiv a0 8388608) % 256) != 255) = false := bne_eq_false_iff_eq.mpr c3; clear c3
    (first | rw [q5] | (simp only [i64_w, i32_w]; rw [q5]) | skip)
    have H' := Aside0.mk H; clear H
    go_wp2
    go_meet
    case rel => exact ⟨_, (decide (a0 ≥ 2147483648)), (decide ((Int.tmod a0 8388608) > 0)), RSq, RSq, (by first | exact H' | (subst_vars; exact H')), ⟨by first | omega | exact Nat.le_refl _⟩, ⟨kH HB⟩⟩
  rw [if_neg c3] at H
  have q5 : (((Int.tdiv a0 8388608) % 256) == 255) = false := beq_eq_false_iff_ne.mpr c3; have q9 : (((Int.tdiv a0 8388608) % 256) != 255) = true := bne_iff_ne.mpr c3
  (first | rw [q5] | (simp only [i64_w, i32_w]; rw [q5]) | skip)
  have H' := Aside0.mk H; clear H
  go_wp2
  go_meet
  case rel => exact ⟨_, (decide (a0 ≥ 2147483648)), (false), RSq, RSq, (by first | exact H' | (subst_vars; exact H')), ⟨by first | omega | exact Nat.le_refl _⟩, ⟨kH HB⟩⟩
 case rest =>
  clear HC2; (try clear c1); (try clear p2); (try clear c3); (try clear q5); (try clear q9); obtain ⟨kq, q0, q6, rfl, rfl, HA, HJ1, HB⟩ := hcut
  cases kq with
  | zero => exact absurd HA.out (by simp [tillerref12_From.j0])
  | succ kj1 =>
   have H := HA.out; clear HA
   simp only [tillerref12_From.j0] at H
   by_cases c4 : q6 = true
   · subst c4
     have H1 : (if (Int.tmod a0 8388608) < 4194304 then (some (9221120237041090560, 1)) else (some (9221120237041090560, 0))) = some (r1, r2) := by rw [if_pos rfl] at H; exact H
     clear H; have H := H1; clear H1
     by_cases c5 : (Int.tmod a0 8388608) < 4194304
     · rw [if_pos c5] at H
       have qh : decide ((Int.tmod a0 8388608) < 4194304) = true := decide_eq_true c5; clear c5
       simp only [Option.some.injEq, Prod.mk.injEq] at H
       obtain ⟨rfl, rfl⟩ := H
       go_wp2
       go_ret2
       exact ⟨by first | rfl | (simp [errW_none, errW_some] <;> rfl) | (simp [*, errW_none, errW_some] <;> rfl), kH HB⟩
     rw [if_neg c5] at H
     have qh : decide ((Int.tmod a0 8388608) < 4194304) = false := decide_eq_false c5; clear c5
     simp only [Option.some.injEq, Prod.mk.injEq] at H
     obtain ⟨rfl, rfl⟩ := H
     go_wp2
     go_ret2
     exact ⟨by first | rfl | (simp [errW_none, errW_some] <;> rfl) | (simp [*, errW_none, errW_some] <;> rfl), kH HB⟩
   replace c4 := Bool.eq_false_iff.mpr c4; subst c4
   have H1 : (if ((Int.tdiv a0 8388608) % 256) = 255 then (if q0 = true then (some (18442240474082181120, 0)) else (some (9218868437227405312, 0))) else (if ((Int.tdiv a0 8388608) % 256) = 0 then ((r2_Of.f kj1 (IntKind.u64.wrap ((Int.tmod a0 8388608)))).bind fun q1 => ((r4_Round.f kj1 q0 (-149) q1 0).bind fun q2 => (some (q2.1, q2.2)))) else ((r2_Of.f kj1 (IntKind.u64.wrap ((IntKind.u64.wrap ((Int.tmod a0 8388608))) + 8388608))).bind fun q3 => ((r4_Round.f kj1 q0 (wrap64 ((wrap64 (((Int.tdiv a0 8388608) % 256))) - 150)) q3 0).bind fun q4 => (some (q4.1, q4.2)))))) = some (r1, r2) := by rw [if_neg (show ¬ (false = true) by decide)] at H; exact H
   clear H; have H := H1; clear H1
   by_cases c6 : ((Int.tdiv a0 8388608) % 256) = 255
   · rw [if_pos c6] at H
     have qi : (((Int.tdiv a0 8388608) % 256) == 255) = true := beq_iff_eq.mpr c6; have qj : (((Int.tdiv a0 8388608) % 256) != 255) = false := bne_eq_false_iff_eq.mpr c6; clear c6
     by_cases c7 : q0 = true
     · subst c7
       have H1 : (some (18442240474082181120, 0)) = some (r1, r2) := by rw [if_pos rfl] at H; exact H
       clear H; have H := H1; clear H1
       simp only [Option.some.injEq, Prod.mk.injEq] at H
       obtain ⟨rfl, rfl⟩ := H
       go_wp2
       go_ret2
       exact ⟨by first | rfl | (simp [errW_none, errW_some] <;> rfl) | (simp [*, errW_none, errW_some] <;> rfl), kH HB⟩
     replace c7 := Bool.eq_false_iff.mpr c7; subst c7
     have H1 : (some (9218868437227405312, 0)) = some (r1, r2) := by rw [if_neg (show ¬ (false = true) by decide)] at H; exact H
     clear H; have H := H1; clear H1
     simp only [Option.some.injEq, Prod.mk.injEq] at H
     obtain ⟨rfl, rfl⟩ := H
     go_wp2
     go_ret2
     exact ⟨by first | rfl | (simp [errW_none, errW_some] <;> rfl) | (simp [*, errW_none, errW_some] <;> rfl), kH HB⟩
   rw [if_neg c6] at H
   have qi : (((Int.tdiv a0 8388608) % 256) == 255) = false := beq_eq_false_iff_ne.mpr c6; have qj : (((Int.tdiv a0 8388608) % 256) != 255) = true := bne_iff_ne.mpr c6
   by_cases c8 : ((Int.tdiv a0 8388608) % 256) = 0
   · rw [if_pos c8] at H
     have qk : (((Int.tdiv a0 8388608) % 256) == 0) = true := beq_iff_eq.mpr c8; have ql : (((Int.tdiv a0 8388608) % 256) != 0) = false := bne_eq_false_iff_eq.mpr c8; clear c8; replace H := Option.bind_eq_some_iff.mp H; obtain ⟨q1, A90, H⟩ := H; replace H : ((r4_Round.f kj1 q0 (-149) q1 0).bind fun q2 => (some (q2.1, q2.2))) = some (r1, r2) := H; have A9 := Aside0.mk A90; clear A90; replace H := Option.bind_eq_some_iff.mp H; obtain ⟨⟨qa, qb⟩, qc, H⟩ := H; replace H : (some (qa, qb)) = some (r1, r2) := H; have A10 := Aside0.mk qc; clear qc
     simp only [Option.some.injEq, Prod.mk.injEq] at H
     obtain ⟨rfl, rfl⟩ := H
     go_wp2_with (first | ((with_reducible refine gate_callee (f := 44) rfl ?_); refine goesL_ (some 30) rfl rfl Try.func44 (by kernel_rfl) rfl #[.int .u64 (IntKind.u64.wrap ((Int.tmod a0 8388608)))] rfl (by (try simp only [List.map_toArray, List.map_cons, List.map_nil]); first | done | rfl | (simp only [List.length_drop, List.length_take]; rfl) | (simp [go_sem]; done) | (simp [go_sem, wrap64]; omega)) ?_; (with_reducible refine (r2_Of.calls kj1 (IntKind.u64.wrap ((Int.tmod a0 8388608))) q1 _ A9.out).mono ?_); rintro e w11 ⟨v410, rfl, ho0, hb⟩; refine ⟨_, rfl, ?_⟩; have q7 := Aside0.mk (Kd.V_lower (Kd.V_mono (ok' := fun k_ => True) ho0 (fun k_ hk_ => trivial)) (below_size (kH HB))); replace HB := Aside0.mk (below_step (kH HB) hb); (try clear hb); (try clear hb2); (try clear hk); (try clear hi); (try clear ho0); obtain ⟨qm, qn, eo12⟩ := Kd.V_slice q7.out; subst eo12) | ((with_reducible refine gate_callee (f := 43) rfl ?_); refine goesL_ (some 32) rfl rfl Try.func43 (by kernel_rfl) rfl #[.agg #[.bool q0, .int .i64 (-149), .slice qm q1.length qn], .int .i64 0] rfl (by (try simp only [List.map_toArray, List.map_cons, List.map_nil]); first | done | rfl | (simp only [List.length_drop, List.length_take]; rfl) | (simp [go_sem]; done) | (simp [go_sem, wrap64]; omega)) ?_; (with_reducible refine (r4_Round.calls kj1 q0 (-149) (fun k_ => True) _ _ q1 0 qa qb _ ?side1 A10.out).mono ?_); (case side1 => exact q7.out); rintro e w13 ⟨rfl, hb⟩; refine ⟨_, rfl, ?_⟩; replace q7 := Aside0.mk (Kd.V_below (kV q7) hb); replace HB := Aside0.mk (below_step (kH HB) hb); (try clear hb); (try clear hb2); (try clear hk); (try clear hi)))
     go_ret2
     exact ⟨by first | rfl | (simp [errW_none, errW_some] <;> rfl) | (simp [*, errW_none, errW_some] <;> rfl), kH HB⟩
   rw [if_neg c8] at H
   have qk : (((Int.tdiv a0 8388608) % 256) == 0) = false := beq_eq_false_iff_ne.mpr c8; have ql : (((Int.tdiv a0 8388608) % 256) != 0) = true := bne_iff_ne.mpr c8; replace H := Option.bind_eq_some_iff.mp H; obtain ⟨q3, qd, H⟩ := H; replace H : ((r4_Round.f kj1 q0 (wrap64 ((wrap64 (((Int.tdiv a0 8388608) % 256))) - 150)) q3 0).bind fun q4 => (some (q4.1, q4.2))) = some (r1, r2) := H; have A14 := Aside0.mk qd; clear qd; replace H := Option.bind_eq_some_iff.mp H; obtain ⟨⟨qe, qf⟩, qg, H⟩ := H; replace H : (some (qe, qf)) = some (r1, r2) := H; have A15 := Aside0.mk qg; clear qg
   simp only [Option.some.injEq, Prod.mk.injEq] at H
   obtain ⟨rfl, rfl⟩ := H
   go_wp2_with (first | ((with_reducible refine gate_callee (f := 44) rfl ?_); refine goesL_ (some 42) rfl rfl Try.func44 (by kernel_rfl) rfl #[.int .u64 (IntKind.u64.wrap ((IntKind.u64.wrap ((Int.tmod a0 8388608))) + 8388608))] rfl (by (try simp only [List.map_toArray, List.map_cons, List.map_nil]); first | done | rfl | (simp only [List.length_drop, List.length_take]; rfl) | (simp [go_sem]; done) | (simp [go_sem, wrap64]; omega)) ?_; (with_reducible refine (r2_Of.calls kj1 (IntKind.u64.wrap ((IntKind.u64.wrap ((Int.tmod a0 8388608))) + 8388608)) q3 _ A14.out).mono ?_); rintro e w16 ⟨v415, rfl, ho0, hb⟩; refine ⟨_, rfl, ?_⟩; have q8 := Aside0.mk (Kd.V_lower (Kd.V_mono (ok' := fun k_ => True) ho0 (fun k_ hk_ => trivial)) (below_size (kH HB))); replace HB := Aside0.mk (below_step (kH HB) hb); (try clear hb); (try clear hb2); (try clear hk); (try clear hi); (try clear ho0); obtain ⟨qo, qp, eo17⟩ := Kd.V_slice q8.out; subst eo17) | ((with_reducible refine gate_callee (f := 43) rfl ?_); refine goesL_ (some 44) rfl rfl Try.func43 (by kernel_rfl) rfl #[.agg #[.bool q0, .int .i64 (wrap64 ((wrap64 (((Int.tdiv a0 8388608) % 256))) - 150)), .slice qo q3.length qp], .int .i64 0] rfl (by (try simp only [List.map_toArray, List.map_cons, List.map_nil]); first | done | rfl | (simp only [List.length_drop, List.length_take]; rfl) | (simp [go_sem]; done) | (simp [go_sem, wrap64]; omega)) ?_; (with_reducible refine (r4_Round.calls kj1 q0 (wrap64 ((wrap64 (((Int.tdiv a0 8388608) % 256))) - 150)) (fun k_ => True) _ _ q3 0 qe qf _ ?side1 A15.out).mono ?_); (case side1 => exact q8.out); rintro e w18 ⟨rfl, hb⟩; refine ⟨_, rfl, ?_⟩; replace q8 := Aside0.mk (Kd.V_below (kV q8) hb); replace HB := Aside0.mk (below_step (kH HB) hb); (try clear hb); (try clear hb2); (try clear hk); (try clear hi)))
   go_ret2
   exact ⟨by first | rfl | (simp [errW_none, errW_some] <;> rfl) | (simp [*, errW_none, errW_some] <;> rfl), kH HB⟩
end Go.Proofs.Ytfnkmedajchbgaa.X
end
section
namespace Go.Proofs.Ytfnkmedajchbgaa
set_option linter.unusedVariables false
set_option linter.unusedSimpArgs false
open Go.RowKit X Go.Proofs.YtfnkmedajchbgaaW.PrintWords
theorem rsigned_eq {q : Int} (h0 : 0 ≤ q) (h1 : q < 2147483648) (b : Bool) : tillerref12_signed.f q b = some (q + sg2 b) := by
  unfold tillerref12_signed.f sg2
  cases b
  · rw [if_neg (by decide), if_neg (by decide), Int.add_zero]
  · rw [if_pos rfl, if_pos rfl, Int.emod_eq_of_lt (by omega) (by omega)]
theorem ref12_j4 (mi : Bool) {n q : Int} (f : Int) (hn : -149 ≤ n) (hn2 : n ≤ 105) (hq0 : 0 ≤ q) (hq : q < 16777216) (h23 : q < 8388608 → n = -149) (hP : q + (n + 149) * 8388608 < 2139095040) (k : Nat) :
    tillerref12_To.j4 (k + 1) mi n f q = some (q + (n + 149) * 8388608 + sg2 mi, f) := by
  simp only [tillerref12_To.j4]
  by_cases c : q ≥ 8388608
  · rw [if_pos c, show ((wrap64 (n + 150)) % 4294967296 * 8388608 + q - 8388608) % 4294967296 = q + (n + 149) * 8388608 by unfold wrap64; omega, rsigned_eq (by omega) (by omega), Option.bind_some]
  · have := h23 (by omega)
    subst this
    rw [if_neg c, rsigned_eq (by omega) (by omega), Option.bind_some]
    congr 3
    omega
theorem ref12_j2 {B : Nat} (hB : B ≤ 1000000) (hB2 : 130000 ≤ B) (mi : Bool) {n : Int} {q : Nat} {m : Int} (f : Int) (hn : -149 ≤ n) (hn2 : n ≤ 1900) (hq : q ≤ 16777216) (h23 : q < 8388608 → n = -149) :
    Ev (fun k => tillerref12_To.j2 k m mi n (ln q) f) (fin24 mi n q m f) := by
  have hL := len_ev hB (x := q) (small_B hB2 (by omega))
  have hb : blen q ≤ 25 := blen_le_iff.2 (by rw [show (2 : Nat) ^ 25 = 33554432 from rfl]; omega)
  have ew : wrap64 ((blen q : Int) + n) = (blen q : Int) + n := by unfold wrap64; omega
  have hiff : (blen q : Int) + n > 128 ↔ 2139095040 ≤ (q : Int) + (n + 149) * 8388608 := by
    rcases Nat.lt_or_ge q 8388608 with g | g
    · have := h23 g
      have hb2 : blen q ≤ 23 := blen_le_iff.2 g
      omega
    · rcases Nat.lt_or_ge q 16777216 with g2 | g2
      · rw [blen_24 g g2]; omega
      · have : q = 16777216 := by omega
        subst this
        rw [blen_25]; omega
  refine Ev.step (f := fun k => (r2_Len.f k (ln q)).bind fun t329 => (if (wrap64 (t329 + n)) > 128 then (if m = 2 then (tillerref12_To.j3 k mi true) else (if m = 3 then (if mi = true then (tillerref12_To.j3 k mi true) else (if m = 4 then (tillerref12_To.j3 k mi (!mi)) else (tillerref12_To.j3 k mi false))) else (if m = 4 then (tillerref12_To.j3 k mi (!mi)) else (tillerref12_To.j3 k mi false)))) else ((r2_Low.f k (ln q)).bind fun t332 => (if ((t332) % 4294967296) = 16777216 then (tillerref12_To.j4 k mi (wrap64 (n + 1)) f 8388608) else (tillerref12_To.j4 k mi n f ((t332) % 4294967296)))))) (fun k => by simp only [tillerref12_To.j2]) (Ev.bind hL ?_)
  simp only [ew]
  by_cases c : (blen q : Int) + n > 128
  · have j3t : Ev (fun k => tillerref12_To.j3 k mi true) (2139095039 + sg2 mi, 20) := by
      refine Ev.step (f := fun _ => some _) (fun k => ?_) (Ev.now _)
      simp only [tillerref12_To.j3]
      rw [if_pos trivial, rsigned_eq (by omega) (by omega), Option.bind_some]
    have j3f : Ev (fun k => tillerref12_To.j3 k mi false) (2139095040 + sg2 mi, 20) := by
      refine Ev.step (f := fun _ => some _) (fun k => ?_) (Ev.now _)
      simp only [tillerref12_To.j3]
      rw [if_neg (by decide), rsigned_eq (by omega) (by omega), Option.bind_some]
    unfold fin24 nOver
    rw [if_pos (hiff.1 c)]
    by_cases h2 : m = 2
    · rw [if_pos (.inl h2)]
      exact Ev.congr (fun k => by rw [if_pos c, if_pos h2]) j3t
    · by_cases h3 : m = 3
      · cases mi
        · rw [if_neg (by simp [h3])]
          exact Ev.congr (fun k => by rw [if_pos c, if_neg h2, if_pos h3, if_neg (by decide), if_neg (by omega)]) j3f
        · rw [if_pos (by simp [h3])]
          exact Ev.congr (fun k => by rw [if_pos c, if_neg h2, if_pos h3, if_pos rfl]) j3t
      · by_cases h4 : m = 4
        · cases mi
          · rw [if_pos (by simp [h4])]
            exact Ev.congr (fun k => by rw [if_pos c, if_neg h2, if_neg h3, if_pos h4]; rfl) j3t
          · rw [if_neg (by simp [h4])]
            exact Ev.congr (fun k => by rw [if_pos c, if_neg h2, if_neg h3, if_pos h4]; rfl) j3f
        · rw [if_neg (by simp [h2, h3, h4])]
          exact Ev.congr (fun k => by rw [if_pos c, if_neg h2, if_neg h3, if_neg h4]) j3f
  · have hl := low_ev q (by
      have := ln_length (n := q) (L := 2) (by rw [show (65536 : Nat) ^ 2 = 4294967296 from rfl]; omega)
      omega)
    have hP : ¬ 2139095040 ≤ (q : Int) + (n + 149) * 8388608 := fun h => c (hiff.2 h)
    have e1 : ((q % 18446744073709551616 : Nat) : Int) % 4294967296 = q := by omega
    unfold fin24
    rw [if_neg hP]
    refine Ev.congr (fun k => by rw [if_neg c]) (Ev.bind hl ?_)
    simp only [e1]
    refine ⟨1, fun k hk => ?_⟩
    obtain ⟨k', rfl⟩ : ∃ k', k = k' + 1 := ⟨k - 1, by omega⟩
    dsimp only
    by_cases g : (q : Int) = 16777216
    · rw [if_pos g, show wrap64 (n + 1) = n + 1 by unfold wrap64; omega, ref12_j4 mi f (by omega) (by omega) (by omega) (by omega) (by omega) (by omega) k', show (8388608 : Int) + (n + 1 + 149) * 8388608 = (q : Int) + (n + 149) * 8388608 by omega]
    · rw [if_neg g, ref12_j4 mi f hn (by omega) (by omega) (by omega) (fun h => h23 (by omega)) (by omega) k']
theorem ref12_j5 {B : Nat} (hB : B ≤ 1000000) (hB2 : 130000 ≤ B) (mi : Bool) {n : Int} {q : Nat} {m : Int} (f : Int) (hn : -149 ≤ n) (hn2 : n ≤ 1900) (hq : q ≤ 16777216) (h23 : q < 8388608 → n = -149) :
    Ev (fun k => tillerref12_To.j5 k m mi n (ln q) f) (fin24 mi n q m f) := by
  have h4 : ∀ k n f q, tillerref12_To.j7 k mi n f q = tillerref12_To.j4 k mi n f q := fun k n f q => by
    cases k
    · simp only [tillerref12_To.j7, tillerref12_To.j4]
    · simp only [tillerref12_To.j7, tillerref12_To.j4]
  have h3 : ∀ k b, tillerref12_To.j6 k mi b = tillerref12_To.j3 k mi b := fun k b => by
    cases k
    · simp only [tillerref12_To.j6, tillerref12_To.j3]
    · simp only [tillerref12_To.j6, tillerref12_To.j3]
  have h2 : ∀ k, tillerref12_To.j5 k m mi n (ln q) f = tillerref12_To.j2 k m mi n (ln q) f := fun k => by
    cases k
    · simp only [tillerref12_To.j5, tillerref12_To.j2]
    · simp only [tillerref12_To.j5, tillerref12_To.j2, h3, h4]
  exact Ev.congr h2 (ref12_j2 hB hB2 mi f hn hn2 hq h23)
theorem ref12_j1 {p : Int} {m : Int} (hp : U p) (h3 : pC p < 3) (h0 : pC p ≠ 0) (hm : m = 0 ∨ m = 1 ∨ m = 2 ∨ m = 3 ∨ m = 4) :
    Ev (fun k => tillerref12_To.j1 k p m (pM p)) (nRound (pM p) (pX p) (pS p).toNat m) := by
  have hP := pattern_ev hp
  have hs0 := pS_pos p h0 (by omega)
  have hsb := pS_bd p
  have hx := pX_bd p
  have hs53 : (pS p).toNat < 2 ^ 53 := by rw [show (2 : Nat) ^ 53 = 9007199254740992 from rfl]; omega
  have hs : (pS p).toNat ≠ 0 := by omega
  generalize (pS p).toNat = s at *
  generalize pX p = x at *
  generalize pM p = mi at *
  obtain ⟨B, hBe⟩ : ∃ B : Nat, B = 130000 := ⟨_, rfl⟩
  have hB : B ≤ 1000000 := by omega
  have hB2 : 130000 ≤ B := by omega
  clear hBe
  have hsB : s < 65536 ^ B := small_B hB2 (Nat.lt_trans hs53 (by decide))
  have hb : blen s ≤ 53 := blen_le_iff.2 hs53
  have hL := len_ev hB hsB
  have et : wrap64 (wrap64 (x + (blen s : Int)) - 24) = nTop x s := by unfold nTop wrap64; omega
  have ht : -1300 ≤ nTop x s ∧ nTop x s ≤ 1300 := by unfold nTop; omega
  have hfree := nFree mi x m hs
  have hTf := to_ev hB (by omega) mi hsB (e := x) (n := nTop x s) (m := m) (by omega) (by omega) (by omega) (by omega) hm (pow_B hB2 (by omega))
  have hLf := len_ev hB (x := tQ mi x s (nTop x s) m) (small_B hB2 (by omega))
  have hbf : blen (tQ mi x s (nTop x s) m) ≤ 25 := blen_le_iff.2 (by rw [show (2 : Nat) ^ 25 = 33554432 from rfl]; omega)
  have ew3 : ∀ z : Int, 0 ≤ z → z ≤ 100 → wrap64 ((wrap64 (z + wrap64 (x + (blen s : Int)))) - 24) = z + nTop x s := fun z z0 z1 => by unfold nTop wrap64; omega
  have ew2 := ew3 (blen (tQ mi x s (nTop x s) m) : Int) (by omega) (by omega)
  have htiny : nTiny mi x s m = decide ((blen (tQ mi x s (nTop x s) m) : Int) + nTop x s ≤ -126) := rfl
  rw [nround_fin]
  refine Ev.step (f := fun k => (r4_Pattern.f k p).bind fun bt313 => ((r2_Len.f k bt313.2.2).bind fun t319 => (if (wrap64 ((wrap64 (bt313.2.1 + t319)) - 24)) < (-149) then ((r4_To.f k bt313.1 bt313.2.1 bt313.2.2 (-149) m).bind fun bt320 => (if bt320.2 = true then ((r4_To.f k bt313.1 bt313.2.1 bt313.2.2 (wrap64 ((wrap64 (bt313.2.1 + t319)) - 24)) m).bind fun bt324 => ((r2_Len.f k bt324.1).bind fun t328 => (if (wrap64 ((wrap64 (t328 + (wrap64 (bt313.2.1 + t319)))) - 24)) ≤ (-126) then (tillerref12_To.j2 k m mi (-149) bt320.1 24) else (tillerref12_To.j2 k m mi (-149) bt320.1 16)))) else (tillerref12_To.j2 k m mi (-149) bt320.1 0))) else ((r4_To.f k bt313.1 bt313.2.1 bt313.2.2 (wrap64 ((wrap64 (bt313.2.1 + t319)) - 24)) m).bind fun bt335 => (if bt335.2 = true then ((r4_To.f k bt313.1 bt313.2.1 bt313.2.2 (wrap64 ((wrap64 (bt313.2.1 + t319)) - 24)) m).bind fun bt339 => ((r2_Len.f k bt339.1).bind fun t343 => (if (wrap64 ((wrap64 (t343 + (wrap64 (bt313.2.1 + t319)))) - 24)) ≤ (-126) then (tillerref12_To.j5 k m mi (wrap64 ((wrap64 (bt313.2.1 + t319)) - 24)) bt335.1 24) else (tillerref12_To.j5 k m mi (wrap64 ((wrap64 (bt313.2.1 + t319)) - 24)) bt335.1 16)))) else (tillerref12_To.j5 k m mi (wrap64 ((wrap64 (bt313.2.1 + t319)) - 24)) bt335.1 0)))))) (fun k => by simp only [tillerref12_To.j1]) (Ev.bind hP (Ev.bind hL ?_))
  simp only [et]
  unfold nFlag
  by_cases c : nTop x s < -149
  · have hN : nN x s = -149 := by unfold nN; rw [if_pos c]
    have hq := nQ_le mi x s m
    rw [hN] at hq
    have hT := to_ev hB (by omega) mi hsB (e := x) (n := -149) (m := m) (by omega) (by omega) (by omega) (by omega) hm (pow_B hB2 (by omega))
    have J := fun f => ref12_j2 hB hB2 mi (n := -149) (q := tQ mi x s (-149) m) (m := m) f (by omega) (by omega) hq (fun _ => rfl)
    rw [hN]
    refine Ev.congr (fun k => by rw [if_pos c]) (Ev.bind hT ?_)
    cases ho : rOdd s x (-149)
    · exact Ev.congr (fun k => by simp only; rw [if_neg (by decide)]) (J 0)
    · refine Ev.congr (fun k => by simp only; rw [if_pos trivial]) (Ev.bind hTf (Ev.bind hLf ?_))
      simp only [ew2]
      rw [htiny]
      by_cases ct : (blen (tQ mi x s (nTop x s) m) : Int) + nTop x s ≤ -126
      · rw [decide_eq_true ct]
        exact Ev.congr (fun k => by rw [if_pos ct]) (J 24)
      · rw [decide_eq_false ct]
        exact Ev.congr (fun k => by rw [if_neg ct]) (J 16)
  · have hN : nN x s = nTop x s := by unfold nN; rw [if_neg c]
    have J := fun f => ref12_j5 hB hB2 mi (n := nTop x s) (q := tQ mi x s (nTop x s) m) (m := m) f (by omega) (by omega) hfree.2 (fun h => by omega)
    rw [hN]
    refine Ev.congr (fun k => by rw [if_neg c]) (Ev.bind hTf ?_)
    cases ho : rOdd s x (nTop x s)
    · exact Ev.congr (fun k => by simp only; rw [if_neg (by decide)]) (J 0)
    · refine Ev.congr (fun k => by simp only; rw [if_pos trivial]) (Ev.bind hTf (Ev.bind hLf ?_))
      simp only [ew2]
      rw [htiny]
      by_cases ct : (blen (tQ mi x s (nTop x s) m) : Int) + nTop x s ≤ -126
      · rw [decide_eq_true ct]
        exact Ev.congr (fun k => by rw [if_pos ct]) (J 24)
      · rw [decide_eq_false ct]
        exact Ev.congr (fun k => by rw [if_neg ct]) (J 16)
theorem nRound_md (mi : Bool) (x : Int) (s : Nat) (m : Int) : nRound mi x s (md m) = nRound mi x s m := by
  have hO : nOver mi (md m) = nOver mi m := by
    unfold md
    split
    · unfold nOver
      rw [if_neg (by omega), if_neg (by omega)]
    · rfl
  unfold nRound nP nFlag nTiny
  simp only [tQ_md, hO]
theorem ref_to12_ev {p : Int} (m : Int) (hp : U p) : Ev (fun k => tillerref12_To.f k p m) (nTo p m) := by
  have hc := pC_bd p
  have eM : decide (p ≥ 9223372036854775808) = pM p := rfl
  unfold nTo
  by_cases c5 : 3 < pC p
  · rw [if_pos c5]
    refine Ev.congr (fun k => ?_) (Ev.now _)
    unfold tillerref12_To.f
    rw [r3_NaN.eq p (inU_of hp), Option.bind_some, decide_eq_true c5, if_pos rfl, none5_eq hp hp, Option.bind_some]
  · rw [if_neg c5]
    by_cases c3 : pC p = 3
    · rw [if_pos c3]
      refine Ev.congr (fun k => ?_) (Ev.now _)
      unfold tillerref12_To.f
      rw [r3_NaN.eq p (inU_of hp), Option.bind_some, decide_eq_false c5, if_neg (by decide), r3_Abs.eq p (inU_of hp), Option.bind_some, if_pos (inf_iff.2 c3), eM, rsigned_eq (by omega) (by omega), Option.bind_some]
    · rw [if_neg c3]
      by_cases c0 : pC p = 0
      · rw [if_pos c0]
        refine Ev.congr (fun k => ?_) (Ev.now _)
        unfold tillerref12_To.f
        rw [r3_NaN.eq p (inU_of hp), Option.bind_some, decide_eq_false c5, if_neg (by decide), r3_Abs.eq p (inU_of hp), Option.bind_some, if_neg (fun h => c3 (inf_iff.1 h)), Option.bind_some, if_pos (zero_iff.2 c0), eM, rsigned_eq (by omega) (by omega), Option.bind_some, Int.zero_add]
      · rw [if_neg c0, ← nRound_md]
        have h1 := ref12_j1 (m := md m) hp (by omega) c0 (md_in m)
        have j0t : md m = 0 → Ev (fun k => tillerref12_To.j0 k p m (pM p) true) (nRound (pM p) (pX p) (pS p).toNat (md m)) := fun h => by
          refine Ev.step (f := fun k => tillerref12_To.j1 k p (md m) (pM p)) (fun k => ?_) h1
          simp only [tillerref12_To.j0]
          rw [if_pos trivial, h]
        refine Ev.congr (f := fun k => if m < 0 then (tillerref12_To.j0 k p m (pM p) true) else (tillerref12_To.j0 k p m (pM p) (decide (m > 4)))) (fun k => ?_) ?_
        · unfold tillerref12_To.f
          rw [r3_NaN.eq p (inU_of hp), Option.bind_some, decide_eq_false c5, if_neg (by decide), r3_Abs.eq p (inU_of hp), Option.bind_some, if_neg (fun h => c3 (inf_iff.1 h)), Option.bind_some, if_neg (fun h => c0 (zero_iff.1 h)), eM]
        · by_cases n : m < 0
          · exact Ev.congr (fun k => by rw [if_pos n]) (j0t (by unfold md; rw [if_pos (.inl n)]))
          · by_cases g : m > 4
            · exact Ev.congr (fun k => by rw [if_neg n, decide_eq_true g]) (j0t (by unfold md; rw [if_pos (.inr g)]))
            · have e : md m = m := by unfold md; rw [if_neg (by omega)]
              refine Ev.congr (f := fun k => tillerref12_To.j0 k p m (pM p) false) (fun k => by rw [if_neg n, decide_eq_false g]) ?_
              refine Ev.step (f := fun k => tillerref12_To.j1 k p (md m) (pM p)) (fun k => ?_) h1
              simp only [tillerref12_To.j0]
              rw [if_neg (by decide), e]
theorem ref_from12_ev {q : Int} (hq : U32 q) : Ev (fun k => tillerref12_From.f k q) (nFrom q) := by
  have bE := fE_bd q
  have bF := fF_bd q
  obtain ⟨B, hBe⟩ : ∃ B : Nat, B = 130000 := ⟨_, rfl⟩
  have hB : B ≤ 1000000 := by omega
  have hB2 : 130000 ≤ B := by omega
  clear hBe
  have e1 : (Int.tdiv q 8388608) % 256 = fE q := by rw [Int.tdiv_eq_ediv_of_nonneg hq.1]; rfl
  have e2 : Int.tmod q 8388608 = fF q := by rw [Int.tmod_eq_emod_of_nonneg hq.1]; rfl
  have e3 : decide (q ≥ 2147483648) = fM q := rfl
  have j0 : ¬ (fE q = 255 ∧ fF q ≠ 0) → Ev (fun k => tillerref12_From.j0 k (fM q) (fE q) (fF q) false) (nFrom q) := fun h => by
    unfold nFrom
    by_cases c : fE q = 255
    · rw [if_pos c, if_pos (by omega)]
      refine Ev.step (f := fun _ => some _) (fun k => ?_) (Ev.now _)
      simp only [tillerref12_From.j0]
      rw [if_neg (by decide), if_pos c]
      cases fM q
      · rw [if_neg (by decide)]; rfl
      · rw [if_pos rfl]; rfl
    · rw [if_neg c]
      by_cases z : fE q = 0
      · rw [if_pos z]
        have w : IntKind.u64.wrap (fF q) = fF q := by rw [IntKind.wrap_u64]; omega
        have o := of_ev (n := fF q) (by unfold U; omega)
        have r := ref_round_ev hB hB2 (fM q) (e := -149) (s := (fF q).toNat) 0 (small_B hB2 (by omega)) (by have : blen (fF q).toNat ≤ 53 := blen_le_iff.2 (by rw [show (2 : Nat) ^ 53 = 9007199254740992 from rfl]; omega); omega) (by omega) (by omega)
        refine Ev.step (f := fun k => (r2_Of.f k (fF q)).bind fun t409 => ((r4_Round.f k (fM q) (-149) t409 0).bind fun bt412 => (some (bt412.1, bt412.2)))) (fun k => ?_) (Ev.bind o (Ev.bind r (Ev.now _)))
        simp only [tillerref12_From.j0]
        rw [if_neg (by decide), if_neg c, if_pos z, w]
      · rw [if_neg z]
        have w : IntKind.u64.wrap (IntKind.u64.wrap (fF q) + 8388608) = fF q + 8388608 := by simp only [IntKind.wrap_u64]; omega
        have w2 : wrap64 (wrap64 (fE q) - 150) = fE q - 150 := by unfold wrap64; omega
        have o := of_ev (n := fF q + 8388608) (by unfold U; omega)
        have r := ref_round_ev hB hB2 (fM q) (e := fE q - 150) (s := (fF q + 8388608).toNat) 0 (small_B hB2 (by omega)) (by have : blen (fF q + 8388608).toNat ≤ 53 := blen_le_iff.2 (by rw [show (2 : Nat) ^ 53 = 9007199254740992 from rfl]; omega); omega) (by omega) (by omega)
        refine Ev.step (f := fun k => (r2_Of.f k (fF q + 8388608)).bind fun t409 => ((r4_Round.f k (fM q) (fE q - 150) t409 0).bind fun bt412 => (some (bt412.1, bt412.2)))) (fun k => ?_) (Ev.bind o (Ev.bind r (Ev.now _)))
        simp only [tillerref12_From.j0]
        rw [if_neg (by decide), if_neg c, if_neg z, w, w2]
  refine Ev.congr (f := fun k => if fE q = 255 then tillerref12_From.j0 k (fM q) (fE q) (fF q) (decide (fF q > 0)) else tillerref12_From.j0 k (fM q) (fE q) (fF q) false) (fun k => ?_) ?_
  · unfold tillerref12_From.f
    rw [e1, e2, e3]
  · by_cases c : fE q = 255
    · by_cases g : fF q > 0
      · refine Ev.congr (f := fun k => tillerref12_From.j0 k (fM q) (fE q) (fF q) true) (fun k => by rw [if_pos c, decide_eq_true g]) ?_
        unfold nFrom
        rw [if_pos c, if_neg (by omega)]
        refine Ev.step (f := fun _ => some _) (fun k => ?_) (Ev.now _)
        simp only [tillerref12_From.j0]
        rw [if_pos trivial]
        by_cases h : fF q < 4194304
        · rw [if_pos h, if_pos h]
        · rw [if_neg h, if_neg h]
      · exact Ev.congr (fun k => by rw [if_pos c, decide_eq_false g]) (j0 (by omega))
    · exact Ev.congr (fun k => by rw [if_neg c]) (j0 (by omega))
end Go.Proofs.Ytfnkmedajchbgaa
end
