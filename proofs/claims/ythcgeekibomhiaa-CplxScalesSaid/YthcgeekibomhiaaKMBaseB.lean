import Derived.Test.YthcgeekibomhiaaKMBaseA
namespace Go.Proofs.Ythcgeekibomhiaa
set_option linter.unusedVariables false
set_option linter.unusedSimpArgs false
open Go.RowKit
def pE (p : Int) : Int := p / 4503599627370496 % 2048
def pF (p : Int) : Int := p % 4503599627370496
def pM (p : Int) : Bool := decide (9223372036854775808 ≤ p)
def pC (p : Int) : Int := if pE p = 2047 then (if pF p = 0 then 3 else if 2251799813685248 ≤ pF p then 4 else 5) else if 0 < pE p then 2 else if 0 < pF p then 1 else 0
def pX (p : Int) : Int := if pE p = 2047 then 0 else if 0 < pE p then pE p - 1075 else -1074
def pS (p : Int) : Int := if pE p = 2047 then pF p else if 0 < pE p then pF p + 4503599627370496 else pF p
theorem bits_mask64 (p : Int) (hp : U p) (j : Nat) (hj : j ≤ 63) : bits .and .u64 p ((2 ^ j - 1 : Nat) : Int) = p % 2 ^ j := by
  obtain ⟨n, rfl⟩ := Int.eq_ofNat_of_zero_le hp.1
  have hn : n < 18446744073709551616 := by unfold U at hp; omega
  have hk : 2 ^ j ≤ 2 ^ 63 := Nat.pow_le_pow_right (by decide) hj; rw [bits_and_u64_nat n (2 ^ j - 1) hn (by omega), Nat.and_two_pow_sub_one_eq_mod]
  simp
theorem band_F (p : Int) (hp : U p) : bits .and .u64 p 4503599627370495 = pF p := bits_mask64 p hp 52 (by decide)
theorem band_E (p : Int) (hp : U p) : bits .and .i64 (p / 4503599627370496) 2047 = pE p := by
  have := bits_mask .i64 63 (by decide) (fun n h0 h1 => by rw [IntKind.wrap_i64]; omega) 11 (by decide) (p / 4503599627370496) (by unfold U at hp; omega) (by unfold U at hp; omega)
  exact this
theorem and_bit (n k : Nat) : n &&& 2 ^ k = if n / 2 ^ k % 2 = 1 then 2 ^ k else 0 := by
  apply Nat.eq_of_testBit_eq; intro i; rw [Nat.testBit_and, Nat.testBit_two_pow]; have hb : n.testBit k = decide (n / 2 ^ k % 2 = 1) := Nat.testBit_eq_decide_div_mod_eq
  by_cases hi : k = i
  · subst hi
    rw [hb]
    by_cases h1 : n / 2 ^ k % 2 = 1
    · rw [if_pos h1, decide_eq_true h1, Nat.testBit_two_pow]
      simp
    · rw [if_neg h1, decide_eq_false h1]
      simp
  · rw [decide_eq_false hi, Bool.and_false]
    split
    · rw [Nat.testBit_two_pow, decide_eq_false hi]
    · simp
theorem band_bit (p : Int) (hp : U p) (k : Nat) (hk : k ≤ 63) : (bits .and .u64 p ((2 ^ k : Nat) : Int) != 0) = decide (p / 2 ^ k % 2 = 1) ∧ bits .and .u64 p ((2 ^ k : Nat) : Int) = if p / 2 ^ k % 2 = 1 then 2 ^ k else 0 := by
  obtain ⟨n, rfl⟩ := Int.eq_ofNat_of_zero_le hp.1
  have hn : n < 18446744073709551616 := by unfold U at hp; omega
  have h2 : 2 ^ k ≤ 2 ^ 63 := Nat.pow_le_pow_right (by decide) hk; rw [bits_and_u64_nat n (2 ^ k) hn (by omega), and_bit]
  have e : ((n : Int) / 2 ^ k % 2 = 1) ↔ n / 2 ^ k % 2 = 1 := by
    rw [show ((n : Int) / 2 ^ k % 2) = ((n / 2 ^ k % 2 : Nat) : Int) by simp]
    omega
  have hpos := Nat.two_pow_pos k
  by_cases hb : n / 2 ^ k % 2 = 1
  · rw [if_pos hb, if_pos (e.2 hb), decide_eq_true (e.2 hb)]
    refine ⟨?_, by simp⟩
    simp only [bne_iff_ne, ne_eq]
    omega
  · rw [if_neg hb, if_neg (fun h => hb (e.1 h)), decide_eq_false (fun h => hb (e.1 h))]
    exact ⟨rfl, rfl⟩
theorem band_M (p : Int) (hp : U p) : (bits .and .u64 p 9223372036854775808 != 0) = pM p := by
  have := (band_bit p hp 63 (by decide)).1
  refine Eq.trans this ?_
  unfold pM
  congr 1
  unfold U at hp
  apply propext
  omega
theorem bor_S (f : Int) (h0 : 0 ≤ f) (h1 : f < 4503599627370496) : bits .or .u64 f 4503599627370496 = f + 4503599627370496 := by
  obtain ⟨n, rfl⟩ := Int.eq_ofNat_of_zero_le h0; have h := bits_or_u64_nat n 4503599627370496 (by omega) (by omega)
  have e : n ||| 4503599627370496 = n + 4503599627370496 := by
    rw [Nat.or_comm]
    have := (Nat.shiftLeft_add_eq_or_of_lt (b := n) (i := 52) (by omega) 1).symm
    simpa [Nat.add_comm] using this
  rw [e] at h
  simpa using h
theorem pF_bd (p : Int) : 0 ≤ pF p ∧ pF p < 4503599627370496 := by unfold pF; omega
theorem pE_bd (p : Int) : 0 ≤ pE p ∧ pE p ≤ 2047 := by unfold pE; omega
theorem U_F (p : Int) : U (pF p) := by have := pF_bd p; unfold U; omega
theorem band_Q (p : Int) : (bits .and .u64 (pF p) 2251799813685248 != 0) = decide (2251799813685248 ≤ pF p) := by
  have := (band_bit (pF p) (U_F p) 51 (by decide)).1
  refine Eq.trans this ?_
  have := pF_bd p
  congr 1
  apply propext
  omega
set_option maxHeartbeats 400000 in
theorem take_3 (p E F : Int) (b : Bool) (h0 : 0 ≤ p) (h1 : p ≤ 18446744073709551615) (e1 : bits .and .i64 (p / 4503599627370496) 2047 = E) (e2 : bits .and .u64 p 4503599627370495 = F) (e3 : (bits .and .u64 p 9223372036854775808 != 0) = b) (c1 : E = 2047) (c2 : F = 0) (w : World) :
    Calls Try.prog 62 #[.int .u64 p] w fun e w' => e = .returned (.agg #[.bool b, .int .i64 3, .int .i64 0, .int .u64 0]) ∧ Below w.heap.size w w' := by
  subst c1 c2
  go_enter Try.func62, Try.ntmps62
  go_wp2
  exact bodyPost_ret (v := .agg #[.bool b, .int .i64 3, .int .i64 0, .int .u64 0]) (by first | (simp [results, Try.results62, go_sem]; done) | (simp [results, Try.results62, go_sem]; omega)) rfl ⟨rfl, BELz⟩
set_option maxHeartbeats 400000 in
theorem take_4 (p E F : Int) (b : Bool) (h0 : 0 ≤ p) (h1 : p ≤ 18446744073709551615) (e1 : bits .and .i64 (p / 4503599627370496) 2047 = E) (e2 : bits .and .u64 p 4503599627370495 = F) (e3 : (bits .and .u64 p 9223372036854775808 != 0) = b) (c1 : E = 2047) (c2 : (F == 0) = false) (c3 : (bits .and .u64 F 2251799813685248 != 0) = true) (w : World) :
    Calls Try.prog 62 #[.int .u64 p] w fun e w' => e = .returned (.agg #[.bool b, .int .i64 4, .int .i64 0, .int .u64 F]) ∧ Below w.heap.size w w' := by
  subst c1
  go_enter Try.func62, Try.ntmps62
  go_wp2
  exact bodyPost_ret (v := .agg #[.bool b, .int .i64 4, .int .i64 0, .int .u64 F]) (by first | (simp [results, Try.results62, go_sem]; done) | (simp [results, Try.results62, go_sem]; omega)) rfl ⟨rfl, BELz⟩
set_option maxHeartbeats 400000 in
theorem take_5 (p E F : Int) (b : Bool) (h0 : 0 ≤ p) (h1 : p ≤ 18446744073709551615) (e1 : bits .and .i64 (p / 4503599627370496) 2047 = E) (e2 : bits .and .u64 p 4503599627370495 = F) (e3 : (bits .and .u64 p 9223372036854775808 != 0) = b) (c1 : E = 2047) (c2 : (F == 0) = false) (c3 : (bits .and .u64 F 2251799813685248 != 0) = false) (w : World) :
    Calls Try.prog 62 #[.int .u64 p] w fun e w' => e = .returned (.agg #[.bool b, .int .i64 5, .int .i64 0, .int .u64 F]) ∧ Below w.heap.size w w' := by
  subst c1
  go_enter Try.func62, Try.ntmps62
  go_wp2
  exact bodyPost_ret (v := .agg #[.bool b, .int .i64 5, .int .i64 0, .int .u64 F]) (by first | (simp [results, Try.results62, go_sem]; done) | (simp [results, Try.results62, go_sem]; omega)) rfl ⟨rfl, BELz⟩
set_option maxHeartbeats 400000 in
theorem take_2 (p E F : Int) (b : Bool) (h0 : 0 ≤ p) (h1 : p ≤ 18446744073709551615) (e1 : bits .and .i64 (p / 4503599627370496) 2047 = E) (e2 : bits .and .u64 p 4503599627370495 = F) (e3 : (bits .and .u64 p 9223372036854775808 != 0) = b) (c1 : (E == 2047) = false) (c2 : 0 < E) (c3 : E < 2048) (c4 : bits .or .u64 F 4503599627370496 = F + 4503599627370496) (w : World) :
    Calls Try.prog 62 #[.int .u64 p] w fun e w' => e = .returned (.agg #[.bool b, .int .i64 2, .int .i64 (E - 1075), .int .u64 (F + 4503599627370496)]) ∧ Below w.heap.size w w' := by
  go_enter Try.func62, Try.ntmps62
  go_wp2
  exact bodyPost_ret (v := .agg #[.bool b, .int .i64 2, .int .i64 (E - 1075), .int .u64 (F + 4503599627370496)]) (by first | (simp [results, Try.results62, go_sem]; done) | (simp [results, Try.results62, go_sem]; omega)) rfl ⟨rfl, BELz⟩
set_option maxHeartbeats 400000 in
theorem take_1 (p E F : Int) (b : Bool) (h0 : 0 ≤ p) (h1 : p ≤ 18446744073709551615) (e1 : bits .and .i64 (p / 4503599627370496) 2047 = E) (e2 : bits .and .u64 p 4503599627370495 = F) (e3 : (bits .and .u64 p 9223372036854775808 != 0) = b) (c1 : E = 0) (c2 : 0 < F) (w : World) :
    Calls Try.prog 62 #[.int .u64 p] w fun e w' => e = .returned (.agg #[.bool b, .int .i64 1, .int .i64 (-1074), .int .u64 F]) ∧ Below w.heap.size w w' := by
  subst c1
  go_enter Try.func62, Try.ntmps62
  go_wp2
  exact bodyPost_ret (v := .agg #[.bool b, .int .i64 1, .int .i64 (-1074), .int .u64 F]) (by first | (simp [results, Try.results62, go_sem]; done) | (simp [results, Try.results62, go_sem]; omega)) rfl ⟨rfl, BELz⟩
set_option maxHeartbeats 400000 in
theorem take_0 (p E F : Int) (b : Bool) (h0 : 0 ≤ p) (h1 : p ≤ 18446744073709551615) (e1 : bits .and .i64 (p / 4503599627370496) 2047 = E) (e2 : bits .and .u64 p 4503599627370495 = F) (e3 : (bits .and .u64 p 9223372036854775808 != 0) = b) (c1 : E = 0) (c2 : F = 0) (w : World) :
    Calls Try.prog 62 #[.int .u64 p] w fun e w' => e = .returned (.agg #[.bool b, .int .i64 0, .int .i64 (-1074), .int .u64 0]) ∧ Below w.heap.size w w' := by
  subst c1 c2
  go_enter Try.func62, Try.ntmps62
  go_wp2
  exact bodyPost_ret (v := .agg #[.bool b, .int .i64 0, .int .i64 (-1074), .int .u64 0]) (by first | (simp [results, Try.results62, go_sem]; done) | (simp [results, Try.results62, go_sem]; omega)) rfl ⟨rfl, BELz⟩
theorem take (p : Int) (hp : U p) (w : World) : Calls Try.prog 62 #[.int .u64 p] w fun e w' => e = .returned (.agg #[.bool (pM p), .int .i64 (pC p), .int .i64 (pX p), .int .u64 (pS p)]) ∧ Below w.heap.size w w' := by
  have a1 := band_E p hp; have a2 := band_F p hp; have a3 := band_M p hp; have bF := pF_bd p; have bE := pE_bd p; have bQ := band_Q p; have bO := bor_S (pF p) bF.1 bF.2; obtain ⟨h0, h1⟩ := hp
  unfold pC pX pS
  by_cases c1 : pE p = 2047
  · rw [if_pos c1, if_pos c1, if_pos c1]
    by_cases c2 : pF p = 0
    · rw [if_pos c2, c2]
      exact take_3 p _ _ _ h0 h1 a1 a2 a3 c1 c2 w
    · rw [if_neg c2]
      by_cases c3 : 2251799813685248 ≤ pF p
      · rw [if_pos c3]
        exact take_4 p _ _ _ h0 h1 a1 a2 a3 c1 (by simpa using c2) (by rw [bQ]; exact decide_eq_true c3) w
      · rw [if_neg c3]
        exact take_5 p _ _ _ h0 h1 a1 a2 a3 c1 (by simpa using c2) (by rw [bQ]; exact decide_eq_false c3) w
  · rw [if_neg c1, if_neg c1, if_neg c1]
    by_cases c2 : 0 < pE p
    · rw [if_pos c2, if_pos c2, if_pos c2]
      exact take_2 p _ _ _ h0 h1 a1 a2 a3 (by simpa using c1) c2 (by omega) bO w
    · rw [if_neg c2, if_neg c2, if_neg c2]
      by_cases c3 : 0 < pF p
      · rw [if_pos c3]
        exact take_1 p _ _ _ h0 h1 a1 a2 a3 (by omega) c3 w
      · rw [if_neg c3]
        have c4 : pF p = 0 := by omega
        rw [c4]; exact take_0 p _ _ _ h0 h1 a1 a2 a3 (by omega) c4 w
set_option maxHeartbeats 400000 in
theorem rtake_4 (p : Int) (b : Bool) (h0 : 0 ≤ p) (h1 : p ≤ 18446744073709551615) (e3 : decide (9223372036854775808 ≤ p) = b) (g0 : 0 ≤ p % 4503599627370496) (g1 : p % 4503599627370496 < 4503599627370496) (c1 : (p / 4503599627370496 % 2048 == 2047) = true) (c2 : 2251799813685248 ≤ p % 4503599627370496) (w : World) :
    Calls Try.prog 67 #[.int .u64 p] w fun e w' => e = .returned (.agg #[.bool b, .int .i64 4, .int .i64 0, .int .u64 (p % 4503599627370496)]) ∧ Below w.heap.size w w' := by
  go_enter Try.func67, Try.ntmps67
  go_wp2
  exact bodyPost_ret (v := .agg #[.bool b, .int .i64 4, .int .i64 0, .int .u64 (p % 4503599627370496)]) (by first | (simp [results, Try.results67, go_sem]; done) | (simp [results, Try.results67, go_sem]; omega)) rfl ⟨rfl, BELz⟩
set_option maxHeartbeats 400000 in
theorem rtake_5 (p : Int) (b : Bool) (h0 : 0 ≤ p) (h1 : p ≤ 18446744073709551615) (e3 : decide (9223372036854775808 ≤ p) = b) (g0 : 0 ≤ p % 4503599627370496) (g1 : p % 4503599627370496 < 4503599627370496) (c1 : (p / 4503599627370496 % 2048 == 2047) = true) (c2 : p % 4503599627370496 < 2251799813685248) (c3 : 0 < p % 4503599627370496) (w : World) :
    Calls Try.prog 67 #[.int .u64 p] w fun e w' => e = .returned (.agg #[.bool b, .int .i64 5, .int .i64 0, .int .u64 (p % 4503599627370496)]) ∧ Below w.heap.size w w' := by
  go_enter Try.func67, Try.ntmps67
  go_wp2
  exact bodyPost_ret (v := .agg #[.bool b, .int .i64 5, .int .i64 0, .int .u64 (p % 4503599627370496)]) (by first | (simp [results, Try.results67, go_sem]; done) | (simp [results, Try.results67, go_sem]; omega)) rfl ⟨rfl, BELz⟩
set_option maxHeartbeats 400000 in
theorem rtake_3 (p : Int) (b : Bool) (h0 : 0 ≤ p) (h1 : p ≤ 18446744073709551615) (e3 : decide (9223372036854775808 ≤ p) = b) (g0 : 0 ≤ p % 4503599627370496) (g1 : p % 4503599627370496 < 4503599627370496) (c1 : (p / 4503599627370496 % 2048 == 2047) = true) (c3 : p % 4503599627370496 ≤ 0) (c4 : p % 4503599627370496 < 2251799813685248) (w : World) :
    Calls Try.prog 67 #[.int .u64 p] w fun e w' => e = .returned (.agg #[.bool b, .int .i64 3, .int .i64 0, .int .u64 (p % 4503599627370496)]) ∧ Below w.heap.size w w' := by
  go_enter Try.func67, Try.ntmps67
  go_wp2
  exact bodyPost_ret (v := .agg #[.bool b, .int .i64 3, .int .i64 0, .int .u64 (p % 4503599627370496)]) (by first | (simp [results, Try.results67, go_sem]; done) | (simp [results, Try.results67, go_sem]; omega)) rfl ⟨rfl, BELz⟩
set_option maxHeartbeats 400000 in
theorem rtake_1 (p : Int) (b : Bool) (h0 : 0 ≤ p) (h1 : p ≤ 18446744073709551615) (e3 : decide (9223372036854775808 ≤ p) = b) (g0 : 0 ≤ p % 4503599627370496) (g1 : p % 4503599627370496 < 4503599627370496) (c1 : (p / 4503599627370496 % 2048 == 2047) = false) (c2 : (p / 4503599627370496 % 2048 == 0) = true) (c3 : 0 < p % 4503599627370496) (w : World) :
    Calls Try.prog 67 #[.int .u64 p] w fun e w' => e = .returned (.agg #[.bool b, .int .i64 1, .int .i64 (-1074), .int .u64 (p % 4503599627370496)]) ∧ Below w.heap.size w w' := by
  go_enter Try.func67, Try.ntmps67
  go_wp2
  exact bodyPost_ret (v := .agg #[.bool b, .int .i64 1, .int .i64 (-1074), .int .u64 (p % 4503599627370496)]) (by first | (simp [results, Try.results67, go_sem]; done) | (simp [results, Try.results67, go_sem]; omega)) rfl ⟨rfl, BELz⟩
set_option maxHeartbeats 400000 in
theorem rtake_0 (p : Int) (b : Bool) (h0 : 0 ≤ p) (h1 : p ≤ 18446744073709551615) (e3 : decide (9223372036854775808 ≤ p) = b) (g0 : 0 ≤ p % 4503599627370496) (g1 : p % 4503599627370496 < 4503599627370496) (c1 : (p / 4503599627370496 % 2048 == 2047) = false) (c2 : (p / 4503599627370496 % 2048 == 0) = true) (c3 : p % 4503599627370496 ≤ 0) (w : World) :
    Calls Try.prog 67 #[.int .u64 p] w fun e w' => e = .returned (.agg #[.bool b, .int .i64 0, .int .i64 (-1074), .int .u64 (p % 4503599627370496)]) ∧ Below w.heap.size w w' := by
  go_enter Try.func67, Try.ntmps67
  go_wp2
  exact bodyPost_ret (v := .agg #[.bool b, .int .i64 0, .int .i64 (-1074), .int .u64 (p % 4503599627370496)]) (by first | (simp [results, Try.results67, go_sem]; done) | (simp [results, Try.results67, go_sem]; omega)) rfl ⟨rfl, BELz⟩
set_option maxHeartbeats 400000 in
theorem rtake_2 (p : Int) (b : Bool) (h0 : 0 ≤ p) (h1 : p ≤ 18446744073709551615) (e3 : decide (9223372036854775808 ≤ p) = b) (g0 : 0 ≤ p % 4503599627370496) (g1 : p % 4503599627370496 < 4503599627370496) (c1 : (p / 4503599627370496 % 2048 == 2047) = false) (c2 : (p / 4503599627370496 % 2048 == 0) = false) (w : World) :
    Calls Try.prog 67 #[.int .u64 p] w fun e w' => e = .returned (.agg #[.bool b, .int .i64 2, .int .i64 (p / 4503599627370496 % 2048 - 1075), .int .u64 (p % 4503599627370496 + 4503599627370496)]) ∧ Below w.heap.size w w' := by
  go_enter Try.func67, Try.ntmps67
  go_wp2
  exact bodyPost_ret (v := .agg #[.bool b, .int .i64 2, .int .i64 (p / 4503599627370496 % 2048 - 1075), .int .u64 (p % 4503599627370496 + 4503599627370496)]) (by first | (simp [results, Try.results67, go_sem]; done) | (simp [results, Try.results67, go_sem]; omega)) rfl ⟨rfl, BELz⟩
theorem rtake (p : Int) (hp : U p) (w : World) : Calls Try.prog 67 #[.int .u64 p] w fun e w' => e = .returned (.agg #[.bool (pM p), .int .i64 (pC p), .int .i64 (pX p), .int .u64 (pS p)]) ∧ Below w.heap.size w w' := by
  have bF := pF_bd p; have bE := pE_bd p; obtain ⟨h0, h1⟩ := hp; have e3 : decide (9223372036854775808 ≤ p) = pM p := rfl
  unfold pC pX pS
  unfold pE pF at *
  by_cases c1 : p / 4503599627370496 % 2048 = 2047
  · rw [if_pos c1, if_pos c1, if_pos c1]
    have d1 : (p / 4503599627370496 % 2048 == 2047) = true := by simpa using c1
    by_cases c2 : p % 4503599627370496 = 0
    · rw [if_pos c2]
      exact rtake_3 p _ h0 h1 e3 bF.1 bF.2 d1 (by omega) (by omega) w
    · rw [if_neg c2]
      by_cases c3 : 2251799813685248 ≤ p % 4503599627370496
      · rw [if_pos c3]
        exact rtake_4 p _ h0 h1 e3 bF.1 bF.2 d1 c3 w
      · rw [if_neg c3]
        exact rtake_5 p _ h0 h1 e3 bF.1 bF.2 d1 (by omega) (by omega) w
  · rw [if_neg c1, if_neg c1, if_neg c1]
    have d1 : (p / 4503599627370496 % 2048 == 2047) = false := by simpa using c1
    by_cases c2 : 0 < p / 4503599627370496 % 2048
    · rw [if_pos c2, if_pos c2, if_pos c2]
      have d2 : (p / 4503599627370496 % 2048 == 0) = false := by simp; omega
      exact rtake_2 p _ h0 h1 e3 bF.1 bF.2 d1 d2 w
    · rw [if_neg c2, if_neg c2, if_neg c2]
      have d2 : (p / 4503599627370496 % 2048 == 0) = true := by simp; omega
      by_cases c3 : 0 < p % 4503599627370496
      · rw [if_pos c3]
        exact rtake_1 p _ h0 h1 e3 bF.1 bF.2 d1 d2 c3 w
      · rw [if_neg c3]
        exact rtake_0 p _ h0 h1 e3 bF.1 bF.2 d1 d2 (by omega) w
end Go.Proofs.Ythcgeekibomhiaa
namespace Go.Proofs.Ythcgeekibomhiaa
set_option linter.unusedVariables false
set_option linter.unusedSimpArgs false
open Go.RowKit
def pA (p : Int) : Int := p % 9223372036854775808
def pN (p : Int) : Int := if p < 9223372036854775808 then p + 9223372036854775808 else p - 9223372036854775808
def sg (b : Bool) : Int := if b then 9223372036854775808 else 0
theorem sg_bd (b : Bool) : 0 ≤ sg b ∧ sg b ≤ 9223372036854775808 := by cases b <;> decide
theorem pA_bd (p : Int) : 0 ≤ pA p ∧ pA p < 9223372036854775808 := by unfold pA; omega
theorem U_N (p : Int) (hp : U p) : U (pN p) := by unfold U pN at *; split <;> omega
theorem bandnot_M (p : Int) (hp : U p) : bits .andNot .u64 p 9223372036854775808 = pA p := by
  obtain ⟨n, rfl⟩ := Int.eq_ofNat_of_zero_le hp.1
  have hn : n < 18446744073709551616 := by unfold U at hp; omega
  unfold bits pA
  rw [IntKind.wrap_u64]
  have e1 : (BitVec.ofInt IntKind.u64.bits (n : Int)).toNat = n := by
    show (BitVec.ofInt 64 (n : Int)).toNat = n
    rw [BitVec.ofInt_natCast, BitVec.toNat_ofNat]; exact Nat.mod_eq_of_lt hn
  have e2 : (~~~ (BitVec.ofInt IntKind.u64.bits 9223372036854775808)).toNat = 2 ^ 63 - 1 := by decide
  simp only [BitVec.toNat_and]
  rw [e1, e2, Nat.and_two_pow_sub_one_eq_mod]
  omega
theorem xor_top (n : Nat) (h : n < 2 ^ 63) : n ^^^ 2 ^ 63 = n + 2 ^ 63 := by
  have e : (2 ^ 63 + n) = 2 ^ 63 ||| n := by
    have := Nat.shiftLeft_add_eq_or_of_lt (b := n) (i := 63) h 1
    simpa using this
  rw [Nat.add_comm, e]; apply Nat.eq_of_testBit_eq; intro i; rw [Nat.testBit_xor, Nat.testBit_or, Nat.testBit_two_pow]
  by_cases hi : 63 = i
  · subst hi
    rw [Nat.testBit_lt_two_pow h]
    simp
  · simp [hi]
theorem bxor_M (p : Int) (hp : U p) : bits .xor .u64 p 9223372036854775808 = pN p := by
  obtain ⟨n, rfl⟩ := Int.eq_ofNat_of_zero_le hp.1
  have hn : n < 18446744073709551616 := by unfold U at hp; omega
  have h := bits_xor_u64_nat n 9223372036854775808 hn (by omega); refine Eq.trans h ?_
  unfold pN
  by_cases hl : n < 2 ^ 63
  · rw [if_pos (by omega), show (9223372036854775808 : Nat) = 2 ^ 63 from rfl, xor_top n hl]
    omega
  · rw [if_neg (by omega)]
    have e : n = (n - 2 ^ 63) ^^^ 2 ^ 63 := by rw [xor_top _ (by omega)]; omega
    rw [show (9223372036854775808 : Nat) = 2 ^ 63 from rfl]
    conv => lhs; rw [e, Nat.xor_assoc, Nat.xor_self, Nat.xor_zero]
    omega
theorem band_sg (p : Int) (hp : U p) : bits .and .u64 p 9223372036854775808 = sg (pM p) := by
  have h := (band_bit p hp 63 (by decide)).2; refine Eq.trans h ?_
  unfold sg pM
  unfold U at hp
  by_cases hl : 9223372036854775808 ≤ p
  · rw [if_pos (by omega), if_pos (by simpa using hl)]; rfl
  · rw [if_neg (by omega), if_neg (by simpa using hl)]
theorem bits_xor_U (a b : Int) (ha : U a) (hb : U b) : U (bits .xor .u64 a b) ∧ pM (bits .xor .u64 a b) = (pM a != pM b) := by
  obtain ⟨m, rfl⟩ := Int.eq_ofNat_of_zero_le ha.1; obtain ⟨n, rfl⟩ := Int.eq_ofNat_of_zero_le hb.1
  have hm : m < 2 ^ 64 := by unfold U at ha; omega
  have hn : n < 2 ^ 64 := by unfold U at hb; omega
  rw [bits_xor_u64_nat m n hm hn]; have hx : m ^^^ n < 2 ^ 64 := Nat.xor_lt_two_pow hm hn; refine ⟨U_nat hx, ?_⟩
  have key : ∀ k : Nat, k < 2 ^ 64 → pM (k : Int) = k.testBit 63 := by
    intro k hk; rw [Nat.testBit_eq_decide_div_mod_eq]
    unfold pM
    congr 1
    apply propext
    omega
  rw [key _ hx, key _ hm, key _ hn, Nat.testBit_xor]
theorem bor_sg (x : Int) (h0 : 0 ≤ x) (h1 : x < 9223372036854775808) (b : Bool) : bits .or .u64 x (sg b) = x + sg b := by
  obtain ⟨n, rfl⟩ := Int.eq_ofNat_of_zero_le h0
  cases b
  · have := bits_or_u64_nat n 0 (by omega) (by omega)
    simpa [sg] using this
  · have h := bits_or_u64_nat n 9223372036854775808 (by omega) (by omega)
    have e : n ||| 9223372036854775808 = n + 9223372036854775808 := by
      rw [Nat.or_comm]
      have := (Nat.shiftLeft_add_eq_or_of_lt (b := n) (i := 63) (by omega) 1).symm
      simpa [Nat.add_comm] using this
    rw [e] at h
    simpa [sg] using h
theorem nan_iff (p : Int) (hp : U p) : 9218868437227405312 < pA p ↔ 3 < pC p := by
  unfold U at hp; unfold pA pC pE pF
  constructor
  · intro h
    rw [if_pos (by omega), if_neg (by omega)]
    split <;> omega
  · intro h
    split at h
    · split at h
      · omega
      · omega
    · split at h
      · omega
      · split at h <;> omega
theorem fin_iff (p : Int) (hp : U p) : pA p < 9218868437227405312 ↔ pC p < 3 := by
  unfold U at hp; unfold pA pC pE pF
  constructor
  · intro h
    rw [if_neg (by omega)]
    split
    · omega
    · split <;> omega
  · intro h
    split at h
    · split at h
      · omega
      · split at h <;> omega
    · omega
theorem pf1 (a : Bool) (b c d : Int) (w : World) : (Instr.field 86 (.agg #[.bool a, .int .i64 b, .int .i64 c, .int .u64 d]) 1).run Try.prog w = .ok (.int .i64 b) w := by kernel_rfl
theorem rf1 (a : Bool) (b c d : Int) (w : World) : (Instr.field 93 (.agg #[.bool a, .int .i64 b, .int .i64 c, .int .u64 d]) 1).run Try.prog w = .ok (.int .i64 b) w := by kernel_rfl
theorem p_abs (p : Int) (hp : U p) (w : World) : Calls Try.prog 73 #[.int .u64 p] w fun e w' => e = .returned (.int .u64 (pA p)) ∧ Below w.heap.size w w' := by
  have e1 := bandnot_M p hp
  go_enter Try.func73, Try.ntmps73
  go_wp2
  go_ret
  exact ⟨rfl, BELz⟩
theorem p_neg (p : Int) (hp : U p) (w : World) : Calls Try.prog 30 #[.int .u64 p] w fun e w' => e = .returned (.int .u64 (pN p)) ∧ Below w.heap.size w w' := by
  have e1 := bxor_M p hp
  go_enter Try.func30, Try.ntmps30
  go_wp2
  go_ret
  exact ⟨rfl, BELz⟩
theorem p_isnan (p : Int) (hp : U p) (w : World) : Calls Try.prog 41 #[.int .u64 p] w fun e w' => e = .returned (.bool (decide (3 < pC p))) ∧ Below w.heap.size w w' := by
  have e1 := nan_iff p hp
  have e2 : decide (3 < pC p) = decide (9218868437227405312 < pA p) := by congr 1; exact (propext e1).symm
  rw [e2]; clear e1 e2
  go_enter Try.func41, Try.ntmps41
  go_wp2_with (go_at_call 73; refine (p_abs p hp _).mono ?_; rintro e w1 ⟨rfl, hb⟩)
  go_ret
  exact ⟨rfl, bthen BELz (by assumption)⟩
theorem p_finite (p : Int) (hp : U p) (w : World) : Calls Try.prog 44 #[.int .u64 p] w fun e w' => e = .returned (.bool (decide (pC p < 3))) ∧ Below w.heap.size w w' := by
  have e1 := fin_iff p hp
  have e2 : decide (pC p < 3) = decide (pA p < 9218868437227405312) := by congr 1; exact (propext e1).symm
  rw [e2]; clear e1 e2
  go_enter Try.func44, Try.ntmps44
  go_wp2_with (go_at_call 73; refine (p_abs p hp _).mono ?_; rintro e w1 ⟨rfl, hb⟩)
  go_ret
  exact ⟨rfl, bthen BELz (by assumption)⟩
set_option maxRecDepth 100000 in
theorem p_class (p : Int) (hp : U p) (w : World) : Calls Try.prog 60 #[.int .u64 p] w fun e w' => e = .returned (.int .i64 (pC p)) ∧ Below w.heap.size w w' := by
  have q1 := pf1
  go_enter Try.func60, Try.ntmps60
  go_wp2_with (go_at_call 62; refine (take p hp _).mono ?_; rintro e w1 ⟨rfl, hb⟩)
  go_ret
  exact ⟨rfl, by have HB := Hd.mk (bthen (Below.refl _ _) hb); exact BELq HB⟩
theorem p_copy (p s : Int) (hp : U p) (hs : U s) (w : World) : Calls Try.prog 76 #[.int .u64 p, .int .u64 s] w fun e w' => e = .returned (.int .u64 (pA p + sg (pM s))) ∧ Below w.heap.size w w' := by
  have e1 := band_sg s hs; have e2 := bor_sg (pA p) (pA_bd p).1 (pA_bd p).2 (pM s)
  go_enter Try.func76, Try.ntmps76
  go_wp2_with (go_at_call 73; refine (p_abs p hp _).mono ?_; rintro e w1 ⟨rfl, hb⟩)
  go_ret
  exact ⟨rfl, bthen BELz (by assumption)⟩
set_option maxRecDepth 100000 in
theorem r_nan (p : Int) (hp : U p) (w : World) : Calls Try.prog 50 #[.int .u64 p] w fun e w' => e = .returned (.bool (decide (3 < pC p))) ∧ Below w.heap.size w w' := by
  have q1 := rf1
  go_enter Try.func50, Try.ntmps50
  go_wp2_with (go_at_call 67; refine (rtake p hp _).mono ?_; rintro e w1 ⟨rfl, hb⟩)
  go_ret
  exact ⟨rfl, by have HB := Hd.mk (bthen (Below.refl _ _) hb); exact BELq HB⟩
theorem r_abs (p : Int) (h0 : 0 ≤ p) (h1 : p ≤ 18446744073709551615) (w : World) : Calls Try.prog 53 #[.int .u64 p] w fun e w' => e = .returned (.int .u64 (pA p)) ∧ Below w.heap.size w w' := by
  go_enter Try.func53, Try.ntmps53
  go_wp2
  go_ret
  exact ⟨rfl, BELz⟩
theorem r_neg (p : Int) (h0 : 0 ≤ p) (h1 : p ≤ 18446744073709551615) (w : World) : Calls Try.prog 33 #[.int .u64 p] w fun e w' => e = .returned (.int .u64 (pN p)) ∧ Below w.heap.size w w' := by
  unfold pN
  by_cases hl : p < 9223372036854775808
  · rw [if_pos hl]
    go_enter Try.func33, Try.ntmps33
    go_wp2
    go_ret
    exact ⟨rfl, BELz⟩
  · rw [if_neg hl]
    go_enter Try.func33, Try.ntmps33
    go_wp2
    go_ret
    exact ⟨rfl, BELz⟩
end Go.Proofs.Ythcgeekibomhiaa
namespace Go.Proofs.Ythcgeekibomhiaa
set_option linter.unusedVariables false
set_option linter.unusedSimpArgs false
open Go.RowKit
theorem wbit (a : Nat) (ha : a < T256) (n : Int) (hn : 0 ≤ n) (w : World) : Calls Try.prog 110 #[.agg #[.int .u64 (l0 a), .int .u64 (l1 a), .int .u64 (l2 a), .int .u64 (l3 a)], .int .i64 n] w fun e w' =>
    e = .returned (.int .u64 ((a / 2 ^ n.toNat % 2 : Nat) : Int)) ∧ Below w.heap.size w w' := by
  by_cases h2 : 256 ≤ n
  · rw [shr_far a _ ha (by omega : 256 ≤ n.toNat)]
    go_enter Try.func110, Try.ntmps110
    go_wp2
    go_ret
    exact ⟨rfl, BELz⟩
  · have f := four ha
    have key : ∀ (k : Nat) (x : Int), U x → (∃ q : Nat, a / 2 ^ (64 * k) = x.toNat + 18446744073709551616 * q) → n / 64 = k → bits .and .u64 (x / 2 ^ (n % 64).toNat) 1 = ((a / 2 ^ n.toNat % 2 : Nat) : Int) := by
      intro k x hx ⟨q, hq⟩ hk
      have hr : (n % 64).toNat ≤ 63 := by omega
      have en : n.toNat = 64 * k + (n % 64).toNat := by omega
      have e1 := bits_mask64 (x / 2 ^ (n % 64).toNat) (U_div hx _) 1 (by decide); refine Eq.trans e1 ?_; rw [en, Nat.pow_add, ← Nat.div_div_eq_div_mul, hq, w_down _ _ hx]
      have ep : (18446744073709551616 : Nat) = 2 ^ (n % 64).toNat * (2 * 2 ^ (63 - (n % 64).toNat)) := by
        rw [← Nat.pow_succ', ← Nat.pow_add, show (n % 64).toNat + (63 - (n % 64).toNat).succ = 64 by omega]
      rw [ep, Nat.mul_assoc, Nat.add_mul_div_left _ _ (Nat.two_pow_pos _), Nat.mul_assoc, Nat.add_mul_mod_self_left]
      simp
    have hs := f.sum
    have hsp : n / 64 = 0 ∨ n / 64 = 1 ∨ n / 64 = 2 ∨ n / 64 = 3 := by omega
    have K : ∀ v : Int, bits .and .u64 (v / 2 ^ (n % 64).toNat) 1 = ((a / 2 ^ n.toNat % 2 : Nat) : Int) → ((n / 64 = 0 ∧ v = l0 a) ∨ (n / 64 = 1 ∧ v = l1 a) ∨ (n / 64 = 2 ∧ v = l2 a) ∨ (n / 64 = 3 ∧ v = l3 a)) → Calls Try.prog 110 #[.agg #[.int .u64 (l0 a), .int .u64 (l1 a), .int .u64 (l2 a), .int .u64 (l3 a)], .int .i64 n] w fun e w' =>
      e = .returned (.int .u64 ((a / 2 ^ n.toNat % 2 : Nat) : Int)) ∧ Below w.heap.size w w' := by
      intro v h1 h2; rw [← h1]; exact wbit_at _ _ _ _ v (n % 64) n w (by omega) (by omega) hn (by omega) rfl h2
    have b0 := toNat_lt f.u0; have b1 := toNat_lt f.u1; have b2 := toNat_lt f.u2; have b3 := toNat_lt f.u3
    rcases hsp with h | h | h | h
    · exact K _ (key 0 _ f.u0 ⟨a / 18446744073709551616, by rw [show 2 ^ (64 * 0) = 1 from rfl]; omega⟩ h) (.inl ⟨h, rfl⟩)
    · exact K _ (key 1 _ f.u1 ⟨a / 340282366920938463463374607431768211456, by rw [show 2 ^ (64 * 1) = 18446744073709551616 from rfl]; omega⟩ h) (.inr (.inl ⟨h, rfl⟩))
    · exact K _ (key 2 _ f.u2 ⟨a / 6277101735386680763835789423207666416102355444464034512896, by rw [show 2 ^ (64 * 2) = 340282366920938463463374607431768211456 from rfl]; omega⟩ h) (.inr (.inr (.inl ⟨h, rfl⟩)))
    · exact K _ (key 3 _ f.u3 ⟨0, by rw [show 2 ^ (64 * 3) = 6277101735386680763835789423207666416102355444464034512896 from rfl]; omega⟩ h) (.inr (.inr (.inr ⟨h, rfl⟩)))
def upB (m : Int) (minus odd half rest : Bool) : Bool :=
  if m = 2 then false else if m = 3 then !minus && (half || rest) else if m = 4 then minus && (half || rest) else if m = 1 then half else half && (rest || odd)
def overP (minus : Bool) (m : Int) : Int := (if m = 2 ∨ (m = 3 ∧ minus = true) ∨ (m = 4 ∧ minus = false) then 9218868437227405311 else 9218868437227405312) + sg minus
theorem r_up (m : Int) (a b c d : Bool) (w : World) : Calls Try.prog 103 #[.int .i64 m, .bool a, .bool b, .bool c, .bool d] w fun e w' => e = .returned (.bool (upB m a b c d)) ∧ Below w.heap.size w w' := by
  unfold upB
  by_cases h2 : m = 2
  · subst h2
    go_enter Try.func103, Try.ntmps103
    go_wp2
    go_ret
    exact ⟨rfl, BELz⟩
  · rw [if_neg h2]
    have g2 : (m == 2) = false := by simpa using h2
    by_cases h3 : m = 3
    · subst h3
      cases a <;> cases c <;> cases d
      all_goals
        go_enter Try.func103, Try.ntmps103
        go_wp2
        go_ret
        exact ⟨rfl, BELz⟩
    · rw [if_neg h3]
      have g3 : (m == 3) = false := by simpa using h3
      by_cases h4 : m = 4
      · subst h4
        cases a <;> cases c <;> cases d
        all_goals
          go_enter Try.func103, Try.ntmps103
          go_wp2
          go_ret
          exact ⟨rfl, BELz⟩
      · rw [if_neg h4]
        have g4 : (m == 4) = false := by simpa using h4
        by_cases h1 : m = 1
        · subst h1
          go_enter Try.func103, Try.ntmps103
          go_wp2
          go_ret
          exact ⟨rfl, BELz⟩
        · rw [if_neg h1]
          have g1 : (m == 1) = false := by simpa using h1
          clear h1 h2 h3 h4
          cases b <;> cases c <;> cases d
          all_goals
            go_enter Try.func103, Try.ntmps103
            go_wp2
            go_ret
            exact ⟨rfl, BELz⟩
theorem r_sign (b : Bool) (w : World) : Calls Try.prog 77 #[.bool b] w fun e w' => e = .returned (.int .u64 (sg b)) ∧ Below w.heap.size w w' := by
  cases b
  all_goals
    go_enter Try.func77, Try.ntmps77
    go_wp2
    go_ret
    exact ⟨rfl, BELz⟩
theorem r_over (minus : Bool) (m : Int) (w : World) : Calls Try.prog 82 #[.bool minus, .int .i64 m] w fun e w' => e = .returned (.int .u64 (overP minus m)) ∧ Below w.heap.size w w' := by
  unfold overP
  have n1 : pN 9218868437227405311 = 9218868437227405311 + sg true := by decide
  have n2 : pN 9218868437227405312 = 9218868437227405312 + sg true := by decide
  by_cases h2 : m = 2
  · subst h2
    rw [if_pos (.inl rfl)]
    cases minus
    · go_enter Try.func82, Try.ntmps82
      go_wp2
      go_ret
      exact ⟨rfl, BELz⟩
    · rw [← n1]
      go_enter Try.func82, Try.ntmps82
      go_wp2_with (go_at_call 30; refine (p_neg _ (by unfold U; omega) _).mono ?_; rintro e w1 ⟨rfl, hb⟩)
      go_ret
      exact ⟨rfl, bthen BELz (by assumption)⟩
  · have g2 : (m == 2) = false := by simpa using h2
    by_cases h3 : m = 3
    · subst h3
      cases minus
      · rw [if_neg (by simp)]
        go_enter Try.func82, Try.ntmps82
        go_wp2
        go_ret
        exact ⟨rfl, BELz⟩
      · rw [if_pos (by simp), ← n1]
        go_enter Try.func82, Try.ntmps82
        go_wp2_with (go_at_call 30; refine (p_neg _ (by unfold U; omega) _).mono ?_; rintro e w1 ⟨rfl, hb⟩)
        go_ret
        exact ⟨rfl, bthen BELz (by assumption)⟩
    · have g3 : (m == 3) = false := by simpa using h3
      by_cases h4 : m = 4
      · subst h4
        cases minus
        · rw [if_pos (by simp)]
          go_enter Try.func82, Try.ntmps82
          go_wp2
          go_ret
          exact ⟨rfl, BELz⟩
        · rw [if_neg (by simp), ← n2]
          go_enter Try.func82, Try.ntmps82
          go_wp2_with (go_at_call 30; refine (p_neg _ (by unfold U; omega) _).mono ?_; rintro e w1 ⟨rfl, hb⟩)
          go_ret
          exact ⟨rfl, bthen BELz (by assumption)⟩
      · have g4 : (m == 4) = false := by simpa using h4
        rw [if_neg (by omega)]; clear h2 h3 h4
        cases minus
        · go_enter Try.func82, Try.ntmps82
          go_wp2
          go_ret
          exact ⟨rfl, BELz⟩
        · rw [← n2]
          go_enter Try.func82, Try.ntmps82
          go_wp2_with (go_at_call 30; refine (p_neg _ (by unfold U; omega) _).mono ?_; rintro e w1 ⟨rfl, hb⟩)
          go_ret
          exact ⟨rfl, bthen BELz (by assumption)⟩
theorem r_near (m o : Bool) (x : Int) (s : Nat) (h0 : -131072 ≤ x) (h1 : x ≤ 131072) (w : World) : Calls Try.prog 74 #[.agg #[.bool m, .int .i64 x, .int .u64 (l0 s), .int .u64 (l1 s), .int .u64 (l2 s), .int .u64 (l3 s), .bool o]] w fun e w' => e = .returned (.agg #[.bool m, .int .i64 x, .int .u64 (l0 s), .int .u64 (l1 s), .int .u64 (l2 s), .int .u64 (l3 s), .bool o]) ∧ Below w.heap.size w w' := by
  go_enter Try.func74, Try.ntmps74
  go_wp2
  exact bodyPost_ret (v := .agg #[.bool m, .int .i64 x, .int .u64 (l0 s), .int .u64 (l1 s), .int .u64 (l2 s), .int .u64 (l3 s), .bool o]) (by simp [results, Try.results74, go_sem]) rfl ⟨rfl, BELz⟩
theorem r_exact_no (m : Bool) (x : Int) (s : Nat) (w : World) : Calls Try.prog 75 #[.agg #[.bool m, .int .i64 x, .int .u64 (l0 s), .int .u64 (l1 s), .int .u64 (l2 s), .int .u64 (l3 s), .bool false]] w fun e w' => e = .returned (.agg #[.bool m, .int .i64 x, .int .u64 (l0 s), .int .u64 (l1 s), .int .u64 (l2 s), .int .u64 (l3 s), .bool false]) ∧ Below w.heap.size w w' := by
  go_enter Try.func75, Try.ntmps75
  go_wp2
  exact bodyPost_ret (v := .agg #[.bool m, .int .i64 x, .int .u64 (l0 s), .int .u64 (l1 s), .int .u64 (l2 s), .int .u64 (l3 s), .bool false]) (by simp [results, Try.results75, go_sem]) rfl ⟨rfl, BELz⟩
set_option maxHeartbeats 1000000 in
set_option maxRecDepth 100000 in
theorem r_exact_yes (m : Bool) (x : Int) (s : Nat) (hs : s < 2 ^ 254) (w : World) (h0 : -200000 ≤ x) (h1 : x ≤ 200000) : Calls Try.prog 75 #[.agg #[.bool m, .int .i64 x, .int .u64 (l0 s), .int .u64 (l1 s), .int .u64 (l2 s), .int .u64 (l3 s), .bool true]] w fun e w' => e = .returned (.agg #[.bool m, .int .i64 (x - 1), .int .u64 (l0 (2 * s + 1)), .int .u64 (l1 (2 * s + 1)), .int .u64 (l2 (2 * s + 1)), .int .u64 (l3 (2 * s + 1)), .bool false]) ∧ Below w.heap.size w w' := by
  have hT : Hd (s < T256) := ⟨by rw [T256_eq]; exact Nat.lt_trans hs (by decide)⟩
  have hb : (blen s : Int) ≤ 254 := by have := blen_le_iff.2 hs; omega
  have hd : decide (254 < (blen s : Int)) = false := decide_eq_false (by omega); have e1 : Hd (s * 2 ^ (1 : Int).toNat % T256 = s * 2) := ⟨by rw [show (1 : Int).toNat = 1 from rfl, Nat.pow_one, T256_eq]; exact Nat.mod_eq_of_lt (by omega)⟩; have e2 : Hd ((s * 2 + 1) % T256 = 2 * s + 1 ∧ s * 2 < T256) := ⟨by rw [T256_eq]; exact ⟨by rw [Nat.mod_eq_of_lt (by omega)]; omega, by omega⟩⟩; clear hs hb
  go_enter Try.func75, Try.ntmps75
  go_wp2_with fail
  refine (wlen s hT.out _).mono ?_; rintro e w1 ⟨rfl, hb⟩; have k0 : Blk w1 (w.heap.size) 64 #[.bool m, .int .i64 x, .int .u64 (l0 s), .int .u64 (l1 s), .int .u64 (l2 s), .int .u64 (l3 s), .bool true] := BLKq; have k1 : Blk w1 (w.heap.size + 1) 64 #[.bool false, .int .i64 0, .int .u64 0, .int .u64 0, .int .u64 0, .int .u64 0, .bool false] := BLKq; have ltk0_w1 := k0.lt; have ltk1_w1 := k1.lt; have KB : Hd (Below w.heap.size w w1) := Hd.mk (bthen BELz hb); have hzw1 := hb.size
  (try simp at hzw1)
  clear hb; have ck0_0 : w1.cell? ⟨w.heap.size, 0, none⟩ = some (.bool m) := k0.cell 0; have fk0_0 := k0.free 0; have ck0_1 : w1.cell? ⟨w.heap.size, 1, none⟩ = some (.int .i64 x) := k0.cell 1; have fk0_1 := k0.free 1; have ck0_2 : w1.cell? ⟨w.heap.size, 2, none⟩ = some (.int .u64 (l0 s)) := k0.cell 2; have fk0_2 := k0.free 2; have ck0_3 : w1.cell? ⟨w.heap.size, 3, none⟩ = some (.int .u64 (l1 s)) := k0.cell 3; have fk0_3 := k0.free 3; have ck0_4 : w1.cell? ⟨w.heap.size, 4, none⟩ = some (.int .u64 (l2 s)) := k0.cell 4; have fk0_4 := k0.free 4; have ck0_5 : w1.cell? ⟨w.heap.size, 5, none⟩ = some (.int .u64 (l3 s)) := k0.cell 5; have fk0_5 := k0.free 5; have ck0_6 : w1.cell? ⟨w.heap.size, 6, none⟩ = some (.bool true) := k0.cell 6; have fk0_6 := k0.free 6
  go_wp2_with fail
  refine (wshl s hT.out _ _).mono ?_; rintro e w2 ⟨p, hp, rfl, hb⟩; replace k0 : Blk w2 (w.heap.size) 64 #[.bool m, .int .i64 x, .int .u64 (l0 s), .int .u64 (l1 s), .int .u64 (l2 s), .int .u64 (l3 s), .bool true] := BLKq; replace k1 : Blk w2 (w.heap.size + 1) 64 #[.bool false, .int .i64 0, .int .u64 0, .int .u64 0, .int .u64 0, .int .u64 0, .bool false] := BLKq; have ltk0_w2 := k0.lt; have ltk1_w2 := k1.lt; replace KB : Hd (Below w.heap.size w w2) := Hd.mk (bthen (BELq KB) hb); have hzw2 := hb.size
  (try simp at hzw2)
  clear hb; clear ck0_0 fk0_0 ck0_1 fk0_1 ck0_2 fk0_2 ck0_3 fk0_3 ck0_4 fk0_4 ck0_5 fk0_5 ck0_6 fk0_6; have hP : Hd (p = s * 2) := ⟨hp.out.trans e1.out⟩; clear hp
  go_wp2_with fail
  refine (wof 1 (by unfold U; omega) _).mono ?_; rintro e w3 ⟨rfl, hb⟩; replace k0 : Blk w3 (w.heap.size) 64 #[.bool m, .int .i64 x, .int .u64 (l0 s), .int .u64 (l1 s), .int .u64 (l2 s), .int .u64 (l3 s), .bool true] := BLKq; replace k1 : Blk w3 (w.heap.size + 1) 64 #[.bool false, .int .i64 0, .int .u64 0, .int .u64 0, .int .u64 0, .int .u64 0, .bool false] := BLKq; have ltk0_w3 := k0.lt; have ltk1_w3 := k1.lt; replace KB : Hd (Below w.heap.size w w3) := Hd.mk (bthen (BELq KB) hb); have hzw3 := hb.size
  (try simp at hzw3)
  clear hb
  go_wp2_with fail
  refine (wadd p (Int.toNat 1) (by rw [hP.out]; exact e2.out.2) (by unfold T256; decide) _).mono ?_; rintro e w4 ⟨q, oc, hq, rfl, hb⟩; replace k0 : Blk w4 (w.heap.size) 64 #[.bool m, .int .i64 x, .int .u64 (l0 s), .int .u64 (l1 s), .int .u64 (l2 s), .int .u64 (l3 s), .bool true] := BLKq; replace k1 : Blk w4 (w.heap.size + 1) 64 #[.bool false, .int .i64 0, .int .u64 0, .int .u64 0, .int .u64 0, .int .u64 0, .bool false] := BLKq; have ltk0_w4 := k0.lt; have ltk1_w4 := k1.lt; replace KB : Hd (Below w.heap.size w w4) := Hd.mk (bthen (BELq KB) hb); have hzw4 := hb.size
  (try simp at hzw4)
  clear hb; have hQ : Hd (q = 2 * s + 1) := ⟨by rw [hq.out.1, hP.out]; exact e2.out.1⟩; clear hq hP; have ck0_0 : w4.cell? ⟨w.heap.size, 0, none⟩ = some (.bool m) := k0.cell 0; have fk0_0 := k0.free 0; have ck0_1 : w4.cell? ⟨w.heap.size, 1, none⟩ = some (.int .i64 x) := k0.cell 1; have fk0_1 := k0.free 1; have ck0_2 : w4.cell? ⟨w.heap.size, 2, none⟩ = some (.int .u64 (l0 s)) := k0.cell 2; have fk0_2 := k0.free 2; have ck0_3 : w4.cell? ⟨w.heap.size, 3, none⟩ = some (.int .u64 (l1 s)) := k0.cell 3; have fk0_3 := k0.free 3; have ck0_4 : w4.cell? ⟨w.heap.size, 4, none⟩ = some (.int .u64 (l2 s)) := k0.cell 4; have fk0_4 := k0.free 4; have ck0_5 : w4.cell? ⟨w.heap.size, 5, none⟩ = some (.int .u64 (l3 s)) := k0.cell 5; have fk0_5 := k0.free 5; have ck0_6 : w4.cell? ⟨w.heap.size, 6, none⟩ = some (.bool true) := k0.cell 6; have fk0_6 := k0.free 6; have ck1_0 : w4.cell? ⟨w.heap.size + 1, 0, none⟩ = some (.bool false) := k1.cell 0; have fk1_0 := k1.free 0; have ck1_1 : w4.cell? ⟨w.heap.size + 1, 1, none⟩ = some (.int .i64 0) := k1.cell 1; have fk1_1 := k1.free 1; have ck1_2 : w4.cell? ⟨w.heap.size + 1, 2, none⟩ = some (.int .u64 0) := k1.cell 2; have fk1_2 := k1.free 2; have ck1_3 : w4.cell? ⟨w.heap.size + 1, 3, none⟩ = some (.int .u64 0) := k1.cell 3; have fk1_3 := k1.free 3; have ck1_4 : w4.cell? ⟨w.heap.size + 1, 4, none⟩ = some (.int .u64 0) := k1.cell 4; have fk1_4 := k1.free 4; have ck1_5 : w4.cell? ⟨w.heap.size + 1, 5, none⟩ = some (.int .u64 0) := k1.cell 5; have fk1_5 := k1.free 5; have ck1_6 : w4.cell? ⟨w.heap.size + 1, 6, none⟩ = some (.bool false) := k1.cell 6; have fk1_6 := k1.free 6
  go_wp2_with fail
  rw [← hQ.out]; refine bodyPost_ret (v := .agg #[.bool m, .int .i64 (x - 1), .int .u64 (l0 q), .int .u64 (l1 q), .int .u64 (l2 q), .int .u64 (l3 q), .bool false]) (by simp [results, Try.results75, go_sem, *]) rfl ⟨rfl, ?_⟩; have HB := KB; exact BELq HB
end Go.Proofs.Ythcgeekibomhiaa
namespace Go.Proofs.Ythcgeekibomhiaa
set_option linter.unusedVariables false
set_option linter.unusedSimpArgs false
open Go.RowKit
def cutQ (s : Nat) (x n : Int) : Nat := if n ≤ x then s * 2 ^ (x - n).toNat % T256 else s / 2 ^ (n - x).toNat
def cutH (s : Nat) (x n : Int) : Bool := if n ≤ x then false else decide (s / 2 ^ (n - x - 1).toNat % 2 = 1)
def cutR (s : Nat) (x n : Int) : Bool := if n ≤ x then false else decide (s % 2 ^ (n - x - 1).toNat ≠ 0)
theorem cutQ_lt (s : Nat) (x n : Int) (hs : s < T256) : cutQ s x n < T256 := by
  unfold cutQ
  split
  · exact Nat.mod_lt _ (by decide)
  · exact Nat.lt_of_le_of_lt (Nat.div_le_self _ _) hs
set_option maxHeartbeats 1000000 in
set_option maxRecDepth 100000 in
theorem r_cut_eq (mi : Bool) (x : Int) (s : Nat) (hs : s < T256) (w : World) (h0 : -300000 ≤ x) (h1 : x ≤ 300000) : Calls Try.prog 102 #[.agg #[.bool mi, .int .i64 x, .int .u64 (l0 s), .int .u64 (l1 s), .int .u64 (l2 s), .int .u64 (l3 s), .bool false], .int .i64 x] w fun e w' =>
    e = .returned (.tuple #[.agg #[.int .u64 (l0 s), .int .u64 (l1 s), .int .u64 (l2 s), .int .u64 (l3 s)], .bool false, .bool false]) ∧ Below w.heap.size w w' := by
  have HS := Hd.mk hs; clear hs
  go_enter Try.func102, Try.ntmps102
  go_wp2_with fail
  refine wp_named ?_; intro W0 hW0
  have k0 : Blk W0 w.heap.size 64 #[.bool mi, .int .i64 x, .int .u64 (l0 s), .int .u64 (l1 s), .int .u64 (l2 s), .int .u64 (l3 s), .bool false] := by rw [hW0]; repeat (first | ((with_reducible refine Blk.at ?_); simp; done) | (with_reducible apply Blk.alloc))
  have k1 : Blk W0 (w.heap.size + 1) 62 #[.int .u64 0, .int .u64 0, .int .u64 0, .int .u64 0] := by rw [hW0]; repeat (first | ((with_reducible refine Blk.at ?_); simp; done) | (with_reducible apply Blk.alloc))
  have hB0 : Hd (Below w.heap.size w W0) := ⟨by rw [hW0]; exact BELz⟩
  have hs0 : w.heap.size + 2 ≤ W0.heap.size := by rw [hW0]; simp
  clear hW0; have lt0 := k0.lt; have lt1 := k1.lt; have ck0_0 : W0.cell? ⟨w.heap.size, 0, none⟩ = some (.bool mi) := k0.cell 0; have fk0_0 := k0.free 0; have ck0_1 : W0.cell? ⟨w.heap.size, 1, none⟩ = some (.int .i64 x) := k0.cell 1; have fk0_1 := k0.free 1; have ck0_2 : W0.cell? ⟨w.heap.size, 2, none⟩ = some (.int .u64 (l0 s)) := k0.cell 2; have fk0_2 := k0.free 2; have ck0_3 : W0.cell? ⟨w.heap.size, 3, none⟩ = some (.int .u64 (l1 s)) := k0.cell 3; have fk0_3 := k0.free 3; have ck0_4 : W0.cell? ⟨w.heap.size, 4, none⟩ = some (.int .u64 (l2 s)) := k0.cell 4; have fk0_4 := k0.free 4; have ck0_5 : W0.cell? ⟨w.heap.size, 5, none⟩ = some (.int .u64 (l3 s)) := k0.cell 5; have fk0_5 := k0.free 5; have ck0_6 : W0.cell? ⟨w.heap.size, 6, none⟩ = some (.bool false) := k0.cell 6; have fk0_6 := k0.free 6; have ck1_0 : W0.cell? ⟨w.heap.size + 1, 0, none⟩ = some (.int .u64 0) := k1.cell 0; have fk1_0 := k1.free 0; have ck1_1 : W0.cell? ⟨w.heap.size + 1, 1, none⟩ = some (.int .u64 0) := k1.cell 1; have fk1_1 := k1.free 1; have ck1_2 : W0.cell? ⟨w.heap.size + 1, 2, none⟩ = some (.int .u64 0) := k1.cell 2; have fk1_2 := k1.free 2; have ck1_3 : W0.cell? ⟨w.heap.size + 1, 3, none⟩ = some (.int .u64 0) := k1.cell 3; have fk1_3 := k1.free 3; have HB := Hd.mk (Below.refl W0.heap.size W0)
  go_region_held3 (fun w' => w'.cell? ⟨w.heap.size, 0, none⟩ = some (.bool mi) ∧ w'.cell? ⟨w.heap.size, 1, none⟩ = some (.int .i64 x) ∧ w'.cell? ⟨w.heap.size, 2, none⟩ = some (.int .u64 (l0 s)) ∧ w'.cell? ⟨w.heap.size, 3, none⟩ = some (.int .u64 (l1 s)) ∧ w'.cell? ⟨w.heap.size, 4, none⟩ = some (.int .u64 (l2 s)) ∧ w'.cell? ⟨w.heap.size, 5, none⟩ = some (.int .u64 (l3 s)) ∧ w'.cell? ⟨w.heap.size, 6, none⟩ = some (.bool false)) (first | (simp [go_sem, World.cell?_alloc_past, *]; done) | (simp (disch := first | omega | (simp; done) | (simp; omega)) [go_sem, World.cell?_alloc_past, *]; done)) (first | (go_at_call 65; refine (wshl s HS.out _ _).mono ?_; rintro e w1 ⟨p, hp, rfl, hb⟩; have d1 := (Blk.aft hb k1.drew).four; obtain ⟨hc, hf⟩ := bcell hb; have hz := hb.size; (try simp at hz); (try (have hz2 := Nat.lt_of_succ_le hz)); have n0 := Hd.mk (bthen (by repeat (first | (with_reducible exact HB.out) | (with_reducible apply bdrN) | (with_reducible apply bdr) | (with_reducible apply bal))) hb); clear HB; have HB := n0; clear n0))
  have hP : Hd (p = s) := ⟨hp.out.trans (by rw [show (IntKind.i64.wrap 0).toNat = 0 from rfl, Nat.pow_zero, Nat.mul_one]; exact Nat.mod_eq_of_lt HS.out)⟩
  go_wp2_with fail
  rw [← hP.out]; refine bodyPost_ret (v := .tuple #[.agg #[.int .u64 (l0 p), .int .u64 (l1 p), .int .u64 (l2 p), .int .u64 (l3 p)], .bool false, .bool false]) (by simp [results, Try.results102, go_sem, *]) rfl ⟨rfl, ?_⟩; have HB := Hd.mk (bthen hB0.out HB.out); exact BELq HB
set_option maxHeartbeats 1000000 in
set_option maxRecDepth 100000 in
theorem r_cut_lt (mi : Bool) (x n : Int) (s : Nat) (hs : s < T256) (w : World) (h0 : -300000 ≤ x) (h1 : x ≤ 300000) (h2 : -300000 ≤ n) (hn : n < x) : Calls Try.prog 102 #[.agg #[.bool mi, .int .i64 x, .int .u64 (l0 s), .int .u64 (l1 s), .int .u64 (l2 s), .int .u64 (l3 s), .bool false], .int .i64 n] w fun e w' =>
    e = .returned (.tuple #[.agg #[.int .u64 (l0 (s * 2 ^ (x - n).toNat % T256)), .int .u64 (l1 (s * 2 ^ (x - n).toNat % T256)), .int .u64 (l2 (s * 2 ^ (x - n).toNat % T256)), .int .u64 (l3 (s * 2 ^ (x - n).toNat % T256))], .bool false, .bool false]) ∧ Below w.heap.size w w' := by
  have HS := Hd.mk hs
  have hd : (n - x == 0) = false := by simp; omega
  have ew : Hd ((IntKind.i64.wrap (-(n - x))).toNat = (x - n).toNat) := ⟨by rw [IntKind.wrap_i64]; omega⟩; clear hs
  go_enter Try.func102, Try.ntmps102
  go_wp2_with fail
  refine wp_named ?_; intro W0 hW0
  have k0 : Blk W0 w.heap.size 64 #[.bool mi, .int .i64 x, .int .u64 (l0 s), .int .u64 (l1 s), .int .u64 (l2 s), .int .u64 (l3 s), .bool false] := by rw [hW0]; repeat (first | ((with_reducible refine Blk.at ?_); simp; done) | (with_reducible apply Blk.alloc))
  have k1 : Blk W0 (w.heap.size + 1) 62 #[.int .u64 0, .int .u64 0, .int .u64 0, .int .u64 0] := by rw [hW0]; repeat (first | ((with_reducible refine Blk.at ?_); simp; done) | (with_reducible apply Blk.alloc))
  have hB0 : Hd (Below w.heap.size w W0) := ⟨by rw [hW0]; exact BELz⟩
  have hs0 : w.heap.size + 2 ≤ W0.heap.size := by rw [hW0]; simp
  clear hW0; have lt0 := k0.lt; have lt1 := k1.lt; have ck0_0 : W0.cell? ⟨w.heap.size, 0, none⟩ = some (.bool mi) := k0.cell 0; have fk0_0 := k0.free 0; have ck0_1 : W0.cell? ⟨w.heap.size, 1, none⟩ = some (.int .i64 x) := k0.cell 1; have fk0_1 := k0.free 1; have ck0_2 : W0.cell? ⟨w.heap.size, 2, none⟩ = some (.int .u64 (l0 s)) := k0.cell 2; have fk0_2 := k0.free 2; have ck0_3 : W0.cell? ⟨w.heap.size, 3, none⟩ = some (.int .u64 (l1 s)) := k0.cell 3; have fk0_3 := k0.free 3; have ck0_4 : W0.cell? ⟨w.heap.size, 4, none⟩ = some (.int .u64 (l2 s)) := k0.cell 4; have fk0_4 := k0.free 4; have ck0_5 : W0.cell? ⟨w.heap.size, 5, none⟩ = some (.int .u64 (l3 s)) := k0.cell 5; have fk0_5 := k0.free 5; have ck0_6 : W0.cell? ⟨w.heap.size, 6, none⟩ = some (.bool false) := k0.cell 6; have fk0_6 := k0.free 6; have ck1_0 : W0.cell? ⟨w.heap.size + 1, 0, none⟩ = some (.int .u64 0) := k1.cell 0; have fk1_0 := k1.free 0; have ck1_1 : W0.cell? ⟨w.heap.size + 1, 1, none⟩ = some (.int .u64 0) := k1.cell 1; have fk1_1 := k1.free 1; have ck1_2 : W0.cell? ⟨w.heap.size + 1, 2, none⟩ = some (.int .u64 0) := k1.cell 2; have fk1_2 := k1.free 2; have ck1_3 : W0.cell? ⟨w.heap.size + 1, 3, none⟩ = some (.int .u64 0) := k1.cell 3; have fk1_3 := k1.free 3; have HB := Hd.mk (Below.refl W0.heap.size W0)
  first | (go_region_with (go_at_call 65; refine (wshl s HS.out _ _).mono ?_; rintro e w1 ⟨p, hp, rfl, hb⟩; have d1 := (Blk.aft hb k1.drew).four; obtain ⟨hc, hf⟩ := bcell hb; have hz := hb.size; (try simp at hz); (try (have hz2 := Nat.lt_of_succ_le hz)); have n0 := Hd.mk (bthen (by repeat (first | (with_reducible exact HB.out) | (with_reducible apply bdrN) | (with_reducible apply bdr) | (with_reducible apply bal))) hb); clear HB; have HB := n0; clear n0)) | (exfalso; done)
  all_goals
    have hP : Hd (p = s * 2 ^ (x - n).toNat % T256) := ⟨by rw [← ew.out]; exact hp.out⟩
    go_wp2_with fail
    rw [← hP.out]; refine bodyPost_ret (v := .tuple #[.agg #[.int .u64 (l0 p), .int .u64 (l1 p), .int .u64 (l2 p), .int .u64 (l3 p)], .bool false, .bool false]) (by simp [results, Try.results102, go_sem, *]) rfl ⟨rfl, ?_⟩; have HB := Hd.mk (bthen hB0.out HB.out); exact BELq HB
set_option maxHeartbeats 2000000 in
set_option maxRecDepth 100000 in
theorem r_cut_1 (mi : Bool) (x n : Int) (s : Nat) (hs : s < T256) (w : World) (h0 : -300000 ≤ x) (h1 : x ≤ 300000) (h2 : n ≤ 300000) (hn1 : x + 1 ≤ n) (hn2 : n ≤ x + 1) (hh : Hd (s / 2 ^ (n - x - 1).toNat % 2 = 0)) : Calls Try.prog 102 #[.agg #[.bool mi, .int .i64 x, .int .u64 (l0 s), .int .u64 (l1 s), .int .u64 (l2 s), .int .u64 (l3 s), .bool false], .int .i64 n] w fun e w' =>
    e = .returned (.tuple #[.agg #[.int .u64 (l0 (s / 2 ^ (n - x).toNat)), .int .u64 (l1 (s / 2 ^ (n - x).toNat)), .int .u64 (l2 (s / 2 ^ (n - x).toNat)), .int .u64 (l3 (s / 2 ^ (n - x).toNat))], .bool false, .bool (decide (s % 2 ^ (n - x - 1).toNat ≠ 0))]) ∧ Below w.heap.size w w' := by
  have HS := Hd.mk hs; have hd : Hd (decide (s % 2 ^ (n - x - 1).toNat ≠ 0) = false) := ⟨by rw [show (n - x - 1).toNat = 0 by omega]; simp [Nat.mod_one]⟩; clear hs
  go_enter Try.func102, Try.ntmps102
  go_wp2_with fail
  refine (wshr s HS.out _ _).mono ?_; rintro e w1 ⟨q, oq, hq, rfl, hb⟩; have k0 : Blk w1 (w.heap.size) 64 #[.bool mi, .int .i64 x, .int .u64 (l0 s), .int .u64 (l1 s), .int .u64 (l2 s), .int .u64 (l3 s), .bool false] := BLKq; have k1 : Blk w1 (w.heap.size + 1) 62 #[.int .u64 0, .int .u64 0, .int .u64 0, .int .u64 0] := BLKq; have ltk0_w1 := k0.lt; have ltk1_w1 := k1.lt; have KB : Hd (Below w.heap.size w w1) := Hd.mk (bthen BELz hb); have hzw1 := hb.size
  (try simp at hzw1)
  clear hb; have HQ : Hd (q = s / 2 ^ (n - x).toNat) := ⟨hq.out.1⟩; clear hq; have ck0_0 : w1.cell? ⟨w.heap.size, 0, none⟩ = some (.bool mi) := k0.cell 0; have fk0_0 := k0.free 0; have ck0_1 : w1.cell? ⟨w.heap.size, 1, none⟩ = some (.int .i64 x) := k0.cell 1; have fk0_1 := k0.free 1; have ck0_2 : w1.cell? ⟨w.heap.size, 2, none⟩ = some (.int .u64 (l0 s)) := k0.cell 2; have fk0_2 := k0.free 2; have ck0_3 : w1.cell? ⟨w.heap.size, 3, none⟩ = some (.int .u64 (l1 s)) := k0.cell 3; have fk0_3 := k0.free 3; have ck0_4 : w1.cell? ⟨w.heap.size, 4, none⟩ = some (.int .u64 (l2 s)) := k0.cell 4; have fk0_4 := k0.free 4; have ck0_5 : w1.cell? ⟨w.heap.size, 5, none⟩ = some (.int .u64 (l3 s)) := k0.cell 5; have fk0_5 := k0.free 5; have ck0_6 : w1.cell? ⟨w.heap.size, 6, none⟩ = some (.bool false) := k0.cell 6; have fk0_6 := k0.free 6
  go_wp2_with fail
  refine (wbit s HS.out _ (by omega) _).mono ?_; rintro e w2 ⟨rfl, hb⟩; replace k0 : Blk w2 (w.heap.size) 64 #[.bool mi, .int .i64 x, .int .u64 (l0 s), .int .u64 (l1 s), .int .u64 (l2 s), .int .u64 (l3 s), .bool false] := BLKq; replace k1 : Blk w2 (w.heap.size + 1) 62 #[.int .u64 0, .int .u64 0, .int .u64 0, .int .u64 0] := BLKq; have kq : Blk w2 (w1.heap.size) 62 #[.int .u64 (l0 q), .int .u64 (l1 q), .int .u64 (l2 q), .int .u64 (l3 q)] := BLKq; have ltk0_w2 := k0.lt; have ltk1_w2 := k1.lt; have ltkq_w2 := kq.lt; replace KB : Hd (Below w.heap.size w w2) := Hd.mk (bthen (BELq KB) hb); have hzw2 := hb.size
  (try simp at hzw2)
  clear hb; clear ck0_0 fk0_0 ck0_1 fk0_1 ck0_2 fk0_2 ck0_3 fk0_3 ck0_4 fk0_4 ck0_5 fk0_5 ck0_6 fk0_6; rw [hh.out]; have ck0_0 : w2.cell? ⟨w.heap.size, 0, none⟩ = some (.bool mi) := k0.cell 0; have fk0_0 := k0.free 0; have ck0_1 : w2.cell? ⟨w.heap.size, 1, none⟩ = some (.int .i64 x) := k0.cell 1; have fk0_1 := k0.free 1; have ck0_2 : w2.cell? ⟨w.heap.size, 2, none⟩ = some (.int .u64 (l0 s)) := k0.cell 2; have fk0_2 := k0.free 2; have ck0_3 : w2.cell? ⟨w.heap.size, 3, none⟩ = some (.int .u64 (l1 s)) := k0.cell 3; have fk0_3 := k0.free 3; have ck0_4 : w2.cell? ⟨w.heap.size, 4, none⟩ = some (.int .u64 (l2 s)) := k0.cell 4; have fk0_4 := k0.free 4; have ck0_5 : w2.cell? ⟨w.heap.size, 5, none⟩ = some (.int .u64 (l3 s)) := k0.cell 5; have fk0_5 := k0.free 5; have ck0_6 : w2.cell? ⟨w.heap.size, 6, none⟩ = some (.bool false) := k0.cell 6; have fk0_6 := k0.free 6; have ck1_0 : w2.cell? ⟨w.heap.size + 1, 0, none⟩ = some (.int .u64 0) := k1.cell 0; have fk1_0 := k1.free 0; have ck1_1 : w2.cell? ⟨w.heap.size + 1, 1, none⟩ = some (.int .u64 0) := k1.cell 1; have fk1_1 := k1.free 1; have ck1_2 : w2.cell? ⟨w.heap.size + 1, 2, none⟩ = some (.int .u64 0) := k1.cell 2; have fk1_2 := k1.free 2; have ck1_3 : w2.cell? ⟨w.heap.size + 1, 3, none⟩ = some (.int .u64 0) := k1.cell 3; have fk1_3 := k1.free 3; have ckq_0 : w2.cell? ⟨w1.heap.size, 0, none⟩ = some (.int .u64 (l0 q)) := kq.cell 0; have fkq_0 := kq.free 0; have ckq_1 : w2.cell? ⟨w1.heap.size, 1, none⟩ = some (.int .u64 (l1 q)) := kq.cell 1; have fkq_1 := kq.free 1; have ckq_2 : w2.cell? ⟨w1.heap.size, 2, none⟩ = some (.int .u64 (l2 q)) := kq.cell 2; have fkq_2 := kq.free 2; have ckq_3 : w2.cell? ⟨w1.heap.size, 3, none⟩ = some (.int .u64 (l3 q)) := kq.cell 3; have fkq_3 := kq.free 3
  go_wp2_with fail
  rw [← HQ.out, hd.out]; refine bodyPost_ret (v := .tuple #[.agg #[.int .u64 (l0 q), .int .u64 (l1 q), .int .u64 (l2 q), .int .u64 (l3 q)], .bool false, .bool false]) (by simp [results, Try.results102, go_sem, *]) rfl ⟨rfl, ?_⟩; have HB := KB; exact BELq HB
set_option maxHeartbeats 2000000 in
set_option maxRecDepth 100000 in
theorem r_cut_1h (mi : Bool) (x n : Int) (s : Nat) (hs : s < T256) (w : World) (h0 : -300000 ≤ x) (h1 : x ≤ 300000) (h2 : n ≤ 300000) (hn1 : x + 1 ≤ n) (hn2 : n ≤ x + 1) (hh : Hd (s / 2 ^ (n - x - 1).toNat % 2 = 1)) : Calls Try.prog 102 #[.agg #[.bool mi, .int .i64 x, .int .u64 (l0 s), .int .u64 (l1 s), .int .u64 (l2 s), .int .u64 (l3 s), .bool false], .int .i64 n] w fun e w' =>
    e = .returned (.tuple #[.agg #[.int .u64 (l0 (s / 2 ^ (n - x).toNat)), .int .u64 (l1 (s / 2 ^ (n - x).toNat)), .int .u64 (l2 (s / 2 ^ (n - x).toNat)), .int .u64 (l3 (s / 2 ^ (n - x).toNat))], .bool true, .bool (decide (s % 2 ^ (n - x - 1).toNat ≠ 0))]) ∧ Below w.heap.size w w' := by
  have HS := Hd.mk hs; have hd : Hd (decide (s % 2 ^ (n - x - 1).toNat ≠ 0) = false) := ⟨by rw [show (n - x - 1).toNat = 0 by omega]; simp [Nat.mod_one]⟩; clear hs
  go_enter Try.func102, Try.ntmps102
  go_wp2_with fail
  refine (wshr s HS.out _ _).mono ?_; rintro e w1 ⟨q, oq, hq, rfl, hb⟩; have k0 : Blk w1 (w.heap.size) 64 #[.bool mi, .int .i64 x, .int .u64 (l0 s), .int .u64 (l1 s), .int .u64 (l2 s), .int .u64 (l3 s), .bool false] := BLKq; have k1 : Blk w1 (w.heap.size + 1) 62 #[.int .u64 0, .int .u64 0, .int .u64 0, .int .u64 0] := BLKq; have ltk0_w1 := k0.lt; have ltk1_w1 := k1.lt; have KB : Hd (Below w.heap.size w w1) := Hd.mk (bthen BELz hb); have hzw1 := hb.size
  (try simp at hzw1)
  clear hb; have HQ : Hd (q = s / 2 ^ (n - x).toNat) := ⟨hq.out.1⟩; clear hq; have ck0_0 : w1.cell? ⟨w.heap.size, 0, none⟩ = some (.bool mi) := k0.cell 0; have fk0_0 := k0.free 0; have ck0_1 : w1.cell? ⟨w.heap.size, 1, none⟩ = some (.int .i64 x) := k0.cell 1; have fk0_1 := k0.free 1; have ck0_2 : w1.cell? ⟨w.heap.size, 2, none⟩ = some (.int .u64 (l0 s)) := k0.cell 2; have fk0_2 := k0.free 2; have ck0_3 : w1.cell? ⟨w.heap.size, 3, none⟩ = some (.int .u64 (l1 s)) := k0.cell 3; have fk0_3 := k0.free 3; have ck0_4 : w1.cell? ⟨w.heap.size, 4, none⟩ = some (.int .u64 (l2 s)) := k0.cell 4; have fk0_4 := k0.free 4; have ck0_5 : w1.cell? ⟨w.heap.size, 5, none⟩ = some (.int .u64 (l3 s)) := k0.cell 5; have fk0_5 := k0.free 5; have ck0_6 : w1.cell? ⟨w.heap.size, 6, none⟩ = some (.bool false) := k0.cell 6; have fk0_6 := k0.free 6
  go_wp2_with fail
  refine (wbit s HS.out _ (by omega) _).mono ?_; rintro e w2 ⟨rfl, hb⟩; replace k0 : Blk w2 (w.heap.size) 64 #[.bool mi, .int .i64 x, .int .u64 (l0 s), .int .u64 (l1 s), .int .u64 (l2 s), .int .u64 (l3 s), .bool false] := BLKq; replace k1 : Blk w2 (w.heap.size + 1) 62 #[.int .u64 0, .int .u64 0, .int .u64 0, .int .u64 0] := BLKq; have kq : Blk w2 (w1.heap.size) 62 #[.int .u64 (l0 q), .int .u64 (l1 q), .int .u64 (l2 q), .int .u64 (l3 q)] := BLKq; have ltk0_w2 := k0.lt; have ltk1_w2 := k1.lt; have ltkq_w2 := kq.lt; replace KB : Hd (Below w.heap.size w w2) := Hd.mk (bthen (BELq KB) hb); have hzw2 := hb.size
  (try simp at hzw2)
  clear hb; clear ck0_0 fk0_0 ck0_1 fk0_1 ck0_2 fk0_2 ck0_3 fk0_3 ck0_4 fk0_4 ck0_5 fk0_5 ck0_6 fk0_6; rw [hh.out]; have ck0_0 : w2.cell? ⟨w.heap.size, 0, none⟩ = some (.bool mi) := k0.cell 0; have fk0_0 := k0.free 0; have ck0_1 : w2.cell? ⟨w.heap.size, 1, none⟩ = some (.int .i64 x) := k0.cell 1; have fk0_1 := k0.free 1; have ck0_2 : w2.cell? ⟨w.heap.size, 2, none⟩ = some (.int .u64 (l0 s)) := k0.cell 2; have fk0_2 := k0.free 2; have ck0_3 : w2.cell? ⟨w.heap.size, 3, none⟩ = some (.int .u64 (l1 s)) := k0.cell 3; have fk0_3 := k0.free 3; have ck0_4 : w2.cell? ⟨w.heap.size, 4, none⟩ = some (.int .u64 (l2 s)) := k0.cell 4; have fk0_4 := k0.free 4; have ck0_5 : w2.cell? ⟨w.heap.size, 5, none⟩ = some (.int .u64 (l3 s)) := k0.cell 5; have fk0_5 := k0.free 5; have ck0_6 : w2.cell? ⟨w.heap.size, 6, none⟩ = some (.bool false) := k0.cell 6; have fk0_6 := k0.free 6; have ck1_0 : w2.cell? ⟨w.heap.size + 1, 0, none⟩ = some (.int .u64 0) := k1.cell 0; have fk1_0 := k1.free 0; have ck1_1 : w2.cell? ⟨w.heap.size + 1, 1, none⟩ = some (.int .u64 0) := k1.cell 1; have fk1_1 := k1.free 1; have ck1_2 : w2.cell? ⟨w.heap.size + 1, 2, none⟩ = some (.int .u64 0) := k1.cell 2; have fk1_2 := k1.free 2; have ck1_3 : w2.cell? ⟨w.heap.size + 1, 3, none⟩ = some (.int .u64 0) := k1.cell 3; have fk1_3 := k1.free 3; have ckq_0 : w2.cell? ⟨w1.heap.size, 0, none⟩ = some (.int .u64 (l0 q)) := kq.cell 0; have fkq_0 := kq.free 0; have ckq_1 : w2.cell? ⟨w1.heap.size, 1, none⟩ = some (.int .u64 (l1 q)) := kq.cell 1; have fkq_1 := kq.free 1; have ckq_2 : w2.cell? ⟨w1.heap.size, 2, none⟩ = some (.int .u64 (l2 q)) := kq.cell 2; have fkq_2 := kq.free 2; have ckq_3 : w2.cell? ⟨w1.heap.size, 3, none⟩ = some (.int .u64 (l3 q)) := kq.cell 3; have fkq_3 := kq.free 3
  go_wp2_with fail
  rw [← HQ.out, hd.out]; refine bodyPost_ret (v := .tuple #[.agg #[.int .u64 (l0 q), .int .u64 (l1 q), .int .u64 (l2 q), .int .u64 (l3 q)], .bool true, .bool false]) (by simp [results, Try.results102, go_sem, *]) rfl ⟨rfl, ?_⟩; have HB := KB; exact BELq HB
set_option maxHeartbeats 2000000 in
set_option maxRecDepth 100000 in
theorem r_cut_f (mi : Bool) (x n : Int) (s : Nat) (hs : s < T256) (w : World) (h0 : -300000 ≤ x) (h1 : x ≤ 300000) (h2 : n ≤ 300000) (hn1 : x + 257 ≤ n) (hh : Hd (s / 2 ^ (n - x - 1).toNat % 2 = 0)) : Calls Try.prog 102 #[.agg #[.bool mi, .int .i64 x, .int .u64 (l0 s), .int .u64 (l1 s), .int .u64 (l2 s), .int .u64 (l3 s), .bool false], .int .i64 n] w fun e w' =>
    e = .returned (.tuple #[.agg #[.int .u64 (l0 (s / 2 ^ (n - x).toNat)), .int .u64 (l1 (s / 2 ^ (n - x).toNat)), .int .u64 (l2 (s / 2 ^ (n - x).toNat)), .int .u64 (l3 (s / 2 ^ (n - x).toNat))], .bool false, .bool (decide (s % 2 ^ (n - x - 1).toNat ≠ 0))]) ∧ Below w.heap.size w w' := by
  have HS := Hd.mk hs; have hd : Hd (decide (s % 2 ^ (n - x - 1).toNat ≠ 0) = !decide (s = 0)) := ⟨by have h : s < 2 ^ (n - x - 1).toNat := Nat.lt_of_lt_of_le hs (by rw [T256_eq]; exact Nat.pow_le_pow_right (by decide) (by omega)); rw [Nat.mod_eq_of_lt h]; simp⟩; clear hs
  go_enter Try.func102, Try.ntmps102
  go_wp2_with fail
  refine (wshr s HS.out _ _).mono ?_; rintro e w1 ⟨q, oq, hq, rfl, hb⟩; have k0 : Blk w1 (w.heap.size) 64 #[.bool mi, .int .i64 x, .int .u64 (l0 s), .int .u64 (l1 s), .int .u64 (l2 s), .int .u64 (l3 s), .bool false] := BLKq; have k1 : Blk w1 (w.heap.size + 1) 62 #[.int .u64 0, .int .u64 0, .int .u64 0, .int .u64 0] := BLKq; have ltk0_w1 := k0.lt; have ltk1_w1 := k1.lt; have KB : Hd (Below w.heap.size w w1) := Hd.mk (bthen BELz hb); have hzw1 := hb.size
  (try simp at hzw1)
  clear hb; have HQ : Hd (q = s / 2 ^ (n - x).toNat) := ⟨hq.out.1⟩; clear hq; have ck0_0 : w1.cell? ⟨w.heap.size, 0, none⟩ = some (.bool mi) := k0.cell 0; have fk0_0 := k0.free 0; have ck0_1 : w1.cell? ⟨w.heap.size, 1, none⟩ = some (.int .i64 x) := k0.cell 1; have fk0_1 := k0.free 1; have ck0_2 : w1.cell? ⟨w.heap.size, 2, none⟩ = some (.int .u64 (l0 s)) := k0.cell 2; have fk0_2 := k0.free 2; have ck0_3 : w1.cell? ⟨w.heap.size, 3, none⟩ = some (.int .u64 (l1 s)) := k0.cell 3; have fk0_3 := k0.free 3; have ck0_4 : w1.cell? ⟨w.heap.size, 4, none⟩ = some (.int .u64 (l2 s)) := k0.cell 4; have fk0_4 := k0.free 4; have ck0_5 : w1.cell? ⟨w.heap.size, 5, none⟩ = some (.int .u64 (l3 s)) := k0.cell 5; have fk0_5 := k0.free 5; have ck0_6 : w1.cell? ⟨w.heap.size, 6, none⟩ = some (.bool false) := k0.cell 6; have fk0_6 := k0.free 6
  go_wp2_with fail
  refine (wbit s HS.out _ (by omega) _).mono ?_; rintro e w2 ⟨rfl, hb⟩; replace k0 : Blk w2 (w.heap.size) 64 #[.bool mi, .int .i64 x, .int .u64 (l0 s), .int .u64 (l1 s), .int .u64 (l2 s), .int .u64 (l3 s), .bool false] := BLKq; replace k1 : Blk w2 (w.heap.size + 1) 62 #[.int .u64 0, .int .u64 0, .int .u64 0, .int .u64 0] := BLKq; have kq : Blk w2 (w1.heap.size) 62 #[.int .u64 (l0 q), .int .u64 (l1 q), .int .u64 (l2 q), .int .u64 (l3 q)] := BLKq; have ltk0_w2 := k0.lt; have ltk1_w2 := k1.lt; have ltkq_w2 := kq.lt; replace KB : Hd (Below w.heap.size w w2) := Hd.mk (bthen (BELq KB) hb); have hzw2 := hb.size
  (try simp at hzw2)
  clear hb; clear ck0_0 fk0_0 ck0_1 fk0_1 ck0_2 fk0_2 ck0_3 fk0_3 ck0_4 fk0_4 ck0_5 fk0_5 ck0_6 fk0_6; rw [hh.out]; have ck0_0 : w2.cell? ⟨w.heap.size, 0, none⟩ = some (.bool mi) := k0.cell 0; have fk0_0 := k0.free 0; have ck0_1 : w2.cell? ⟨w.heap.size, 1, none⟩ = some (.int .i64 x) := k0.cell 1; have fk0_1 := k0.free 1; have ck0_2 : w2.cell? ⟨w.heap.size, 2, none⟩ = some (.int .u64 (l0 s)) := k0.cell 2; have fk0_2 := k0.free 2; have ck0_3 : w2.cell? ⟨w.heap.size, 3, none⟩ = some (.int .u64 (l1 s)) := k0.cell 3; have fk0_3 := k0.free 3; have ck0_4 : w2.cell? ⟨w.heap.size, 4, none⟩ = some (.int .u64 (l2 s)) := k0.cell 4; have fk0_4 := k0.free 4; have ck0_5 : w2.cell? ⟨w.heap.size, 5, none⟩ = some (.int .u64 (l3 s)) := k0.cell 5; have fk0_5 := k0.free 5; have ck0_6 : w2.cell? ⟨w.heap.size, 6, none⟩ = some (.bool false) := k0.cell 6; have fk0_6 := k0.free 6; have ck1_0 : w2.cell? ⟨w.heap.size + 1, 0, none⟩ = some (.int .u64 0) := k1.cell 0; have fk1_0 := k1.free 0; have ck1_1 : w2.cell? ⟨w.heap.size + 1, 1, none⟩ = some (.int .u64 0) := k1.cell 1; have fk1_1 := k1.free 1; have ck1_2 : w2.cell? ⟨w.heap.size + 1, 2, none⟩ = some (.int .u64 0) := k1.cell 2; have fk1_2 := k1.free 2; have ck1_3 : w2.cell? ⟨w.heap.size + 1, 3, none⟩ = some (.int .u64 0) := k1.cell 3; have fk1_3 := k1.free 3; have ckq_0 : w2.cell? ⟨w1.heap.size, 0, none⟩ = some (.int .u64 (l0 q)) := kq.cell 0; have fkq_0 := kq.free 0; have ckq_1 : w2.cell? ⟨w1.heap.size, 1, none⟩ = some (.int .u64 (l1 q)) := kq.cell 1; have fkq_1 := kq.free 1; have ckq_2 : w2.cell? ⟨w1.heap.size, 2, none⟩ = some (.int .u64 (l2 q)) := kq.cell 2; have fkq_2 := kq.free 2; have ckq_3 : w2.cell? ⟨w1.heap.size, 3, none⟩ = some (.int .u64 (l3 q)) := kq.cell 3; have fkq_3 := kq.free 3; have HB := Hd.mk (Below.refl w2.heap.size w2); have lq : Hd (q < T256) := ⟨by rw [HQ.out]; exact Nat.lt_of_le_of_lt (Nat.div_le_self _ _) HS.out⟩
  go_upto_region 8 with (fail)
  go_cut [12, 13] (fun v12 v13 wc => ∃ (g d : Nat) (o : Bool), v12 = .pointer (some ⟨g, 0, none⟩) ∧ v13 = .bool o ∧ Hd (d = (s + T256 - q * 2 ^ (n - x).toNat % T256) % T256) ∧ Hd (Blk wc g 62 #[.int .u64 (l0 d), .int .u64 (l1 d), .int .u64 (l2 d), .int .u64 (l3 d)]) ∧ Hd (w2.heap.size ≤ g) ∧ Hd (Below w2.heap.size w2 wc))
  case first =>
    go_region_held3 (fun w' => w'.cell? ⟨w.heap.size, 2, none⟩ = some (.int .u64 (l0 s)) ∧ w'.cell? ⟨w.heap.size, 3, none⟩ = some (.int .u64 (l1 s)) ∧ w'.cell? ⟨w.heap.size, 4, none⟩ = some (.int .u64 (l2 s)) ∧ w'.cell? ⟨w.heap.size, 5, none⟩ = some (.int .u64 (l3 s)) ∧ (w'.cell? ⟨w1.heap.size, 0, none⟩ = some (.int .u64 (l0 q)) ∧ w'.cell? ⟨w1.heap.size, 1, none⟩ = some (.int .u64 (l1 q)) ∧ w'.cell? ⟨w1.heap.size, 2, none⟩ = some (.int .u64 (l2 q)) ∧ w'.cell? ⟨w1.heap.size, 3, none⟩ = some (.int .u64 (l3 q)))) (first | (simp [go_sem, World.cell?_alloc_past, *]; done) | (simp (disch := first | omega | (simp; done) | (simp; omega)) [go_sem, World.cell?_alloc_past, *]; done)) (first | (go_at_call 65; refine (wshl q lq.out _ _).mono ?_; rintro e w3 ⟨m, hm, rfl, hb⟩; obtain ⟨hc, hf⟩ := bcell hb; have hz := hb.size; (try simp at hz); (try (have hz2 := Nat.lt_of_succ_le hz)); have n0 := Hd.mk (bthen (by repeat (first | (with_reducible exact HB.out) | (with_reducible apply bdrN) | (with_reducible apply bdr) | (with_reducible apply bal))) hb); clear HB; have HB := n0; clear n0) | (go_at_call 96; refine (wsub s m HS.out (by rw [hm.out]; exact Nat.mod_lt _ (by decide)) _).mono ?_; rintro e w3 ⟨d, o, hd, rfl, hb⟩; obtain ⟨hc, hf⟩ := bcell hb; have hz := hb.size; (try simp at hz); (try (have hz2 := Nat.lt_of_succ_le hz)); have n0 := Hd.mk (bthen (by repeat (first | (with_reducible exact HB.out) | (with_reducible apply bdrN) | (with_reducible apply bdr) | (with_reducible apply bal))) hb); clear HB; have HB := n0; clear n0))
    all_goals
      go_wp2_with fail
      go_meet
      case rel =>
        refine ⟨_, d, o, rfl, rfl, ⟨by rw [← hm.out]; exact hd.out.1⟩, ⟨?_⟩, ⟨?_⟩, ⟨?_⟩⟩
        · apply Blk.same
          · exact BLKq
          · rfl
        · omega
        · exact BELq HB
  case rest =>
    obtain ⟨g, d, o, rfl, rfl, hdd, kL, hg, HBc⟩ := hcut; have kd := kL.out; have HG := hg.out; replace k0 := k0.after HBc.out; have ltk0_wc := k0.lt; replace k1 := k1.after HBc.out; have ltk1_wc := k1.lt; replace kq := kq.after HBc.out; have ltkq_wc := kq.lt; replace KB := Hd.mk (bthen KB.out HBc.out); have hzc := HBc.out.size; clear HB kL hg; clear ck0_0 fk0_0 ck0_1 fk0_1 ck0_2 fk0_2 ck0_3 fk0_3 ck0_4 fk0_4 ck0_5 fk0_5 ck0_6 fk0_6; clear ck1_0 fk1_0 ck1_1 fk1_1 ck1_2 fk1_2 ck1_3 fk1_3; clear ckq_0 fkq_0 ckq_1 fkq_1 ckq_2 fkq_2 ckq_3 fkq_3; have ck0_0 : wc.cell? ⟨w.heap.size, 0, none⟩ = some (.bool mi) := k0.cell 0; have fk0_0 := k0.free 0; have ck0_1 : wc.cell? ⟨w.heap.size, 1, none⟩ = some (.int .i64 x) := k0.cell 1; have fk0_1 := k0.free 1; have ck0_2 : wc.cell? ⟨w.heap.size, 2, none⟩ = some (.int .u64 (l0 s)) := k0.cell 2; have fk0_2 := k0.free 2; have ck0_3 : wc.cell? ⟨w.heap.size, 3, none⟩ = some (.int .u64 (l1 s)) := k0.cell 3; have fk0_3 := k0.free 3; have ck0_4 : wc.cell? ⟨w.heap.size, 4, none⟩ = some (.int .u64 (l2 s)) := k0.cell 4; have fk0_4 := k0.free 4; have ck0_5 : wc.cell? ⟨w.heap.size, 5, none⟩ = some (.int .u64 (l3 s)) := k0.cell 5; have fk0_5 := k0.free 5; have ck0_6 : wc.cell? ⟨w.heap.size, 6, none⟩ = some (.bool false) := k0.cell 6; have fk0_6 := k0.free 6; have ck1_0 : wc.cell? ⟨w.heap.size + 1, 0, none⟩ = some (.int .u64 0) := k1.cell 0; have fk1_0 := k1.free 0; have ck1_1 : wc.cell? ⟨w.heap.size + 1, 1, none⟩ = some (.int .u64 0) := k1.cell 1; have fk1_1 := k1.free 1; have ck1_2 : wc.cell? ⟨w.heap.size + 1, 2, none⟩ = some (.int .u64 0) := k1.cell 2; have fk1_2 := k1.free 2; have ck1_3 : wc.cell? ⟨w.heap.size + 1, 3, none⟩ = some (.int .u64 0) := k1.cell 3; have fk1_3 := k1.free 3; have ckq_0 : wc.cell? ⟨w1.heap.size, 0, none⟩ = some (.int .u64 (l0 q)) := kq.cell 0; have fkq_0 := kq.free 0; have ckq_1 : wc.cell? ⟨w1.heap.size, 1, none⟩ = some (.int .u64 (l1 q)) := kq.cell 1; have fkq_1 := kq.free 1; have ckq_2 : wc.cell? ⟨w1.heap.size, 2, none⟩ = some (.int .u64 (l2 q)) := kq.cell 2; have fkq_2 := kq.free 2; have ckq_3 : wc.cell? ⟨w1.heap.size, 3, none⟩ = some (.int .u64 (l3 q)) := kq.cell 3; have fkq_3 := kq.free 3; have ckd_0 : wc.cell? ⟨g, 0, none⟩ = some (.int .u64 (l0 d)) := kd.cell 0; have fkd_0 := kd.free 0; have ckd_1 : wc.cell? ⟨g, 1, none⟩ = some (.int .u64 (l1 d)) := kd.cell 1; have fkd_1 := kd.free 1; have ckd_2 : wc.cell? ⟨g, 2, none⟩ = some (.int .u64 (l2 d)) := kd.cell 2; have fkd_2 := kd.free 2; have ckd_3 : wc.cell? ⟨g, 3, none⟩ = some (.int .u64 (l3 d)) := kd.cell 3; have fkd_3 := kd.free 3
    have hE := fun w => eq_nil w s HS.out
    have ld := kd.lt
    go_wp2_with fail
    rw [← HQ.out, hd.out]; refine bodyPost_ret (v := .tuple #[.agg #[.int .u64 (l0 q), .int .u64 (l1 q), .int .u64 (l2 q), .int .u64 (l3 q)], .bool false, .bool (!decide (s = 0))]) (by simp [results, Try.results102, go_sem, *]) rfl ⟨rfl, ?_⟩; have HB := KB; exact BELq HB
set_option maxHeartbeats 2000000 in
set_option maxRecDepth 100000 in
theorem r_cut_n (mi : Bool) (x n : Int) (s : Nat) (hs : s < T256) (w : World) (h0 : -300000 ≤ x) (h1 : x ≤ 300000) (h2 : n ≤ 300000) (hn1 : x + 2 ≤ n) (hn2 : n ≤ x + 256) (hh : Hd (s / 2 ^ (n - x - 1).toNat % 2 = 0)) (hD : ∀ d q, q = s / 2 ^ (n - x).toNat → d = (s + T256 - q * 2 ^ (n - x).toNat % T256) % T256 → (!decide (d = 0)) = decide (s % 2 ^ (n - x - 1).toNat ≠ 0)) : Calls Try.prog 102 #[.agg #[.bool mi, .int .i64 x, .int .u64 (l0 s), .int .u64 (l1 s), .int .u64 (l2 s), .int .u64 (l3 s), .bool false], .int .i64 n] w fun e w' =>
    e = .returned (.tuple #[.agg #[.int .u64 (l0 (s / 2 ^ (n - x).toNat)), .int .u64 (l1 (s / 2 ^ (n - x).toNat)), .int .u64 (l2 (s / 2 ^ (n - x).toNat)), .int .u64 (l3 (s / 2 ^ (n - x).toNat))], .bool false, .bool (decide (s % 2 ^ (n - x - 1).toNat ≠ 0))]) ∧ Below w.heap.size w w' := by
  have HS := Hd.mk hs; clear hs; replace hD := Hd.mk hD
  go_enter Try.func102, Try.ntmps102
  go_wp2_with fail
  refine (wshr s HS.out _ _).mono ?_; rintro e w1 ⟨q, oq, hq, rfl, hb⟩; have k0 : Blk w1 (w.heap.size) 64 #[.bool mi, .int .i64 x, .int .u64 (l0 s), .int .u64 (l1 s), .int .u64 (l2 s), .int .u64 (l3 s), .bool false] := BLKq; have k1 : Blk w1 (w.heap.size + 1) 62 #[.int .u64 0, .int .u64 0, .int .u64 0, .int .u64 0] := BLKq; have ltk0_w1 := k0.lt; have ltk1_w1 := k1.lt; have KB : Hd (Below w.heap.size w w1) := Hd.mk (bthen BELz hb); have hzw1 := hb.size
  (try simp at hzw1)
  clear hb; have HQ : Hd (q = s / 2 ^ (n - x).toNat) := ⟨hq.out.1⟩; clear hq; have ck0_0 : w1.cell? ⟨w.heap.size, 0, none⟩ = some (.bool mi) := k0.cell 0; have fk0_0 := k0.free 0; have ck0_1 : w1.cell? ⟨w.heap.size, 1, none⟩ = some (.int .i64 x) := k0.cell 1; have fk0_1 := k0.free 1; have ck0_2 : w1.cell? ⟨w.heap.size, 2, none⟩ = some (.int .u64 (l0 s)) := k0.cell 2; have fk0_2 := k0.free 2; have ck0_3 : w1.cell? ⟨w.heap.size, 3, none⟩ = some (.int .u64 (l1 s)) := k0.cell 3; have fk0_3 := k0.free 3; have ck0_4 : w1.cell? ⟨w.heap.size, 4, none⟩ = some (.int .u64 (l2 s)) := k0.cell 4; have fk0_4 := k0.free 4; have ck0_5 : w1.cell? ⟨w.heap.size, 5, none⟩ = some (.int .u64 (l3 s)) := k0.cell 5; have fk0_5 := k0.free 5; have ck0_6 : w1.cell? ⟨w.heap.size, 6, none⟩ = some (.bool false) := k0.cell 6; have fk0_6 := k0.free 6
  go_wp2_with fail
  refine (wbit s HS.out _ (by omega) _).mono ?_; rintro e w2 ⟨rfl, hb⟩; replace k0 : Blk w2 (w.heap.size) 64 #[.bool mi, .int .i64 x, .int .u64 (l0 s), .int .u64 (l1 s), .int .u64 (l2 s), .int .u64 (l3 s), .bool false] := BLKq; replace k1 : Blk w2 (w.heap.size + 1) 62 #[.int .u64 0, .int .u64 0, .int .u64 0, .int .u64 0] := BLKq; have kq : Blk w2 (w1.heap.size) 62 #[.int .u64 (l0 q), .int .u64 (l1 q), .int .u64 (l2 q), .int .u64 (l3 q)] := BLKq; have ltk0_w2 := k0.lt; have ltk1_w2 := k1.lt; have ltkq_w2 := kq.lt; replace KB : Hd (Below w.heap.size w w2) := Hd.mk (bthen (BELq KB) hb); have hzw2 := hb.size
  (try simp at hzw2)
  clear hb; clear ck0_0 fk0_0 ck0_1 fk0_1 ck0_2 fk0_2 ck0_3 fk0_3 ck0_4 fk0_4 ck0_5 fk0_5 ck0_6 fk0_6; rw [hh.out]; have ck0_0 : w2.cell? ⟨w.heap.size, 0, none⟩ = some (.bool mi) := k0.cell 0; have fk0_0 := k0.free 0; have ck0_1 : w2.cell? ⟨w.heap.size, 1, none⟩ = some (.int .i64 x) := k0.cell 1; have fk0_1 := k0.free 1; have ck0_2 : w2.cell? ⟨w.heap.size, 2, none⟩ = some (.int .u64 (l0 s)) := k0.cell 2; have fk0_2 := k0.free 2; have ck0_3 : w2.cell? ⟨w.heap.size, 3, none⟩ = some (.int .u64 (l1 s)) := k0.cell 3; have fk0_3 := k0.free 3; have ck0_4 : w2.cell? ⟨w.heap.size, 4, none⟩ = some (.int .u64 (l2 s)) := k0.cell 4; have fk0_4 := k0.free 4; have ck0_5 : w2.cell? ⟨w.heap.size, 5, none⟩ = some (.int .u64 (l3 s)) := k0.cell 5; have fk0_5 := k0.free 5; have ck0_6 : w2.cell? ⟨w.heap.size, 6, none⟩ = some (.bool false) := k0.cell 6; have fk0_6 := k0.free 6; have ck1_0 : w2.cell? ⟨w.heap.size + 1, 0, none⟩ = some (.int .u64 0) := k1.cell 0; have fk1_0 := k1.free 0; have ck1_1 : w2.cell? ⟨w.heap.size + 1, 1, none⟩ = some (.int .u64 0) := k1.cell 1; have fk1_1 := k1.free 1; have ck1_2 : w2.cell? ⟨w.heap.size + 1, 2, none⟩ = some (.int .u64 0) := k1.cell 2; have fk1_2 := k1.free 2; have ck1_3 : w2.cell? ⟨w.heap.size + 1, 3, none⟩ = some (.int .u64 0) := k1.cell 3; have fk1_3 := k1.free 3; have ckq_0 : w2.cell? ⟨w1.heap.size, 0, none⟩ = some (.int .u64 (l0 q)) := kq.cell 0; have fkq_0 := kq.free 0; have ckq_1 : w2.cell? ⟨w1.heap.size, 1, none⟩ = some (.int .u64 (l1 q)) := kq.cell 1; have fkq_1 := kq.free 1; have ckq_2 : w2.cell? ⟨w1.heap.size, 2, none⟩ = some (.int .u64 (l2 q)) := kq.cell 2; have fkq_2 := kq.free 2; have ckq_3 : w2.cell? ⟨w1.heap.size, 3, none⟩ = some (.int .u64 (l3 q)) := kq.cell 3; have fkq_3 := kq.free 3; have HB := Hd.mk (Below.refl w2.heap.size w2); have lq : Hd (q < T256) := ⟨by rw [HQ.out]; exact Nat.lt_of_le_of_lt (Nat.div_le_self _ _) HS.out⟩
  go_upto_region 8 with (fail)
  go_cut [12, 13] (fun v12 v13 wc => ∃ (g d : Nat) (o : Bool), v12 = .pointer (some ⟨g, 0, none⟩) ∧ v13 = .bool o ∧ Hd (d = (s + T256 - q * 2 ^ (n - x).toNat % T256) % T256) ∧ Hd (Blk wc g 62 #[.int .u64 (l0 d), .int .u64 (l1 d), .int .u64 (l2 d), .int .u64 (l3 d)]) ∧ Hd (w2.heap.size ≤ g) ∧ Hd (Below w2.heap.size w2 wc))
  case first =>
    go_region_held3 (fun w' => w'.cell? ⟨w.heap.size, 2, none⟩ = some (.int .u64 (l0 s)) ∧ w'.cell? ⟨w.heap.size, 3, none⟩ = some (.int .u64 (l1 s)) ∧ w'.cell? ⟨w.heap.size, 4, none⟩ = some (.int .u64 (l2 s)) ∧ w'.cell? ⟨w.heap.size, 5, none⟩ = some (.int .u64 (l3 s)) ∧ (w'.cell? ⟨w1.heap.size, 0, none⟩ = some (.int .u64 (l0 q)) ∧ w'.cell? ⟨w1.heap.size, 1, none⟩ = some (.int .u64 (l1 q)) ∧ w'.cell? ⟨w1.heap.size, 2, none⟩ = some (.int .u64 (l2 q)) ∧ w'.cell? ⟨w1.heap.size, 3, none⟩ = some (.int .u64 (l3 q)))) (first | (simp [go_sem, World.cell?_alloc_past, *]; done) | (simp (disch := first | omega | (simp; done) | (simp; omega)) [go_sem, World.cell?_alloc_past, *]; done)) (first | (go_at_call 65; refine (wshl q lq.out _ _).mono ?_; rintro e w3 ⟨m, hm, rfl, hb⟩; obtain ⟨hc, hf⟩ := bcell hb; have hz := hb.size; (try simp at hz); (try (have hz2 := Nat.lt_of_succ_le hz)); have n0 := Hd.mk (bthen (by repeat (first | (with_reducible exact HB.out) | (with_reducible apply bdrN) | (with_reducible apply bdr) | (with_reducible apply bal))) hb); clear HB; have HB := n0; clear n0) | (go_at_call 96; refine (wsub s m HS.out (by rw [hm.out]; exact Nat.mod_lt _ (by decide)) _).mono ?_; rintro e w3 ⟨d, o, hd, rfl, hb⟩; obtain ⟨hc, hf⟩ := bcell hb; have hz := hb.size; (try simp at hz); (try (have hz2 := Nat.lt_of_succ_le hz)); have n0 := Hd.mk (bthen (by repeat (first | (with_reducible exact HB.out) | (with_reducible apply bdrN) | (with_reducible apply bdr) | (with_reducible apply bal))) hb); clear HB; have HB := n0; clear n0))
    all_goals
      go_wp2_with fail
      go_meet
      case rel =>
        refine ⟨_, d, o, rfl, rfl, ⟨by rw [← hm.out]; exact hd.out.1⟩, ⟨?_⟩, ⟨?_⟩, ⟨?_⟩⟩
        · apply Blk.same
          · exact BLKq
          · rfl
        · omega
        · exact BELq HB
  case rest =>
    obtain ⟨g, d, o, rfl, rfl, hdd, kL, hg, HBc⟩ := hcut; have kd := kL.out; have HG := hg.out; replace k0 := k0.after HBc.out; have ltk0_wc := k0.lt; replace k1 := k1.after HBc.out; have ltk1_wc := k1.lt; replace kq := kq.after HBc.out; have ltkq_wc := kq.lt; replace KB := Hd.mk (bthen KB.out HBc.out); have hzc := HBc.out.size; clear HB kL hg; clear ck0_0 fk0_0 ck0_1 fk0_1 ck0_2 fk0_2 ck0_3 fk0_3 ck0_4 fk0_4 ck0_5 fk0_5 ck0_6 fk0_6; clear ck1_0 fk1_0 ck1_1 fk1_1 ck1_2 fk1_2 ck1_3 fk1_3; clear ckq_0 fkq_0 ckq_1 fkq_1 ckq_2 fkq_2 ckq_3 fkq_3; have ck0_0 : wc.cell? ⟨w.heap.size, 0, none⟩ = some (.bool mi) := k0.cell 0; have fk0_0 := k0.free 0; have ck0_1 : wc.cell? ⟨w.heap.size, 1, none⟩ = some (.int .i64 x) := k0.cell 1; have fk0_1 := k0.free 1; have ck0_2 : wc.cell? ⟨w.heap.size, 2, none⟩ = some (.int .u64 (l0 s)) := k0.cell 2; have fk0_2 := k0.free 2; have ck0_3 : wc.cell? ⟨w.heap.size, 3, none⟩ = some (.int .u64 (l1 s)) := k0.cell 3; have fk0_3 := k0.free 3; have ck0_4 : wc.cell? ⟨w.heap.size, 4, none⟩ = some (.int .u64 (l2 s)) := k0.cell 4; have fk0_4 := k0.free 4; have ck0_5 : wc.cell? ⟨w.heap.size, 5, none⟩ = some (.int .u64 (l3 s)) := k0.cell 5; have fk0_5 := k0.free 5; have ck0_6 : wc.cell? ⟨w.heap.size, 6, none⟩ = some (.bool false) := k0.cell 6; have fk0_6 := k0.free 6; have ck1_0 : wc.cell? ⟨w.heap.size + 1, 0, none⟩ = some (.int .u64 0) := k1.cell 0; have fk1_0 := k1.free 0; have ck1_1 : wc.cell? ⟨w.heap.size + 1, 1, none⟩ = some (.int .u64 0) := k1.cell 1; have fk1_1 := k1.free 1; have ck1_2 : wc.cell? ⟨w.heap.size + 1, 2, none⟩ = some (.int .u64 0) := k1.cell 2; have fk1_2 := k1.free 2; have ck1_3 : wc.cell? ⟨w.heap.size + 1, 3, none⟩ = some (.int .u64 0) := k1.cell 3; have fk1_3 := k1.free 3; have ckq_0 : wc.cell? ⟨w1.heap.size, 0, none⟩ = some (.int .u64 (l0 q)) := kq.cell 0; have fkq_0 := kq.free 0; have ckq_1 : wc.cell? ⟨w1.heap.size, 1, none⟩ = some (.int .u64 (l1 q)) := kq.cell 1; have fkq_1 := kq.free 1; have ckq_2 : wc.cell? ⟨w1.heap.size, 2, none⟩ = some (.int .u64 (l2 q)) := kq.cell 2; have fkq_2 := kq.free 2; have ckq_3 : wc.cell? ⟨w1.heap.size, 3, none⟩ = some (.int .u64 (l3 q)) := kq.cell 3; have fkq_3 := kq.free 3; have ckd_0 : wc.cell? ⟨g, 0, none⟩ = some (.int .u64 (l0 d)) := kd.cell 0; have fkd_0 := kd.free 0; have ckd_1 : wc.cell? ⟨g, 1, none⟩ = some (.int .u64 (l1 d)) := kd.cell 1; have fkd_1 := kd.free 1; have ckd_2 : wc.cell? ⟨g, 2, none⟩ = some (.int .u64 (l2 d)) := kd.cell 2; have fkd_2 := kd.free 2; have ckd_3 : wc.cell? ⟨g, 3, none⟩ = some (.int .u64 (l3 d)) := kd.cell 3; have fkd_3 := kd.free 3; have HDD := hD.out d q HQ.out hdd.out
    have hE := fun w => eq_nil w d (by rw [hdd.out]; exact Nat.mod_lt _ (by decide))
    have ld := kd.lt
    go_wp2_with fail
    rw [← HQ.out, ← HDD]; refine bodyPost_ret (v := .tuple #[.agg #[.int .u64 (l0 q), .int .u64 (l1 q), .int .u64 (l2 q), .int .u64 (l3 q)], .bool false, .bool (!decide (d = 0))]) (by simp [results, Try.results102, go_sem, *]) rfl ⟨rfl, ?_⟩; have HB := KB; exact BELq HB
set_option maxHeartbeats 2000000 in
set_option maxRecDepth 100000 in
theorem r_cut_h (mi : Bool) (x n : Int) (s : Nat) (hs : s < T256) (w : World) (h0 : -300000 ≤ x) (h1 : x ≤ 300000) (h2 : n ≤ 300000) (hn1 : x + 2 ≤ n) (hn2 : n ≤ x + 256) (hh : Hd (s / 2 ^ (n - x - 1).toNat % 2 = 1)) (hD : ∀ d q z, q = s / 2 ^ (n - x).toNat → d = (s + T256 - q * 2 ^ (n - x).toNat % T256) % T256 → z = (d + T256 - Int.toNat 1 * 2 ^ (n - x - 1).toNat % T256) % T256 → (!decide (z = 0)) = decide (s % 2 ^ (n - x - 1).toNat ≠ 0)) : Calls Try.prog 102 #[.agg #[.bool mi, .int .i64 x, .int .u64 (l0 s), .int .u64 (l1 s), .int .u64 (l2 s), .int .u64 (l3 s), .bool false], .int .i64 n] w fun e w' =>
    e = .returned (.tuple #[.agg #[.int .u64 (l0 (s / 2 ^ (n - x).toNat)), .int .u64 (l1 (s / 2 ^ (n - x).toNat)), .int .u64 (l2 (s / 2 ^ (n - x).toNat)), .int .u64 (l3 (s / 2 ^ (n - x).toNat))], .bool true, .bool (decide (s % 2 ^ (n - x - 1).toNat ≠ 0))]) ∧ Below w.heap.size w w' := by
  have HS := Hd.mk hs; have ew : Hd ((IntKind.i64.wrap (n - x - 1)).toNat = (n - x - 1).toNat) := ⟨by rw [IntKind.wrap_i64]; omega⟩; clear hs; replace hD := Hd.mk hD
  go_enter Try.func102, Try.ntmps102
  go_wp2_with fail
  refine (wshr s HS.out _ _).mono ?_; rintro e w1 ⟨q, oq, hq, rfl, hb⟩; have k0 : Blk w1 (w.heap.size) 64 #[.bool mi, .int .i64 x, .int .u64 (l0 s), .int .u64 (l1 s), .int .u64 (l2 s), .int .u64 (l3 s), .bool false] := BLKq; have k1 : Blk w1 (w.heap.size + 1) 62 #[.int .u64 0, .int .u64 0, .int .u64 0, .int .u64 0] := BLKq; have ltk0_w1 := k0.lt; have ltk1_w1 := k1.lt; have KB : Hd (Below w.heap.size w w1) := Hd.mk (bthen BELz hb); have hzw1 := hb.size
  (try simp at hzw1)
  clear hb; have HQ : Hd (q = s / 2 ^ (n - x).toNat) := ⟨hq.out.1⟩; clear hq; have ck0_0 : w1.cell? ⟨w.heap.size, 0, none⟩ = some (.bool mi) := k0.cell 0; have fk0_0 := k0.free 0; have ck0_1 : w1.cell? ⟨w.heap.size, 1, none⟩ = some (.int .i64 x) := k0.cell 1; have fk0_1 := k0.free 1; have ck0_2 : w1.cell? ⟨w.heap.size, 2, none⟩ = some (.int .u64 (l0 s)) := k0.cell 2; have fk0_2 := k0.free 2; have ck0_3 : w1.cell? ⟨w.heap.size, 3, none⟩ = some (.int .u64 (l1 s)) := k0.cell 3; have fk0_3 := k0.free 3; have ck0_4 : w1.cell? ⟨w.heap.size, 4, none⟩ = some (.int .u64 (l2 s)) := k0.cell 4; have fk0_4 := k0.free 4; have ck0_5 : w1.cell? ⟨w.heap.size, 5, none⟩ = some (.int .u64 (l3 s)) := k0.cell 5; have fk0_5 := k0.free 5; have ck0_6 : w1.cell? ⟨w.heap.size, 6, none⟩ = some (.bool false) := k0.cell 6; have fk0_6 := k0.free 6
  go_wp2_with fail
  refine (wbit s HS.out _ (by omega) _).mono ?_; rintro e w2 ⟨rfl, hb⟩; replace k0 : Blk w2 (w.heap.size) 64 #[.bool mi, .int .i64 x, .int .u64 (l0 s), .int .u64 (l1 s), .int .u64 (l2 s), .int .u64 (l3 s), .bool false] := BLKq; replace k1 : Blk w2 (w.heap.size + 1) 62 #[.int .u64 0, .int .u64 0, .int .u64 0, .int .u64 0] := BLKq; have kq : Blk w2 (w1.heap.size) 62 #[.int .u64 (l0 q), .int .u64 (l1 q), .int .u64 (l2 q), .int .u64 (l3 q)] := BLKq; have ltk0_w2 := k0.lt; have ltk1_w2 := k1.lt; have ltkq_w2 := kq.lt; replace KB : Hd (Below w.heap.size w w2) := Hd.mk (bthen (BELq KB) hb); have hzw2 := hb.size
  (try simp at hzw2)
  clear hb; clear ck0_0 fk0_0 ck0_1 fk0_1 ck0_2 fk0_2 ck0_3 fk0_3 ck0_4 fk0_4 ck0_5 fk0_5 ck0_6 fk0_6; rw [hh.out]; have ck0_0 : w2.cell? ⟨w.heap.size, 0, none⟩ = some (.bool mi) := k0.cell 0; have fk0_0 := k0.free 0; have ck0_1 : w2.cell? ⟨w.heap.size, 1, none⟩ = some (.int .i64 x) := k0.cell 1; have fk0_1 := k0.free 1; have ck0_2 : w2.cell? ⟨w.heap.size, 2, none⟩ = some (.int .u64 (l0 s)) := k0.cell 2; have fk0_2 := k0.free 2; have ck0_3 : w2.cell? ⟨w.heap.size, 3, none⟩ = some (.int .u64 (l1 s)) := k0.cell 3; have fk0_3 := k0.free 3; have ck0_4 : w2.cell? ⟨w.heap.size, 4, none⟩ = some (.int .u64 (l2 s)) := k0.cell 4; have fk0_4 := k0.free 4; have ck0_5 : w2.cell? ⟨w.heap.size, 5, none⟩ = some (.int .u64 (l3 s)) := k0.cell 5; have fk0_5 := k0.free 5; have ck0_6 : w2.cell? ⟨w.heap.size, 6, none⟩ = some (.bool false) := k0.cell 6; have fk0_6 := k0.free 6; have ck1_0 : w2.cell? ⟨w.heap.size + 1, 0, none⟩ = some (.int .u64 0) := k1.cell 0; have fk1_0 := k1.free 0; have ck1_1 : w2.cell? ⟨w.heap.size + 1, 1, none⟩ = some (.int .u64 0) := k1.cell 1; have fk1_1 := k1.free 1; have ck1_2 : w2.cell? ⟨w.heap.size + 1, 2, none⟩ = some (.int .u64 0) := k1.cell 2; have fk1_2 := k1.free 2; have ck1_3 : w2.cell? ⟨w.heap.size + 1, 3, none⟩ = some (.int .u64 0) := k1.cell 3; have fk1_3 := k1.free 3; have ckq_0 : w2.cell? ⟨w1.heap.size, 0, none⟩ = some (.int .u64 (l0 q)) := kq.cell 0; have fkq_0 := kq.free 0; have ckq_1 : w2.cell? ⟨w1.heap.size, 1, none⟩ = some (.int .u64 (l1 q)) := kq.cell 1; have fkq_1 := kq.free 1; have ckq_2 : w2.cell? ⟨w1.heap.size, 2, none⟩ = some (.int .u64 (l2 q)) := kq.cell 2; have fkq_2 := kq.free 2; have ckq_3 : w2.cell? ⟨w1.heap.size, 3, none⟩ = some (.int .u64 (l3 q)) := kq.cell 3; have fkq_3 := kq.free 3; have HB := Hd.mk (Below.refl w2.heap.size w2); have lq : Hd (q < T256) := ⟨by rw [HQ.out]; exact Nat.lt_of_le_of_lt (Nat.div_le_self _ _) HS.out⟩
  go_upto_region 8 with (fail)
  go_cut [12, 13] (fun v12 v13 wc => ∃ (g d : Nat) (o : Bool), v12 = .pointer (some ⟨g, 0, none⟩) ∧ v13 = .bool o ∧ Hd (d = (s + T256 - q * 2 ^ (n - x).toNat % T256) % T256) ∧ Hd (Blk wc g 62 #[.int .u64 (l0 d), .int .u64 (l1 d), .int .u64 (l2 d), .int .u64 (l3 d)]) ∧ Hd (w2.heap.size ≤ g) ∧ Hd (Below w2.heap.size w2 wc))
  case first =>
    go_region_held3 (fun w' => w'.cell? ⟨w.heap.size, 2, none⟩ = some (.int .u64 (l0 s)) ∧ w'.cell? ⟨w.heap.size, 3, none⟩ = some (.int .u64 (l1 s)) ∧ w'.cell? ⟨w.heap.size, 4, none⟩ = some (.int .u64 (l2 s)) ∧ w'.cell? ⟨w.heap.size, 5, none⟩ = some (.int .u64 (l3 s)) ∧ (w'.cell? ⟨w1.heap.size, 0, none⟩ = some (.int .u64 (l0 q)) ∧ w'.cell? ⟨w1.heap.size, 1, none⟩ = some (.int .u64 (l1 q)) ∧ w'.cell? ⟨w1.heap.size, 2, none⟩ = some (.int .u64 (l2 q)) ∧ w'.cell? ⟨w1.heap.size, 3, none⟩ = some (.int .u64 (l3 q)))) (first | (simp [go_sem, World.cell?_alloc_past, *]; done) | (simp (disch := first | omega | (simp; done) | (simp; omega)) [go_sem, World.cell?_alloc_past, *]; done)) (first | (go_at_call 65; refine (wshl q lq.out _ _).mono ?_; rintro e w3 ⟨m, hm, rfl, hb⟩; obtain ⟨hc, hf⟩ := bcell hb; have hz := hb.size; (try simp at hz); (try (have hz2 := Nat.lt_of_succ_le hz)); have n0 := Hd.mk (bthen (by repeat (first | (with_reducible exact HB.out) | (with_reducible apply bdrN) | (with_reducible apply bdr) | (with_reducible apply bal))) hb); clear HB; have HB := n0; clear n0) | (go_at_call 96; refine (wsub s m HS.out (by rw [hm.out]; exact Nat.mod_lt _ (by decide)) _).mono ?_; rintro e w3 ⟨d, o, hd, rfl, hb⟩; obtain ⟨hc, hf⟩ := bcell hb; have hz := hb.size; (try simp at hz); (try (have hz2 := Nat.lt_of_succ_le hz)); have n0 := Hd.mk (bthen (by repeat (first | (with_reducible exact HB.out) | (with_reducible apply bdrN) | (with_reducible apply bdr) | (with_reducible apply bal))) hb); clear HB; have HB := n0; clear n0))
    all_goals
      go_wp2_with fail
      go_meet
      case rel =>
        refine ⟨_, d, o, rfl, rfl, ⟨by rw [← hm.out]; exact hd.out.1⟩, ⟨?_⟩, ⟨?_⟩, ⟨?_⟩⟩
        · apply Blk.same
          · exact BLKq
          · rfl
        · omega
        · exact BELq HB
  case rest =>
    obtain ⟨g, d, o, rfl, rfl, hdd, kL, hg, HBc⟩ := hcut; have kd := kL.out; have HG := hg.out; replace k0 := k0.after HBc.out; have ltk0_wc := k0.lt; replace k1 := k1.after HBc.out; have ltk1_wc := k1.lt; replace kq := kq.after HBc.out; have ltkq_wc := kq.lt; replace KB := Hd.mk (bthen KB.out HBc.out); have hzc := HBc.out.size; clear HB kL hg; clear ck0_0 fk0_0 ck0_1 fk0_1 ck0_2 fk0_2 ck0_3 fk0_3 ck0_4 fk0_4 ck0_5 fk0_5 ck0_6 fk0_6; clear ck1_0 fk1_0 ck1_1 fk1_1 ck1_2 fk1_2 ck1_3 fk1_3; clear ckq_0 fkq_0 ckq_1 fkq_1 ckq_2 fkq_2 ckq_3 fkq_3; have ck0_0 : wc.cell? ⟨w.heap.size, 0, none⟩ = some (.bool mi) := k0.cell 0; have fk0_0 := k0.free 0; have ck0_1 : wc.cell? ⟨w.heap.size, 1, none⟩ = some (.int .i64 x) := k0.cell 1; have fk0_1 := k0.free 1; have ck0_2 : wc.cell? ⟨w.heap.size, 2, none⟩ = some (.int .u64 (l0 s)) := k0.cell 2; have fk0_2 := k0.free 2; have ck0_3 : wc.cell? ⟨w.heap.size, 3, none⟩ = some (.int .u64 (l1 s)) := k0.cell 3; have fk0_3 := k0.free 3; have ck0_4 : wc.cell? ⟨w.heap.size, 4, none⟩ = some (.int .u64 (l2 s)) := k0.cell 4; have fk0_4 := k0.free 4; have ck0_5 : wc.cell? ⟨w.heap.size, 5, none⟩ = some (.int .u64 (l3 s)) := k0.cell 5; have fk0_5 := k0.free 5; have ck0_6 : wc.cell? ⟨w.heap.size, 6, none⟩ = some (.bool false) := k0.cell 6; have fk0_6 := k0.free 6; have ck1_0 : wc.cell? ⟨w.heap.size + 1, 0, none⟩ = some (.int .u64 0) := k1.cell 0; have fk1_0 := k1.free 0; have ck1_1 : wc.cell? ⟨w.heap.size + 1, 1, none⟩ = some (.int .u64 0) := k1.cell 1; have fk1_1 := k1.free 1; have ck1_2 : wc.cell? ⟨w.heap.size + 1, 2, none⟩ = some (.int .u64 0) := k1.cell 2; have fk1_2 := k1.free 2; have ck1_3 : wc.cell? ⟨w.heap.size + 1, 3, none⟩ = some (.int .u64 0) := k1.cell 3; have fk1_3 := k1.free 3; have ckq_0 : wc.cell? ⟨w1.heap.size, 0, none⟩ = some (.int .u64 (l0 q)) := kq.cell 0; have fkq_0 := kq.free 0; have ckq_1 : wc.cell? ⟨w1.heap.size, 1, none⟩ = some (.int .u64 (l1 q)) := kq.cell 1; have fkq_1 := kq.free 1; have ckq_2 : wc.cell? ⟨w1.heap.size, 2, none⟩ = some (.int .u64 (l2 q)) := kq.cell 2; have fkq_2 := kq.free 2; have ckq_3 : wc.cell? ⟨w1.heap.size, 3, none⟩ = some (.int .u64 (l3 q)) := kq.cell 3; have fkq_3 := kq.free 3; have ckd_0 : wc.cell? ⟨g, 0, none⟩ = some (.int .u64 (l0 d)) := kd.cell 0; have fkd_0 := kd.free 0; have ckd_1 : wc.cell? ⟨g, 1, none⟩ = some (.int .u64 (l1 d)) := kd.cell 1; have fkd_1 := kd.free 1; have ckd_2 : wc.cell? ⟨g, 2, none⟩ = some (.int .u64 (l2 d)) := kd.cell 2; have fkd_2 := kd.free 2; have ckd_3 : wc.cell? ⟨g, 3, none⟩ = some (.int .u64 (l3 d)) := kd.cell 3; have fkd_3 := kd.free 3; have HB := Hd.mk (Below.refl wc.heap.size wc); have LD : Hd (d < T256) := ⟨by rw [hdd.out]; exact Nat.mod_lt _ (by decide)⟩; have ld := kd.lt
    go_wp2_with fail
    go_region_with (first | (go_at_call 66; refine (wof 1 (by unfold U; omega) _).mono ?_; rintro e w3 ⟨rfl, hb⟩; have kdd : Blk w3 g 62 #[.int .u64 (l0 d), .int .u64 (l1 d), .int .u64 (l2 d), .int .u64 (l3 d)] := Blk.aft hb BLKq; have dd := kdd.four; obtain ⟨hc, hf⟩ := bcell hb; have hz := hb.size; (try simp at hz); (try (have hz2 := Nat.lt_of_succ_le hz)); have n0 := Hd.mk (bthen (by repeat (first | (with_reducible exact HB.out) | (with_reducible apply bdrN) | (with_reducible apply bdr) | (with_reducible apply bal))) hb); clear HB; have HB := n0; clear n0) | (go_at_call 65; refine (wshl (Int.toNat 1) (by unfold T256; decide) _ _).mono ?_; rintro e w3 ⟨m, hm, rfl, hb⟩; have kdd : Blk w3 g 62 #[.int .u64 (l0 d), .int .u64 (l1 d), .int .u64 (l2 d), .int .u64 (l3 d)] := Blk.aft hb BLKq; have dd := kdd.four; obtain ⟨hc, hf⟩ := bcell hb; have hz := hb.size; (try simp at hz); (try (have hz2 := Nat.lt_of_succ_le hz)); have n0 := Hd.mk (bthen (by repeat (first | (with_reducible exact HB.out) | (with_reducible apply bdrN) | (with_reducible apply bdr) | (with_reducible apply bal))) hb); clear HB; have HB := n0; clear n0) | (go_at_call 96; refine (wsub d m LD.out (by rw [hm.out]; exact Nat.mod_lt _ (by decide)) _).mono ?_; rintro e w3 ⟨z, o2, hzz, rfl, hb⟩; have kdd : Blk w3 g 62 #[.int .u64 (l0 d), .int .u64 (l1 d), .int .u64 (l2 d), .int .u64 (l3 d)] := Blk.aft hb BLKq; have dd := kdd.four; obtain ⟨hc, hf⟩ := bcell hb; have hz := hb.size; (try simp at hz); (try (have hz2 := Nat.lt_of_succ_le hz)); have n0 := Hd.mk (bthen (by repeat (first | (with_reducible exact HB.out) | (with_reducible apply bdrN) | (with_reducible apply bdr) | (with_reducible apply bal))) hb); clear HB; have HB := n0; clear n0))
    all_goals
      have HZ := Hd.mk (hD.out d q z HQ.out hdd.out (by rw [← ew.out, ← hm.out]; exact hzz.out.1))
      have hE := fun w => eq_nil w z (by rw [hzz.out.1]; exact Nat.mod_lt _ (by decide))
      have j1 : Blk w3 (w.heap.size + 1) 62 #[.int .u64 0, .int .u64 0, .int .u64 0, .int .u64 0] := BLKq; have jq : Blk w3 (w1.heap.size) 62 #[.int .u64 (l0 q), .int .u64 (l1 q), .int .u64 (l2 q), .int .u64 (l3 q)] := BLKq; have e1 := j1.four; have e2 := jq.four
      have n1 : w1.heap.size ≠ g := by omega
      have n2 : g ≠ w1.heap.size := by omega
      have n3 : w.heap.size + 1 ≠ g := by omega
      have n4 : g ≠ w.heap.size + 1 := by omega
      go_wp2_with fail
      rw [← HQ.out, ← HZ.out]; refine bodyPost_ret (v := .tuple #[.agg #[.int .u64 (l0 q), .int .u64 (l1 q), .int .u64 (l2 q), .int .u64 (l3 q)], .bool true, .bool (!decide (z = 0))]) (by simp [results, Try.results102, go_sem, *]) rfl ⟨rfl, ?_⟩; have HB := Hd.mk (bthen KB.out HB.out); exact BELq HB
theorem cut_d {s q d k : Nat} (hs : s < T256) (hq : q = s / 2 ^ (k + 1)) (hd : d = (s + T256 - q * 2 ^ (k + 1) % T256) % T256) : d = s % 2 ^ k + 2 ^ k * (s / 2 ^ k % 2) := by
  have h1 := Nat.div_add_mod' s (2 ^ (k + 1))
  rw [← hq] at h1
  rw [hd, Nat.mod_eq_of_lt (a := q * 2 ^ (k + 1)) (by omega), show s + T256 - q * 2 ^ (k + 1) = s % 2 ^ (k + 1) + T256 by omega, Nat.add_mod_right, Nat.mod_eq_of_lt (by omega), Nat.pow_succ, Nat.mod_mul]
theorem cut_half {s k : Nat} : s / 2 ^ k % 2 = 0 ∨ s / 2 ^ k % 2 = 1 := by omega
theorem r_cut (mi : Bool) (x n : Int) (s : Nat) (hs : s < T256) (w : World) (h0 : -300000 ≤ x) (h1 : x ≤ 300000) (h2 : -300000 ≤ n) (h3 : n ≤ 300000) : Calls Try.prog 102 #[.agg #[.bool mi, .int .i64 x, .int .u64 (l0 s), .int .u64 (l1 s), .int .u64 (l2 s), .int .u64 (l3 s), .bool false], .int .i64 n] w fun e w' =>
    ∃ q : Nat, Hd (q = cutQ s x n ∧ q < T256) ∧ e = .returned (.tuple #[.agg #[.int .u64 (l0 q), .int .u64 (l1 q), .int .u64 (l2 q), .int .u64 (l3 q)], .bool (cutH s x n), .bool (cutR s x n)]) ∧ Below w.heap.size w w' := by
  refine Calls.mono (R := fun e w' => e = .returned (.tuple #[.agg #[.int .u64 (l0 (cutQ s x n)), .int .u64 (l1 (cutQ s x n)), .int .u64 (l2 (cutQ s x n)), .int .u64 (l3 (cutQ s x n))], .bool (cutH s x n), .bool (cutR s x n)]) ∧ Below w.heap.size w w') ?_ (fun e w' h => ⟨_, ⟨rfl, cutQ_lt s x n hs⟩, h.1, h.2⟩)
  unfold cutQ cutH cutR
  by_cases hn : n ≤ x
  · rw [if_pos hn, if_pos hn, if_pos hn]
    by_cases he : n = x
    · subst he
      rw [show (n - n).toNat = 0 by omega, Nat.pow_zero, Nat.mul_one, Nat.mod_eq_of_lt hs]; exact r_cut_eq mi n s hs w h0 h1
    · exact r_cut_lt mi x n s hs w h0 h1 h2 (by omega)
  · rw [if_neg hn, if_neg hn, if_neg hn]
    have ek : (n - x).toNat = (n - x - 1).toNat + 1 := by omega
    by_cases h257 : x + 257 ≤ n
    · have hz : s / 2 ^ (n - x - 1).toNat = 0 := shr_far s _ hs (by omega)
      have hh : s / 2 ^ (n - x - 1).toNat % 2 = 0 := by rw [hz]
      rw [decide_eq_false (by omega)]; exact r_cut_f mi x n s hs w h0 h1 h3 h257 ⟨hh⟩
    · rcases cut_half (s := s) (k := (n - x - 1).toNat) with hh | hh
      · rw [decide_eq_false (by omega)]
        by_cases h1' : n ≤ x + 1
        · exact r_cut_1 mi x n s hs w h0 h1 h3 (by omega) h1' ⟨hh⟩
        · refine r_cut_n mi x n s hs w h0 h1 h3 (by omega) (by omega) ⟨hh⟩ ?_
          intro d q hq hd
          rw [ek] at hq hd
          have := cut_d hs hq hd
          rw [hh, Nat.mul_zero, Nat.add_zero] at this
          rw [this]
          simp
      · rw [decide_eq_true hh]
        by_cases h1' : n ≤ x + 1
        · exact r_cut_1h mi x n s hs w h0 h1 h3 (by omega) h1' ⟨hh⟩
        · refine r_cut_h mi x n s hs w h0 h1 h3 (by omega) (by omega) ⟨hh⟩ ?_
          intro d q z hq hd hz
          rw [ek] at hq hd
          have hdd := cut_d hs hq hd
          rw [hh, Nat.mul_one] at hdd
          have hp : 2 ^ (n - x - 1).toNat ≤ s := by
            rcases Nat.lt_or_ge s (2 ^ (n - x - 1).toNat) with hl | hl
            · rw [Nat.div_eq_of_lt hl] at hh; omega
            · exact hl
          have hl : s % 2 ^ (n - x - 1).toNat < 2 ^ (n - x - 1).toNat := Nat.mod_lt _ (Nat.two_pow_pos _)
          rw [show Int.toNat 1 = 1 from rfl, Nat.one_mul, Nat.mod_eq_of_lt (a := 2 ^ (n - x - 1).toNat) (by omega), hdd, show s % 2 ^ (n - x - 1).toNat + 2 ^ (n - x - 1).toNat + T256 - 2 ^ (n - x - 1).toNat = s % 2 ^ (n - x - 1).toNat + T256 by omega, Nat.add_mod_right, Nat.mod_eq_of_lt (by omega)] at hz
          rw [hz]
          simp
end Go.Proofs.Ythcgeekibomhiaa
