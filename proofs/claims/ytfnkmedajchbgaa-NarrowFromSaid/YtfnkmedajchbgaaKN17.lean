import Derived.Test.YtfnkmedajchbgaaKN12
import Derived.Test.YtfnkmedajchbgaaKNXtillerref02Shr
section
namespace Go.Proofs.Ytfnkmedajchbgaa
set_option linter.unusedVariables false
set_option linter.unusedSimpArgs false
open Go.RowKit X Go.Proofs.YtfnkmedajchbgaaW.PrintWords
theorem nok_zeros (m : Nat) : nok (List.replicate m 0) := fun d hd => by have := List.eq_of_mem_replicate hd; omega
theorem nv_zeros (m : Nat) : nv (List.replicate m 0) = 0 := by
  induction m with
  | zero => rfl
  | succ m ih => rw [List.replicate_succ]; show (0 : Int).toNat + 65536 * nv (List.replicate m 0) = 0; rw [ih]; rfl
theorem two_16 {r : Nat} (h : r < 16) : 2 ^ r ≤ 32768 ∧ 1 ≤ 2 ^ r := ⟨by have := Nat.pow_le_pow_right (n := 2) (by omega) (show r ≤ 15 by omega); omega, Nat.two_pow_pos r⟩
theorem tmod_16 (n : Nat) : Int.tmod (n : Int) 16 = ((n % 16 : Nat) : Int) := by rw [Int.tmod_eq_emod_of_nonneg (by omega)]; omega
theorem tdiv_16 {n : Nat} (h : n < 4000000000000000000) : wrap64 (Int.tdiv (n : Int) 16) = ((n / 16 : Nat) : Int) := by rw [Int.tdiv_eq_ediv_of_nonneg (by omega)]; unfold wrap64; omega
section
variable {x y B : Nat}
theorem shl_loop1 (hB : B ≤ 1000000) (hx : x < 65536 ^ B) (q p : Nat) (hq : q ≤ 1000000) (hp : p ≤ 32768) : ∀ (d i c : Nat) (out : List Int), i + d = B → nok out → out.length = q + i → c < 65536 →
    nv out + 65536 ^ (q + i) * (c + x / 65536 ^ i * p) = 65536 ^ q * (x * p) → Ev (fun k => r2_Shl.l1 k (ln x) out (p : Int) (c : Int) (i : Int)) (ln (65536 ^ q * (x * p))) := by
  have fin : ∀ (i c : Nat) (out : List Int), i ≤ B → nok out → out.length = q + i → c < 65536 → nv out + 65536 ^ (q + i) * (c + x / 65536 ^ i * p) = 65536 ^ q * (x * p) → ¬ 65536 ^ i ≤ x → Ev (fun k => r2_Shl.l1 k (ln x) out (p : Int) (c : Int) (i : Int)) (ln (65536 ^ q * (x * p))) := by
    intro i c out hi hok hlen hc hv h1
    rw [div_zero_of h1, Nat.zero_mul, Nat.add_zero] at hv
    refine Ev.step (f := fun k => (r2_trim.f k (out ++ [(c : Int)])).bind fun t => some t) (fun k => ?_) (trim_to (nok_append hok (nok_one (by omega) (by omega))) (by simp; omega) (by rw [nv_append, nv_one, hlen, Int.toNat_natCast]; exact hv))
    simp only [r2_Shl.l1]
    rw [if_neg (len_neg h1), if_pos (by omega)]
  intro d
  induction d with
  | zero =>
    intro i c out hi hok hlen hc hv
    exact fin i c out (by omega) hok hlen hc hv (by rw [show i = B by omega]; omega)
  | succ d ih =>
    intro i c out hi hok hlen hc hv
    by_cases h1 : 65536 ^ i ≤ x
    · have hx' := div_step x i
      generalize hX : x / 65536 ^ (i + 1) = X at *
      generalize hdx : x / 65536 ^ i % 65536 = dx at *
      have bx : dx < 65536 := by omega
      have bm : dx * p ≤ 65535 * 32768 := Nat.mul_le_mul (by omega) hp
      generalize hm : dx * p = m at *
      refine Ev.step (f := fun k => r2_Shl.l1 k (ln x) (out ++ [(((c + m) % 65536 : Nat) : Int)]) (p : Int) (((c + m) / 65536 : Nat) : Int) ((i + 1 : Nat) : Int)) (fun k => ?_) (ih _ _ _ (by omega) (nok_append hok (nok_one (by omega) (by omega))) (by simp [hlen]; omega) (by omega) ?_)
      · simp only [r2_Shl.l1]
        rw [if_pos (len_pos h1), if_pos (by omega), if_pos (by omega), w1 (by omega), rd_ln, hdx]
        have e : ((dx : Nat) : Int) * (p : Int) = (m : Int) := by rw [← hm]; push_cast; rfl
        have eD : ((c : Int) + (m : Int)) % 65536 = (((c + m) % 65536 : Nat) : Int) := by omega
        have eC : (((c : Int) + (m : Int)) % 4294967296) / 65536 = (((c + m) / 65536 : Nat) : Int) := by omega
        rw [e, eD, eC]
      · rw [nv_append, hlen, nv_one, Int.toNat_natCast, hX, ← hv, hx', ← Nat.add_assoc q i 1, Nat.add_assoc, pw_step]
        congr 2
        rw [Nat.add_mul, hm, Nat.mul_assoc]
        generalize X * p = Z
        omega
    · exact fin i c out (by omega) hok hlen hc hv h1
theorem shl_loop0 (hB : B ≤ 1000000) (hx : x < 65536 ^ B) (n : Nat) (hn : n ≤ 10000000) : ∀ (d j : Nat), j + d = n % 16 → Ev (fun k => r2_Shl.l0 k (ln x) (n : Int) (List.replicate (n / 16) 0) ((2 ^ j : Nat) : Int) (j : Int)) (ln (x * 2 ^ n)) := by
  intro d
  induction d with
  | zero =>
    intro j hj
    have h2 := two_16 (show n % 16 < 16 by omega)
    have := shl_loop1 hB hx (n / 16) (2 ^ (n % 16)) (by omega) h2.1 B 0 0 (List.replicate (n / 16) 0) (by omega) (nok_zeros _) (by simp) (by omega) (by rw [nv_zeros, Nat.pow_zero, Nat.div_one]; simp)
    rw [show 65536 ^ (n / 16) * (x * 2 ^ (n % 16)) = x * 2 ^ n by rw [← pow_16 n, Nat.mul_left_comm]] at this
    refine Ev.step (f := fun k => r2_Shl.l1 k (ln x) (List.replicate (n / 16) 0) ((2 ^ (n % 16) : Nat) : Int) ((0 : Nat) : Int) ((0 : Nat) : Int)) (fun k => ?_) this
    simp only [r2_Shl.l0]
    rw [tmod_16, if_neg (by omega), show j = n % 16 by omega]
    rfl
  | succ d ih =>
    intro j hj
    have h2 := two_16 (show j < 16 by omega)
    refine Ev.step (f := fun k => r2_Shl.l0 k (ln x) (n : Int) (List.replicate (n / 16) 0) ((2 ^ (j + 1) : Nat) : Int) ((j + 1 : Nat) : Int)) (fun k => ?_) (ih (j + 1) (by omega))
    simp only [r2_Shl.l0]
    rw [tmod_16, if_pos (by omega), w1 (by omega), Nat.pow_succ]
    congr 1
    omega
theorem shl_ev (hB : B ≤ 1000000) (hx : x < 65536 ^ B) (n : Nat) (hn : n ≤ 10000000) : Ev (fun k => r2_Shl.f k (ln x) (n : Int)) (ln (x * 2 ^ n)) := by
  by_cases h0 : x = 0
  · subst h0
    refine Ev.congr (f := fun _ => some _) (fun k => ?_) (Ev.now _)
    unfold r2_Shl.f
    rw [ln_zero, Nat.zero_mul, ln_zero]
    rfl
  · have h1 : 0 < (ln x).length := ln_lt_iff.2 (by rw [Nat.pow_zero]; omega)
    refine Ev.congr (f := fun k => r2_Shl.l0 k (ln x) (n : Int) (List.replicate (n / 16) 0) ((2 ^ 0 : Nat) : Int) ((0 : Nat) : Int)) (fun k => ?_) (shl_loop0 hB hx n hn (n % 16) 0 (by omega))
    unfold r2_Shl.f
    rw [if_neg (by omega), tdiv_16 (by omega), if_pos (by omega), Int.toNat_natCast, if_pos (by omega)]
    rfl
theorem shr_part {z r : Nat} (h : r < 16) : z / 2 ^ r % 65536 = z % 65536 / 2 ^ r + z / 65536 % 65536 % 2 ^ r * (65536 / 2 ^ r) := by
  have h5 : r = 0 ∨ r = 1 ∨ r = 2 ∨ r = 3 ∨ r = 4 ∨ r = 5 ∨ r = 6 ∨ r = 7 ∨ r = 8 ∨ r = 9 ∨ r = 10 ∨ r = 11 ∨ r = 12 ∨ r = 13 ∨ r = 14 ∨ r = 15 := by omega
  rcases h5 with rfl | rfl | rfl | rfl | rfl | rfl | rfl | rfl | rfl | rfl | rfl | rfl | rfl | rfl | rfl | rfl <;> simp <;> omega
theorem shr_loop2 (hB : B ≤ 1000000) (hx : x < 65536 ^ B) (n : Nat) (lost : Bool) : ∀ (d i : Nat) (out : List Int), i + d = B → n / 16 ≤ i → nok out → out.length = i - n / 16 →
    nv out + 65536 ^ (i - n / 16) * (x / 65536 ^ i / 2 ^ (n % 16)) = x / 2 ^ n → Ev (fun k => r2_Shr.l2 k (ln x) lost ((2 ^ (n % 16) : Nat) : Int) out (i : Int)) (ln (x / 2 ^ n), lost) := by
  have h2 := two_16 (show n % 16 < 16 by omega)
  have fin : ∀ (i : Nat) (out : List Int), i ≤ B → nok out → out.length = i - n / 16 → nv out + 65536 ^ (i - n / 16) * (x / 65536 ^ i / 2 ^ (n % 16)) = x / 2 ^ n → ¬ 65536 ^ i ≤ x → Ev (fun k => r2_Shr.l2 k (ln x) lost ((2 ^ (n % 16) : Nat) : Int) out (i : Int)) (ln (x / 2 ^ n), lost) := by
    intro i out hi hok hlen hv h1
    rw [div_zero_of h1, Nat.zero_div, Nat.mul_zero, Nat.add_zero] at hv
    have hT := trim_ev hok (by omega)
    rw [hv] at hT
    refine Ev.step (f := fun k => (r2_trim.f k out).bind fun t => some (t, lost)) (fun k => ?_) (Ev.bind hT (Ev.now _))
    simp only [r2_Shr.l2]
    rw [if_neg (len_neg h1)]
  intro d
  induction d with
  | zero =>
    intro i out hi hge hok hlen hv
    exact fin i out (by omega) hok hlen hv (by rw [show i = B by omega]; omega)
  | succ d ih =>
    intro i out hi hge hok hlen hv
    by_cases h1 : 65536 ^ i ≤ x
    · have hp := shr_part (z := x / 65536 ^ i) (r := n % 16) (by omega)
      have e1 : x / 65536 ^ i / 65536 = x / 65536 ^ (i + 1) := by rw [Nat.div_div_eq_div_mul, ← Nat.pow_succ]
      rw [e1] at hp
      have b1 : x / 65536 ^ i / 2 ^ (n % 16) % 65536 < 65536 := Nat.mod_lt _ (by decide)
      refine Ev.step (f := fun k => r2_Shr.l2 k (ln x) lost ((2 ^ (n % 16) : Nat) : Int) (out ++ [((x / 65536 ^ i / 2 ^ (n % 16) % 65536 : Nat) : Int)]) ((i + 1 : Nat) : Int)) (fun k => ?_) (ih _ _ (by omega) (by omega) (nok_append hok (nok_one (by omega) (by omega))) (by simp [hlen]; omega) ?_)
      · simp only [r2_Shr.l2]
        rw [if_pos (len_pos h1), if_pos (by omega), if_neg (by omega), w1 (by omega), at_ln]
        simp only [Option.bind_some]
        rw [if_pos (by omega), rd_ln]
        congr 2
        rw [hp]
        rw [hp] at b1
        have b4 : x / 65536 ^ (i + 1) % 65536 % 2 ^ (n % 16) * (65536 / 2 ^ (n % 16)) < 65537 := Nat.lt_succ_of_lt (Nat.lt_of_le_of_lt (Nat.le_add_left _ (x / 65536 ^ i % 65536 / 2 ^ (n % 16))) b1)
        have t1 : Int.tdiv ((x / 65536 ^ i % 65536 : Nat) : Int) ((2 ^ (n % 16) : Nat) : Int) = ((x / 65536 ^ i % 65536 / 2 ^ (n % 16) : Nat) : Int) := by rw [Int.tdiv_eq_ediv_of_nonneg (by omega)]; rfl
        have t2 : Int.tmod ((x / 65536 ^ (i + 1) % 65536 : Nat) : Int) ((2 ^ (n % 16) : Nat) : Int) = ((x / 65536 ^ (i + 1) % 65536 % 2 ^ (n % 16) : Nat) : Int) := by rw [Int.tmod_eq_emod_of_nonneg (by omega)]; rfl
        have t3 : Int.tdiv 65536 ((2 ^ (n % 16) : Nat) : Int) = ((65536 / 2 ^ (n % 16) : Nat) : Int) := by rw [Int.tdiv_eq_ediv_of_nonneg (by omega)]; rfl
        have wr : ∀ v : Nat, v < 65537 → IntKind.u32.wrap (v : Int) = (v : Int) := fun v hv => by rw [IntKind.wrap_u32]; omega
        have b2 : x / 65536 ^ i % 65536 / 2 ^ (n % 16) ≤ 65535 := Nat.le_trans (Nat.div_le_self _ _) (by omega)
        have b3 : 65536 / 2 ^ (n % 16) ≤ 65536 := Nat.div_le_self _ _
        rw [t1, t2, t3, wr _ (by omega), wr _ (by omega), ← Int.natCast_mul, wr _ b4, ← Int.natCast_add, wr _ (by clear t1 t2 t3; omega)]
      · rw [nv_append, hlen, nv_one, Int.toNat_natCast, show i + 1 - n / 16 = (i - n / 16) + 1 by omega, Nat.add_assoc, pw_step, ← hv]
        congr 2
        have e2 : x / 65536 ^ (i + 1) / 2 ^ (n % 16) = x / 65536 ^ i / 2 ^ (n % 16) / 65536 := by rw [← e1, Nat.div_div_eq_div_mul (x / 65536 ^ i) 65536, Nat.mul_comm 65536, ← Nat.div_div_eq_div_mul]
        rw [e2]
        omega
    · exact fin i out (by omega) hok hlen hv h1
theorem shr_loop1 (hB : B ≤ 1000000) (hx : x < 65536 ^ B) (n : Nat) (hn : n ≤ 10000000) (hin : 65536 ^ (n / 16) ≤ x) : ∀ (d j : Nat), j + d = n % 16 →
    Ev (fun k => r2_Shr.l1 k (ln x) (n : Int) (decide (x % 65536 ^ (n / 16) ≠ 0)) ((n / 16 : Nat) : Int) ((2 ^ j : Nat) : Int) (j : Int)) (ln (x / 2 ^ n), decide (x % 2 ^ n ≠ 0)) := by
  have hbd : n / 16 ≤ B := by
    have h1 := ln_lt_iff.2 hin
    have h2 := ln_length hx
    omega
  intro d
  induction d with
  | zero =>
    intro j hj
    have h2 := two_16 (show n % 16 < 16 by omega)
    have hl := shr_loop2 hB hx n (decide (x % 2 ^ n ≠ 0)) (B - n / 16) (n / 16) [] (by omega) (Nat.le_refl _) nok_nil (by simp) (by rw [Nat.sub_self, Nat.pow_zero, Nat.one_mul, Nat.div_div_eq_div_mul, pow_16]; simp [nv])
    have hd := rd_ln x (n / 16)
    have hm : x % 2 ^ n = x % 65536 ^ (n / 16) + 65536 ^ (n / 16) * (x / 65536 ^ (n / 16) % 2 ^ (n % 16)) := by rw [← pow_16 n, Nat.mod_mul]
    have hmm : x / 65536 ^ (n / 16) % 65536 % 2 ^ (n % 16) = x / 65536 ^ (n / 16) % 2 ^ (n % 16) := Nat.mod_mod_of_dvd _ (by rw [show (65536 : Nat) = 2 ^ 16 from rfl]; exact Nat.pow_dvd_pow 2 (by omega))
    have hpos := p16 (n / 16)
    refine Ev.step (f := fun k => r2_Shr.j3 k (ln x) (decide (x % 2 ^ n ≠ 0)) ((n / 16 : Nat) : Int) ((2 ^ (n % 16) : Nat) : Int)) (fun k => ?_) (Ev.step (fun k => by simp only [r2_Shr.j3]) hl)
    simp only [r2_Shr.l1]
    rw [tmod_16, if_neg (by omega), show j = n % 16 by omega]
    by_cases z : x % 65536 ^ (n / 16) = 0
    · rw [decide_eq_false (by omega), if_neg (by decide), if_pos (by omega), if_pos (len_pos hin), if_neg (by omega), hd]
      congr 1
      rw [Int.tmod_eq_emod_of_nonneg (by omega), Bool.eq_iff_iff, decide_eq_true_iff, bne_iff_ne, hm, z, Nat.zero_add, ← hmm]
      rw [show (((x / 65536 ^ (n / 16) % 65536 : Nat) : Int) % ((2 ^ (n % 16) : Nat) : Int)) = ((x / 65536 ^ (n / 16) % 65536 % 2 ^ (n % 16) : Nat) : Int) from rfl]
      generalize x / 65536 ^ (n / 16) % 65536 % 2 ^ (n % 16) = t at *
      constructor
      · intro h g
        rcases Nat.mul_eq_zero.1 g with g | g
        · omega
        · omega
      · intro h g
        have : t = 0 := by omega
        subst this
        exact h (Nat.mul_zero _)
    · rw [decide_eq_true z, if_pos rfl, decide_eq_true (by omega)]
  | succ d ih =>
    intro j hj
    have h2 := two_16 (show j < 16 by omega)
    refine Ev.step (f := fun k => r2_Shr.l1 k (ln x) (n : Int) (decide (x % 65536 ^ (n / 16) ≠ 0)) ((n / 16 : Nat) : Int) ((2 ^ (j + 1) : Nat) : Int) ((j + 1 : Nat) : Int)) (fun k => ?_) (ih (j + 1) (by omega))
    simp only [r2_Shr.l1]
    rw [tmod_16, if_pos (by omega), w1 (by omega), Nat.pow_succ]
    congr 1
    omega
theorem shr_loop0 (hB : B ≤ 1000000) (hx : x < 65536 ^ B) (n : Nat) (hn : n ≤ 10000000) : ∀ (d i : Nat), i + d = n / 16 →
    Ev (fun k => r2_Shr.l0 k (ln x) (n : Int) (decide (x % 65536 ^ i ≠ 0)) ((n / 16 : Nat) : Int) (i : Int)) (ln (x / 2 ^ n), decide (x % 2 ^ n ≠ 0)) := by
  have out : ∀ i, i ≤ n / 16 → ¬ 65536 ^ i ≤ x → Ev (fun k => r2_Shr.j1 k (ln x) (n : Int) (decide (x % 65536 ^ i ≠ 0)) ((n / 16 : Nat) : Int)) (ln (x / 2 ^ n), decide (x % 2 ^ n ≠ 0)) := by
    intro i hi h1
    have h2 : 65536 ^ i ≤ 65536 ^ (n / 16) := Nat.pow_le_pow_right (by omega) hi
    have h3 : 65536 ^ (n / 16) ≤ 2 ^ n := by rw [← pow_16 n]; exact Nat.le_mul_of_pos_right _ (Nat.two_pow_pos _)
    refine Ev.step (f := fun _ => some _) (fun k => ?_) (Ev.now _)
    simp only [r2_Shr.j1]
    have := len_neg (x := x) (i := n / 16) (by omega)
    rw [if_pos (by omega), Nat.mod_eq_of_lt (by omega), Nat.mod_eq_of_lt (by omega), Nat.div_eq_of_lt (by omega), ln_zero]
  intro d
  induction d with
  | zero =>
    intro i hi
    obtain rfl : i = n / 16 := by omega
    by_cases h1 : 65536 ^ (n / 16) ≤ x
    · refine Ev.step (f := fun k => r2_Shr.j1 k (ln x) (n : Int) (decide (x % 65536 ^ (n / 16) ≠ 0)) ((n / 16 : Nat) : Int)) (fun k => ?_) (Ev.step (f := fun k => r2_Shr.l1 k (ln x) (n : Int) (decide (x % 65536 ^ (n / 16) ≠ 0)) ((n / 16 : Nat) : Int) ((2 ^ 0 : Nat) : Int) ((0 : Nat) : Int)) (fun k => ?_) (shr_loop1 hB hx n hn h1 (n % 16) 0 (by omega)))
      · simp only [r2_Shr.l0]
        rw [if_neg (by omega)]
      · simp only [r2_Shr.j1]
        have := len_pos h1
        rw [if_neg (by omega)]
        rfl
    · refine Ev.step (fun k => ?_) (out _ (Nat.le_refl _) h1)
      simp only [r2_Shr.l0]
      rw [if_neg (by omega)]
  | succ d ih =>
    intro i hi
    by_cases h1 : 65536 ^ i ≤ x
    · have hm : x % 65536 ^ (i + 1) = x % 65536 ^ i + 65536 ^ i * (x / 65536 ^ i % 65536) := by rw [Nat.pow_succ, Nat.mod_mul]
      have hpos := p16 i
      refine Ev.step (f := fun k => r2_Shr.l0 k (ln x) (n : Int) (decide (x % 65536 ^ (i + 1) ≠ 0)) ((n / 16 : Nat) : Int) ((i + 1 : Nat) : Int)) (fun k => ?_) (ih (i + 1) (by omega))
      simp only [r2_Shr.l0]
      rw [if_pos (by omega), if_pos (len_pos h1), w1 (by omega), rd_ln]
      by_cases z : x % 65536 ^ i = 0
      · rw [decide_eq_false (by omega), if_neg (by decide), if_pos (by omega)]
        congr 1
        rw [Bool.eq_iff_iff, decide_eq_true_iff, bne_iff_ne, hm, z, Nat.zero_add]
        generalize x / 65536 ^ i % 65536 = t at *
        constructor
        · intro h g
          rcases Nat.mul_eq_zero.1 g with g | g
          · omega
          · omega
        · intro h g
          have : t = 0 := by omega
          subst this
          exact h (Nat.mul_zero _)
      · rw [decide_eq_true z, if_pos rfl, decide_eq_true (by omega)]
    · refine Ev.step (fun k => ?_) (out i (by omega) h1)
      simp only [r2_Shr.l0]
      rw [if_pos (by omega), if_neg (len_neg h1)]
theorem shr_ev (hB : B ≤ 1000000) (hx : x < 65536 ^ B) (n : Nat) (h0 : n ≠ 0) (hn : n ≤ 10000000) : Ev (fun k => r2_Shr.f k (ln x) (n : Int)) (ln (x / 2 ^ n), decide (x % 2 ^ n ≠ 0)) := by
  refine Ev.congr (f := fun k => r2_Shr.l0 k (ln x) (n : Int) (decide (x % 65536 ^ 0 ≠ 0)) ((n / 16 : Nat) : Int) ((0 : Nat) : Int)) (fun k => ?_) (shr_loop0 hB hx n hn (n / 16) 0 (by omega))
  unfold r2_Shr.f
  rw [if_neg (by omega), tdiv_16 (by omega), Nat.pow_zero, Nat.mod_one]
  rfl
end
end Go.Proofs.Ytfnkmedajchbgaa
end

