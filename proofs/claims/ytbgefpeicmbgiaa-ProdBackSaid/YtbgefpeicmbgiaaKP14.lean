import Derived.Test.YtbgefpeicmbgiaaKP4
import Derived.Test.YtbgefpeicmbgiaaKPXsumsjoin
import Derived.Test.YtbgefpeicmbgiaaKPXsumsAdd
import Derived.Test.YtbgefpeicmbgiaaKPXsumsExact
import Derived.Test.YtbgefpeicmbgiaaKPXprodFma
import Derived.Test.YtbgefpeicmbgiaaKP12
section
namespace Go.Proofs.Ytbgefpeicmbgiaa
set_option linter.unusedVariables false
set_option linter.unusedSimpArgs false
open Go.RowKit
def pV (p : Int) : Nat := (pS p).toNat * 2 ^ (pX p + 1074).toNat
theorem pE_fin {p : Int} (h : pC p < 3) : pE p < 2047 := by
  have h1 := pE_bd p
  unfold pC at h
  rcases (show pE p = 2047 ∨ pE p < 2047 by omega) with g | g
  · rw [if_pos g] at h
    split at h
    · omega
    · split at h <;> omega
  · exact g
theorem pV_eq {p : Int} (h : pC p < 3) : pE p = 0 ∧ pV p = (pF p).toNat ∨ 0 < pE p ∧ pE p < 2047 ∧ pV p = ((pF p).toNat + 4503599627370496) * 2 ^ (pE p - 1).toNat := by
  have h1 := pE_bd p
  have h2 := pF_bd p
  have h3 := pE_fin h
  have hE : ¬ pE p = 2047 := by omega
  unfold pV pX pS
  rw [if_neg hE, if_neg hE]
  by_cases g : 0 < pE p
  · right
    rw [if_pos g, if_pos g, show (pE p - 1075 + 1074).toNat = (pE p - 1).toNat by omega, show (pF p + 4503599627370496).toNat = (pF p).toNat + 4503599627370496 by omega]
    exact ⟨g, h3, rfl⟩
  · left
    rw [if_neg g, if_neg g, show (-1074 + 1074 : Int).toNat = 0 from rfl, Nat.pow_zero, Nat.mul_one]
    exact ⟨by omega, rfl⟩
theorem pA_EF (p : Int) : pA p = pE p * 4503599627370496 + pF p := by unfold pA pE pF; omega
theorem pV_mono {a b : Int} (ha : pC a < 3) (hb : pC b < 3) (h : pA a < pA b) : pV a < pV b := by
  rw [pA_EF, pA_EF] at h
  have ea := pE_bd a
  have eb := pE_bd b
  have fa := pF_bd a
  have fb := pF_bd b
  rcases pV_eq ha with ⟨a1, a2⟩ | ⟨a1, a2, a3⟩
  · rcases pV_eq hb with ⟨b1, b2⟩ | ⟨b1, b2, b3⟩
    · rw [a2, b2]; rw [a1, b1] at h; omega
    · rw [a2, b3]
      refine Nat.lt_of_lt_of_le ?_ (Nat.le_mul_of_pos_right _ (Nat.two_pow_pos _))
      omega
  · rcases pV_eq hb with ⟨b1, b2⟩ | ⟨b1, b2, b3⟩
    · exfalso; rw [b1] at h; omega
    · rw [a3, b3]
      by_cases e : pE a = pE b
      · rw [e] at h ⊢
        exact Nat.mul_lt_mul_of_pos_right (by omega) (Nat.two_pow_pos _)
      · obtain ⟨k, hk⟩ : ∃ k, (pE b - 1).toNat = (pE a - 1).toNat + (k + 1) := ⟨(pE b - 1).toNat - (pE a - 1).toNat - 1, by omega⟩
        rw [hk, Nat.pow_add, Nat.pow_succ]
        have p1 := Nat.two_pow_pos (pE a - 1).toNat
        have p2 := Nat.two_pow_pos k
        generalize 2 ^ (pE a - 1).toNat = X at *
        generalize 2 ^ k = Y at *
        refine Nat.lt_of_lt_of_le (Nat.mul_lt_mul_of_pos_right (show (pF a).toNat + 4503599627370496 < 4503599627370496 * 2 by omega) p1) ?_
        rw [show ((pF b).toNat + 4503599627370496) * (X * (Y * 2)) = ((pF b).toNat + 4503599627370496) * (Y * 2) * X by simp only [Nat.mul_assoc, Nat.mul_comm X, Nat.mul_left_comm X]]
        exact Nat.mul_le_mul_right _ (Nat.mul_le_mul (by omega) (by omega))
theorem EF_inj {a b : Int} (h : pA a = pA b) : pE a = pE b ∧ pF a = pF b := by
  rw [pA_EF, pA_EF] at h
  have ea := pE_bd a
  have eb := pE_bd b
  have fa := pF_bd a
  have fb := pF_bd b
  omega
theorem pV_same {a b : Int} (h : pA a = pA b) : pV a = pV b := by
  obtain ⟨h1, h2⟩ := EF_inj h
  unfold pV pS pX
  rw [h1, h2]
theorem pV_lt_iff {a b : Int} (ha : pC a < 3) (hb : pC b < 3) : pV a < pV b ↔ pA a < pA b := by
  constructor
  · intro h
    rcases Int.lt_trichotomy (pA a) (pA b) with g | g | g
    · exact g
    · have := pV_same g; omega
    · have := pV_mono hb ha g; omega
  · exact pV_mono ha hb
theorem pV_le_iff {a b : Int} (ha : pC a < 3) (hb : pC b < 3) : pV a ≤ pV b ↔ pA a ≤ pA b := by
  have := pV_lt_iff hb ha
  omega
theorem pV_inj {a b : Int} (ha : pC a < 3) (hb : pC b < 3) (h : pV a = pV b) : pA a = pA b := by
  have h1 := pV_le_iff ha hb
  have h2 := pV_le_iff hb ha
  have := h1.1 (by omega)
  have := h2.1 (by omega)
  omega
theorem pA_self {p : Int} (h0 : 0 ≤ p) (h1 : p < 9223372036854775808) : pA p = p := by unfold pA; omega
theorem pA_sg {p : Int} (hp : U p) : p = pA p + sg (pM p) := by
  unfold U at hp
  unfold pA pM sg
  by_cases h : 9223372036854775808 ≤ p
  · rw [decide_eq_true h, if_pos rfl]; omega
  · rw [decide_eq_false h, if_neg (by decide)]; omega
theorem sgM {A : Int} (h0 : 0 ≤ A) (h1 : A < 9223372036854775808) (b : Bool) : pM (A + sg b) = b := by
  unfold pM
  cases b
  · exact decide_eq_false (by simp only [sg]; simp; omega)
  · exact decide_eq_true (by simp only [sg]; simp; omega)
theorem sgA {A : Int} (h0 : 0 ≤ A) (h1 : A < 9223372036854775808) (b : Bool) : pA (A + sg b) = A := by
  unfold pA
  cases b <;> simp only [sg] <;> simp <;> omega
theorem sgAA (A : Int) (b : Bool) : pA (A + sg b) = pA A := by
  unfold pA
  cases b <;> simp only [sg] <;> simp <;> omega
theorem C_same {a b : Int} (h : pA a = pA b) : pC a = pC b ∧ pX a = pX b ∧ pS a = pS b := by
  obtain ⟨h1, h2⟩ := EF_inj h
  unfold pC pX pS
  rw [h1, h2]
  exact ⟨rfl, rfl, rfl⟩
theorem sgU {A : Int} (h0 : 0 ≤ A) (h1 : A < 9223372036854775808) (b : Bool) : U (A + sg b) := by have := sg_bd b; unfold U; omega
theorem fin_of {p : Int} (h0 : 0 ≤ p) (h1 : p < 9218868437227405312) : pC p < 3 := (fin_iff p (by unfold U; omega)).1 (by rw [pA_self h0 (by omega)]; exact h1)
theorem pV_zero {p : Int} (h : pC p < 3) : pV p = 0 ↔ pA p = 0 := by
  have := pA_bd p
  constructor
  · intro g
    have z : pV 0 = 0 := by decide
    have := pV_inj h (show pC 0 < 3 by decide) (by rw [g, z])
    rw [this]; decide
  · intro g
    have z : pV 0 = 0 := by decide
    rw [← z]
    exact pV_same (by rw [g]; decide)
theorem cut_fit {s : Nat} {x n : Int} (h : n ≤ x) : cutH s x n = false ∧ cutR s x n = false := by
  unfold cutH cutR
  rw [if_pos h, if_pos h]
  exact ⟨rfl, rfl⟩
theorem round_fit {x : Int} {s : Nat} (hs : s < 2 ^ 53) (hx : -1074 ≤ x) (hx2 : x ≤ 971) :
    ∃ p, 0 ≤ p ∧ p < 9218868437227405312 ∧ pC p < 3 ∧ pV p = s * 2 ^ (x + 1074).toNat ∧ ∀ mi m, rRound mi x s m = (p + sg mi, 0) := by
  by_cases z : s = 0
  · refine ⟨0, by omega, by omega, by decide, ?_, fun mi m => ?_⟩
    · rw [z, Nat.zero_mul]; decide
    · unfold rRound; rw [if_pos z, Int.zero_add]
  · have hb : blen s ≤ 53 := blen_le_iff.2 hs
    have hN : rN x s ≤ x := by rcases rN_cases x s with h | h <;> omega
    obtain ⟨c1, c2⟩ := cut_fit (s := s) hN
    have ho : rOdd s x (rN x s) = false := by unfold rOdd; rw [c1, c2]; rfl
    have hQ := cutQ_no_mod z hN
    have hl := cutQ53_lt (x := x) z
    rw [show (2 : Nat) ^ 53 = 9007199254740992 from rfl] at hl
    have hn := rN_ge x s
    have hPQ : ∀ mi m, PQ mi x s m = ((cutQ s x (rN x s) : Nat) : Int) + (rN x s + 1074) * 4503599627370496 := fun mi m => by unfold PQ; rw [uu_exact _ _ _ _ ho]; rfl
    have hF : ∀ mi m, rFlag mi x s m = 0 := fun mi m => by
      rcases rFlag_cases mi x s m with g | g
      · exact g.1
      · rw [ho] at g; exact absurd g.2 (by decide)
    have e : ∀ mi m, rRound mi x s m = (((cutQ s x (rN x s) : Nat) : Int) + (rN x s + 1074) * 4503599627370496 + sg mi, 0) := fun mi m => by
      rw [round_eq _ _ _ _ z, hPQ, hF, if_neg (by omega)]
    have e0 := e false 0
    rw [show sg false = 0 from rfl, Int.add_zero] at e0
    obtain ⟨_, _, h3, h4, h5, h6, _⟩ := sq_exact z e0
    refine ⟨_, by omega, by omega, h4, ?_, e⟩
    unfold pV
    rw [h5, h6, hQ, Nat.mul_assoc, ← Nat.pow_add]
    congr 2
    omega
end Go.Proofs.Ytbgefpeicmbgiaa
end
section
namespace Go.Proofs.Ytbgefpeicmbgiaa
set_option linter.unusedVariables false
set_option linter.unusedSimpArgs false
open Go.RowKit
def sSum (mx : Bool) (ex : Int) (sx : Nat) (my : Bool) (ey : Int) (sy : Nat) (m : Int) : Bool × Int × Nat :=
  if sx = 0 then (if sy = 0 then (if mx = my then mx else decide (m = 4), ex, 0) else (my, ey, sy))
  else if sy = 0 then (mx, ex, sx)
  else if ey ≤ ex then
    (if mx = my then (my, ey, sx * 2 ^ (ex - ey).toNat + sy) else if sx * 2 ^ (ex - ey).toNat = sy then (decide (m = 4), ey, 0) else if sy < sx * 2 ^ (ex - ey).toNat then (mx, ey, sx * 2 ^ (ex - ey).toNat - sy) else (my, ey, sy - sx * 2 ^ (ex - ey).toNat))
  else
    (if mx = my then (mx, ex, sy * 2 ^ (ey - ex).toNat + sx) else if sy * 2 ^ (ey - ex).toNat = sx then (decide (m = 4), ex, 0) else if sx < sy * 2 ^ (ey - ex).toNat then (my, ex, sy * 2 ^ (ey - ex).toNat - sx) else (mx, ex, sx - sy * 2 ^ (ey - ex).toNat))
def rNum (mi : Bool) (e : Int) (s : Nat) (o : Bool) (m : Int) : Int × Int := rRound mi (rX o e) (rS o s) m
theorem rNum_false (mi : Bool) (e : Int) (s : Nat) (m : Int) : rNum mi e s false m = rRound mi e s m := rfl
theorem rNum_cut (mi : Bool) (e : Int) (s sh : Nat) (m : Int) (hq : 2 ^ 54 ≤ s / 2 ^ sh) : rNum mi (e + sh) (s / 2 ^ sh) (decide (s % 2 ^ sh ≠ 0)) m = rRound mi e s m := by
  by_cases z : s % 2 ^ sh = 0
  · rw [decide_eq_false (by omega), rNum_false]
    have h := round_scale mi (e + sh) (s / 2 ^ sh) sh m
    rw [show e + (sh : Int) - (sh : Int) = e by omega, Nat.div_mul_cancel (Nat.dvd_of_mod_eq_zero z)] at h
    exact h.symm
  · obtain ⟨j, hj⟩ : ∃ j, sh = j + 1 := by
      cases sh with
      | zero => rw [Nat.pow_zero, Nat.mod_one] at z; exact absurd rfl z
      | succ j => exact ⟨j, rfl⟩
    subst hj
    have h := round_sticky mi e s j m hq
    rw [if_pos z] at h
    rw [decide_eq_true z, ← h]
    unfold rNum rX rS
    rw [if_pos rfl, if_pos rfl, show e + ((j + 1 : Nat) : Int) - 1 = e + (j : Int) by omega]
theorem beside_add {S y sh : Nat} : (S * 2 ^ sh + y) / 2 ^ sh = S + y / 2 ^ sh ∧ (S * 2 ^ sh + y) % 2 ^ sh = y % 2 ^ sh := by
  have hp := Nat.two_pow_pos sh
  refine ⟨?_, ?_⟩
  · rw [Nat.add_comm, Nat.add_mul_div_right _ _ hp, Nat.add_comm]
  · rw [Nat.add_comm, Nat.add_mul_mod_self_right]
theorem beside_sub {S y sh : Nat} (h : y / 2 ^ sh < S) : (S * 2 ^ sh - y) / 2 ^ sh = S - y / 2 ^ sh - (if y % 2 ^ sh ≠ 0 then 1 else 0) ∧ ((S * 2 ^ sh - y) % 2 ^ sh ≠ 0 ↔ y % 2 ^ sh ≠ 0) := by
  have hp := Nat.two_pow_pos sh
  have hdm := Nat.div_add_mod y (2 ^ sh)
  have hml := Nat.mod_lt y hp
  generalize hq : y / 2 ^ sh = q at *
  generalize hr : y % 2 ^ sh = r at *
  generalize hP : 2 ^ sh = P at *
  obtain ⟨T, hT⟩ : ∃ T, S = q + 1 + T := ⟨S - q - 1, by omega⟩
  have e1 : S * P = P * q + P + T * P := by rw [hT, Nat.add_mul, Nat.add_mul, Nat.one_mul, Nat.mul_comm q P]
  by_cases z : r = 0
  · subst z
    have e : S * P - y = (T + 1) * P := by rw [Nat.add_mul, Nat.one_mul]; omega
    rw [e, Nat.mul_div_cancel _ hp, Nat.mul_mod_left, if_neg (by omega)]
    exact ⟨by omega, Iff.rfl⟩
  · have e : S * P - y = T * P + (P - r) := by omega
    rw [e, if_pos z]
    refine ⟨?_, ?_⟩
    · rw [Nat.add_comm, Nat.add_mul_div_right _ _ hp, Nat.div_eq_of_lt (by omega)]; omega
    · rw [Nat.add_comm, Nat.add_mul_mod_self_right, Nat.mod_eq_of_lt (by omega)]
      omega
end Go.Proofs.Ytbgefpeicmbgiaa
end
section
namespace Go.Proofs.Ytbgefpeicmbgiaa
set_option linter.unusedVariables false
set_option linter.unusedSimpArgs false
open Go.RowKit X
theorem nil_w {r : Nat} (h : r < T256) : (l0 r == 0 && (l1 r == 0 && (l2 r == 0 && l3 r == 0))) = decide (r = 0) := by
  have := l_eq_zero h
  rw [Bool.eq_iff_iff]
  simp only [Bool.and_eq_true, beq_iff_eq, decide_eq_true_eq]
  rw [← this]
def NumOut (mi : Bool) (e : Int) (s : Nat) (o : Bool) (t : Bool × Int × Nat) : Prop := s < 2 ^ 254 ∧ -131072 ≤ e ∧ e ≤ 131072 ∧ ∀ m, rNum mi e s o m = rRound t.1 t.2.1 t.2.2 m
theorem numOut_self {mi : Bool} {e : Int} {s : Nat} (hs : s < 2 ^ 254) (h0 : -131072 ≤ e) (h1 : e ≤ 131072) : NumOut mi e s false (mi, e, s) := ⟨hs, h0, h1, fun _ => rfl⟩
theorem lt_T {s : Nat} (h : s < 2 ^ 254) : s < T256 := by rw [T256_eq]; exact Nat.lt_trans h (by decide)
def dSum (mx : Bool) (A : Nat) (my : Bool) (e : Int) (sy : Nat) (m : Int) : Bool × Int × Nat :=
  if mx = my then (my, e, A + sy) else if A = sy then (decide (m = 4), e, 0) else if sy < A then (mx, e, A - sy) else (my, e, sy - A)
theorem aligned_eq {mx my : Bool} {ex ey : Int} {sx sy A : Nat} (m : Int) (hA : sx * 2 ^ (ex - ey).toNat = A) (hA2 : A < 2 ^ 250) (hx : sx < T256) (hy : sy < 2 ^ 128) (h0 : -5000 ≤ ex) (h1 : ex ≤ 5000) (g0 : -5000 ≤ ey) (g1 : ey ≤ 5000) :
    ∃ mi e s, NumOut mi e s false (dSum mx A my ey sy m) ∧ sums_aligned.f mx ex (l0 sx) (l1 sx) (l2 sx) (l3 sx) false my ey (l0 sy) (l1 sy) (l2 sy) (l3 sy) false m = some (mi, e, l0 s, l1 s, l2 s, l3 s, false) := by
  have hyT : sy < T256 := by rw [T256_eq]; exact Nat.lt_trans hy (by decide)
  have hAT : A < T256 := by rw [T256_eq]; exact Nat.lt_trans hA2 (by decide)
  have hsum : A + sy < 2 ^ 254 := by
    have h250 : (2 : Nat) ^ 250 + 2 ^ 128 ≤ 2 ^ 254 := by decide
    omega
  have eS := wide_Shl.eq hx (ex - ey)
  rw [hA, Nat.mod_eq_of_lt hAT] at eS
  have ew : wrap64 (ex - ey) = ex - ey := by unfold wrap64; omega
  unfold sums_aligned.f dSum
  rw [ew, eS]
  simp only [Option.bind_some]
  by_cases c : mx = my
  · have eA := wide_Add.eq hAT hyT
    rw [Nat.mod_eq_of_lt (lt_T hsum)] at eA
    have c1 : (mx == my) = true := by rw [c]; simp
    rw [if_pos c1, eA, if_pos c]
    exact ⟨_, _, A + sy, numOut_self hsum (by omega) (by omega), rfl⟩
  · have eC := wide_Cmp.eq hAT hyT
    have c1 : ¬ (mx == my) = true := by simpa using c
    rw [if_neg c1, eC, if_neg c]
    simp only [Option.bind_some]
    by_cases z : A = sy
    · have : cmpI A sy = 0 := by unfold cmpI; rw [z]; simp
      rw [if_pos z, this, if_pos rfl]
      unfold sums_nought.f
      rw [if_neg (by decide)]
      refine ⟨(m == 4), 0, 0, ⟨by decide, by omega, by omega, fun m' => ?_⟩, ?_⟩
      · unfold rNum rRound
        rw [if_pos (by rfl), if_pos rfl]
        congr 2
      · simp only [Option.bind_some]
        obtain ⟨n0, n1, n2, n3⟩ := l_nil
        rw [n0, n1, n2, n3]
    · by_cases g : sy < A
      · have : cmpI A sy = 1 := by unfold cmpI; rw [if_neg (by omega), if_pos (by omega)]
        have eB := wide_Sub.eq hAT hyT
        have es : (A + T256 - sy) % T256 = A - sy := by
          rw [show A + T256 - sy = A - sy + T256 by omega, Nat.add_mod_right]
          exact Nat.mod_eq_of_lt (by omega)
        rw [es] at eB
        rw [if_neg z, if_pos g, this, if_neg (show ¬ (1 : Int) = 0 by decide), if_pos rfl, eB]
        have hl : A - sy < 2 ^ 254 := by omega
        exact ⟨_, _, A - sy, numOut_self hl (by omega) (by omega), rfl⟩
      · have : cmpI A sy = -1 := by unfold cmpI; rw [if_pos (by omega)]
        have eB := wide_Sub.eq hyT hAT
        have es : (sy + T256 - A) % T256 = sy - A := by
          rw [show sy + T256 - A = sy - A + T256 by omega, Nat.add_mod_right]
          exact Nat.mod_eq_of_lt (by omega)
        rw [es] at eB
        rw [if_neg z, if_neg g, this, if_neg (show ¬ (-1 : Int) = 0 by decide), if_neg (show ¬ (-1 : Int) = 1 by decide), eB]
        have hl : sy - A < 2 ^ 254 := by omega
        exact ⟨_, _, sy - A, numOut_self hl (by omega) (by omega), rfl⟩
theorem beside_eq {mx my : Bool} {ex ey : Int} {sx sy sh by_ : Nat} (m : Int) (hb : blen sx + by_ = 250) (hsh : ex - (by_ : Int) - ey = (sh : Int)) (hx0 : sx ≠ 0) (hx : sx < T256) (hy : sy < 2 ^ 128) (h0 : -5000 ≤ ex) (h1 : ex ≤ 5000) (g0 : -5000 ≤ ey) (g1 : ey ≤ 5000) :
    ∃ mi e s o, NumOut mi e s o (dSum mx (sx * 2 ^ (ex - ey).toNat) my ey sy m) ∧ sums_beside.f mx ex (l0 sx) (l1 sx) (l2 sx) (l3 sx) false my ey (l0 sy) (l1 sy) (l2 sy) (l3 sy) false = some (mi, e, l0 s, l1 s, l2 s, l3 s, o) := by
  have hyT : sy < T256 := by rw [T256_eq]; exact Nat.lt_trans hy (by decide)
  obtain ⟨S, hS⟩ : ∃ S, sx * 2 ^ by_ = S := ⟨_, rfl⟩
  have hbS : blen S = 250 := by rw [← hS, blen_mul_pow hx0, hb]
  have hS1 : S < 2 ^ 250 := blen_le_iff.1 (by omega)
  have hS2 : 2 ^ 249 ≤ S := by
    have := blen_le (n := S) (by intro z; rw [z, blen_zero] at hbS; omega)
    rw [hbS] at this
    exact this
  have hA : sx * 2 ^ (ex - ey).toNat = S * 2 ^ sh := by
    rw [← hS, Nat.mul_assoc, ← Nat.pow_add]
    congr 2
    omega
  have hST : S < T256 := by rw [T256_eq]; exact Nat.lt_trans hS1 (by decide)
  obtain ⟨q, hq⟩ : ∃ q, sy / 2 ^ sh = q := ⟨_, rfl⟩
  have hq2 : q < 2 ^ 128 := by rw [← hq]; exact Nat.lt_of_le_of_lt (Nat.div_le_self _ _) hy
  have hqT : q < T256 := by rw [T256_eq]; exact Nat.lt_trans hq2 (by decide)
  have k1 : (2 : Nat) ^ 250 + 2 ^ 128 ≤ 2 ^ 254 := by decide
  have k2 : (2 : Nat) ^ 54 + 2 ^ 128 + 1 ≤ 2 ^ 249 := by decide
  have eL := wide_Len.eq hx
  have w1 : wrap64 (250 - (blen sx : Int)) = (by_ : Int) := by unfold wrap64; omega
  have w2 : wrap64 (ex - (by_ : Int)) = ex - by_ := by unfold wrap64; omega
  have w3 : wrap64 (ex - (by_ : Int) - ey) = (sh : Int) := by unfold wrap64; omega
  have eR := wide_Shr.eq hyT (sh : Int)
  have eS := wide_Shl.eq hx (by_ : Int)
  rw [show ((sh : Int)).toNat = sh from rfl, hq] at eR
  rw [show ((by_ : Int)).toNat = by_ from rfl, hS, Nat.mod_eq_of_lt hST] at eS
  have he0 : -131072 ≤ ex - (by_ : Int) ∧ ex - (by_ : Int) ≤ 131072 := by omega
  have hee : ey + (sh : Int) = ex - by_ := by omega
  rw [hA]
  unfold sums_beside.f dSum
  rw [eL]
  simp only [Option.bind_some]
  rw [w1, w2, w3, eR]
  simp only [Option.bind_some]
  rw [eS]
  simp only [Option.bind_some]
  by_cases c : mx = my
  · have hl : S + q < 2 ^ 254 := by omega
    have eA := wide_Add.eq hST hqT
    rw [Nat.mod_eq_of_lt (lt_T hl)] at eA
    obtain ⟨b1, b2⟩ := beside_add (S := S) (y := sy) (sh := sh)
    rw [hq] at b1
    have c1 : (mx == my) = true := by rw [c]; simp
    rw [if_pos c1, eA, if_pos c]
    refine ⟨mx, _, S + q, _, ⟨hl, he0.1, he0.2, fun m' => ?_⟩, rfl⟩
    have h := rNum_cut my ey (S * 2 ^ sh + sy) sh m' (by rw [b1]; omega)
    rw [b1, b2, hee] at h
    rw [c]
    exact h
  · have hlt : q < S := by omega
    obtain ⟨b1, b2⟩ := beside_sub (S := S) (y := sy) (sh := sh) (by rw [hq]; exact hlt)
    rw [hq] at b1
    have hAy : sy < S * 2 ^ sh := by
      have h3 := Nat.lt_of_lt_of_le (Nat.lt_of_lt_of_le hy (show 2 ^ 128 ≤ S by omega)) (Nat.le_mul_of_pos_right S (Nat.two_pow_pos sh))
      exact h3
    have eB := wide_Sub.eq hST hqT
    have es : (S + T256 - q) % T256 = S - q := by
      rw [show S + T256 - q = S - q + T256 by omega, Nat.add_mod_right]
      exact Nat.mod_eq_of_lt (by omega)
    rw [es] at eB
    have c1 : ¬ (mx == my) = true := by simpa using c
    rw [if_neg c1, eB, if_neg c, if_neg (by omega), if_pos hAy]
    simp only [Option.bind_some]
    have key : ∀ m', rNum mx (ex - by_) (S - q - (if sy % 2 ^ sh ≠ 0 then 1 else 0)) (decide (sy % 2 ^ sh ≠ 0)) m' = rRound mx ey (S * 2 ^ sh - sy) m' := fun m' => by
      have h := rNum_cut mx ey (S * 2 ^ sh - sy) sh m' (by rw [b1]; split <;> omega)
      have e : decide ((S * 2 ^ sh - sy) % 2 ^ sh ≠ 0) = decide (sy % 2 ^ sh ≠ 0) := by rw [Bool.eq_iff_iff, decide_eq_true_iff, decide_eq_true_iff]; exact b2
      rw [b1, e, hee] at h
      exact h
    by_cases z : sy % 2 ^ sh = 0
    · rw [decide_eq_false (by omega), if_neg (by decide)]
      rw [decide_eq_false (by omega), if_neg (by omega), Nat.sub_zero] at key
      have hl : S - q < 2 ^ 254 := by omega
      exact ⟨mx, _, S - q, _, ⟨hl, he0.1, he0.2, key⟩, rfl⟩
    · rw [decide_eq_true z, if_pos rfl]
      rw [decide_eq_true z, if_pos z] at key
      have hl : S - q - 1 < 2 ^ 254 := by omega
      have hqS : S - q < T256 := by omega
      have eO := wide_Of.eq 1 (by decide)
      have eD := wide_Sub.eq hqS (show Int.toNat 1 < T256 by decide)
      have es2 : (S - q + T256 - Int.toNat 1) % T256 = S - q - 1 := by
        rw [show Int.toNat 1 = 1 from rfl, show S - q + T256 - 1 = S - q - 1 + T256 by omega, Nat.add_mod_right]
        exact Nat.mod_eq_of_lt (by omega)
      rw [es2] at eD
      rw [eO]
      simp only [Option.bind_some]
      rw [eD]
      simp only [Option.bind_some]
      exact ⟨mx, _, S - q - 1, _, ⟨hl, he0.1, he0.2, key⟩, rfl⟩
theorem join_j1 (k : Nat) {mx my : Bool} {ex ey : Int} {sx sy : Nat} (m : Int) (hle : ey ≤ ex) (hx0 : sx ≠ 0) (hx : sx < 2 ^ 128) (hy : sy < 2 ^ 128) (h0 : -5000 ≤ ex) (h1 : ex ≤ 5000) (g0 : -5000 ≤ ey) (g1 : ey ≤ 5000) :
    ∃ mi e s o, NumOut mi e s o (dSum mx (sx * 2 ^ (ex - ey).toNat) my ey sy m) ∧ sums_join.j1 (k + 1) m mx ex (l0 sx) (l1 sx) (l2 sx) (l3 sx) false my ey (l0 sy) (l1 sy) (l2 sy) (l3 sy) false = some (mi, e, l0 s, l1 s, l2 s, l3 s, o) := by
  have hxT : sx < T256 := by rw [T256_eq]; exact Nat.lt_trans hx (by decide)
  have hb : blen sx ≤ 128 := blen_le_iff.2 hx
  have eL := wide_Len.eq hxT
  have ew : wrap64 (wrap64 ((blen sx : Int) + ex) - ey) = (blen sx : Int) + ex - ey := by unfold wrap64; omega
  simp only [sums_join.j1]
  rw [eL, Option.bind_some, ew]
  by_cases c : (blen sx : Int) + ex - ey < 250
  · have hA2 : sx * 2 ^ (ex - ey).toNat < 2 ^ 250 := by
      refine Nat.lt_of_lt_of_le (Nat.mul_lt_mul_of_pos_right (blen_lt sx) (Nat.two_pow_pos _)) ?_
      rw [← Nat.pow_add]
      exact Nat.pow_le_pow_right (by omega) (by omega)
    obtain ⟨mi, e, s, hN, hE⟩ := aligned_eq (mx := mx) (my := my) (sx := sx) (sy := sy) m rfl hA2 hxT hy h0 h1 g0 g1
    rw [if_pos c, hE]
    exact ⟨mi, e, s, false, hN, rfl⟩
  · obtain ⟨b, hbb⟩ : ∃ b, blen sx + b = 250 := ⟨250 - blen sx, by omega⟩
    obtain ⟨sh, hsh⟩ : ∃ sh : Nat, ex - (b : Int) - ey = sh := ⟨(ex - (b : Int) - ey).toNat, by omega⟩
    obtain ⟨mi, e, s, o, hN, hE⟩ := beside_eq (mx := mx) (my := my) (sx := sx) (sy := sy) m hbb hsh hx0 hxT hy h0 h1 g0 g1
    rw [if_neg c, hE]
    exact ⟨mi, e, s, o, hN, rfl⟩
theorem join_eq (k : Nat) {mx my : Bool} {ex ey : Int} {sx sy : Nat} (m : Int) (hx : sx < 2 ^ 128) (hy : sy < 2 ^ 128) (h0 : -5000 ≤ ex) (h1 : ex ≤ 5000) (g0 : -5000 ≤ ey) (g1 : ey ≤ 5000) :
    ∃ mi e s o, NumOut mi e s o (sSum mx ex sx my ey sy m) ∧ sums_join.f (k + 2) mx ex (l0 sx) (l1 sx) (l2 sx) (l3 sx) false my ey (l0 sy) (l1 sy) (l2 sy) (l3 sy) false m = some (mi, e, l0 s, l1 s, l2 s, l3 s, o) := by
  have hxT : sx < T256 := by rw [T256_eq]; exact Nat.lt_trans hx (by decide)
  have hyT : sy < T256 := by rw [T256_eq]; exact Nat.lt_trans hy (by decide)
  have nx := nil_w hxT
  have ny := nil_w hyT
  unfold sums_join.f
  rw [nx, ny]
  by_cases zx : sx = 0
  · by_cases zy : sy = 0
    · rw [decide_eq_true zx, decide_eq_true zy, if_pos rfl]
      simp only [sums_join.j0]
      rw [if_pos trivial]
      unfold sums_nought.f sSum
      rw [if_pos zx, if_pos zy]
      have z0 : ∀ c : Bool, NumOut c 0 0 false (c, ex, 0) := fun c => ⟨by decide, by omega, by omega, fun m' => by unfold rNum rRound; rw [if_pos (by rfl), if_pos rfl]⟩
      obtain ⟨n0, n1, n2, n3⟩ := l_nil
      by_cases c : mx = my
      · have c1 : (mx == my) = true := by rw [c]; simp
        rw [if_pos c1, if_pos c]
        refine ⟨mx, 0, 0, false, z0 mx, ?_⟩
        rw [n0, n1, n2, n3]
        rfl
      · have c1 : ¬ (mx == my) = true := by simpa using c
        rw [if_neg c1, if_neg c]
        refine ⟨decide (m = 4), 0, 0, false, z0 _, ?_⟩
        rw [n0, n1, n2, n3, show (m == 4) = decide (m = 4) by rw [Bool.eq_iff_iff]; simp]
        rfl
    · rw [decide_eq_true zx, decide_eq_false zy, if_pos rfl]
      simp only [sums_join.j0]
      rw [if_neg (by decide), nx, decide_eq_true zx, if_pos rfl]
      unfold sSum
      rw [if_pos zx, if_neg zy]
      exact ⟨_, _, sy, _, numOut_self (Nat.lt_trans hy (by decide)) (by omega) (by omega), rfl⟩
  · rw [decide_eq_false zx, if_neg (by decide)]
    simp only [sums_join.j0]
    rw [if_neg (by decide), nx, ny, decide_eq_false zx, if_neg (by decide)]
    by_cases zy : sy = 0
    · rw [decide_eq_true zy, if_pos rfl]
      unfold sSum
      rw [if_neg zx, if_pos zy]
      exact ⟨_, _, sx, _, numOut_self (Nat.lt_trans hx (by decide)) (by omega) (by omega), rfl⟩
    · rw [decide_eq_false zy, if_neg (by decide)]
      unfold sSum
      rw [if_neg zx, if_neg zy]
      by_cases c : ex < ey
      · obtain ⟨mi, e, s, o, hN, hE⟩ := join_j1 k (mx := my) (my := mx) (ex := ey) (ey := ex) (sx := sy) (sy := sx) m (by omega) zy hy hx g0 g1 h0 h1
        have ed : dSum my (sy * 2 ^ (ey - ex).toNat) mx ex sx m = (if mx = my then (mx, ex, sy * 2 ^ (ey - ex).toNat + sx) else if sy * 2 ^ (ey - ex).toNat = sx then (decide (m = 4), ex, 0) else if sx < sy * 2 ^ (ey - ex).toNat then (my, ex, sy * 2 ^ (ey - ex).toNat - sx) else (mx, ex, sx - sy * 2 ^ (ey - ex).toNat)) := by
          unfold dSum
          by_cases g : mx = my
          · rw [if_pos g, if_pos g.symm]
          · rw [if_neg g, if_neg (fun h => g h.symm)]
        rw [if_pos c, if_neg (by omega), ← ed]
        exact ⟨mi, e, s, o, hN, hE⟩
      · obtain ⟨mi, e, s, o, hN, hE⟩ := join_j1 k (mx := mx) (my := my) (ex := ex) (ey := ey) (sx := sx) (sy := sy) m (by omega) zx hx hy h0 h1 g0 g1
        rw [if_neg c, if_pos (by omega)]
        exact ⟨mi, e, s, o, hN, hE⟩
end Go.Proofs.Ytbgefpeicmbgiaa
end
section
namespace Go.Proofs.Ytbgefpeicmbgiaa
set_option linter.unusedVariables false
set_option linter.unusedSimpArgs false
open Go.RowKit X Go.Proofs.YtbgefpeicmbgiaaW.PrintWords
def qSumR (mx : Bool) (ex : Int) (sx : Nat) (my : Bool) (ey : Int) (sy : Nat) (m : Int) : Int × Int := rRound (sSum mx ex sx my ey sy m).1 (sSum mx ex sx my ey sy m).2.1 (sSum mx ex sx my ey sy m).2.2 m
def qAdd (a b m : Int) : Int × Int := if 3 < pC a ∨ 3 < pC b then qNone a b else if pC a = 3 ∧ pC b = 3 ∧ a ≠ b then (9221120237041090560, 1) else if pC a = 3 then (a, 0) else if pC b = 3 then (b, 0) else qSumR (pM a) (pX a) (pS a).toNat (pM b) (pX b) (pS b).toNat m
def qFma (a b c m : Int) : Int × Int :=
  if bad a b = true then (9221120237041090560, 1)
  else if 3 < pC a ∨ 3 < pC b ∨ 3 < pC c then (9221120237041090560, if pC a = 5 ∨ pC b = 5 ∨ pC c = 5 then 1 else 0)
  else if pC a = 3 ∨ pC b = 3 then (if pC c = 3 ∧ c ≠ 9218868437227405312 + sg (qMi a b) then (9221120237041090560, 1) else (9218868437227405312 + sg (qMi a b), 0))
  else if pC c = 3 then (c, 0)
  else qSumR (qMi a b) (pX a + pX b) ((pS a).toNat * (pS b).toNat) (pM c) (pX c) (pS c).toNat m
theorem pS_128 (a : Int) : (pS a).toNat < 2 ^ 128 := by
  have := pS_bd a
  exact Nat.lt_trans (show (pS a).toNat < 2 ^ 53 by rw [show (2 : Nat) ^ 53 = 9007199254740992 from rfl]; omega) (by decide)
theorem round_out {mi : Bool} {e : Int} {s : Nat} {o : Bool} {t : Bool × Int × Nat} (h : NumOut mi e s o t) (m : Int) : rnd_Round.f mi e (l0 s) (l1 s) (l2 s) (l3 s) o m = some (rRound t.1 t.2.1 t.2.2 m) := by
  obtain ⟨h1, h2, h3, h4⟩ := h
  rw [rnd_Round.eq (lt_T h1) mi e o m h1 h2 h3, ← h4 m]
  rfl
theorem snone_eq {a b : Int} (ha : U a) (hb : U b) (k : Nat) : sums_none.f (k + 3) [a, b] = some (qNone a b) := by
  have r0 : rd [a, b] 0 = a := rfl
  have r1 : rd [a, b] 1 = b := rfl
  have ll : (([a, b] : List Int).length : Int) = 2 := rfl
  have w0 : wrap64 (0 + 1) = 1 := by unfold wrap64; omega
  have w1 : wrap64 (1 + 1) = 2 := by unfold wrap64; omega
  unfold sums_none.f qNone
  by_cases h : pC a = 5
  · simp only [sums_none.l0]
    rw [ll, if_pos (by decide), if_pos (by decide), if_pos (by decide), r0, pat_Class.eq a (inU_of ha), Option.bind_some, if_pos h, if_pos (.inl h)]
  · simp only [sums_none.l0]
    rw [ll, if_pos (by decide), if_pos (by decide), if_pos (by decide), r0, pat_Class.eq a (inU_of ha), Option.bind_some, if_neg h, w0, if_pos (by decide), if_pos (by decide), if_pos (by decide), r1, pat_Class.eq b (inU_of hb), Option.bind_some]
    by_cases g : pC b = 5
    · rw [if_pos g, if_pos (.inr g)]
    · rw [if_neg g, w1, if_neg (by decide), if_neg (fun z => z.elim h g)]
theorem loud3_eq {a b c : Int} (ha : U a) (hb : U b) (hc : U c) (k : Nat) : prod_loud.f (k + 4) [a, b, c] = some (if pC a = 5 ∨ pC b = 5 ∨ pC c = 5 then 1 else 0) := by
  have r0 : rd [a, b, c] 0 = a := rfl
  have r1 : rd [a, b, c] 1 = b := rfl
  have r2 : rd [a, b, c] 2 = c := rfl
  have ll : (([a, b, c] : List Int).length : Int) = 3 := rfl
  have w0 : wrap64 (0 + 1) = 1 := by unfold wrap64; omega
  have w1 : wrap64 (1 + 1) = 2 := by unfold wrap64; omega
  have w2 : wrap64 (2 + 1) = 3 := by unfold wrap64; omega
  unfold prod_loud.f
  by_cases h : pC a = 5
  · simp only [prod_loud.l0]
    rw [ll, if_pos (by decide), if_pos (by decide), if_pos (by decide), r0, pat_Class.eq a (inU_of ha), Option.bind_some, if_pos h, if_pos (.inl h)]
  · by_cases g : pC b = 5
    · simp only [prod_loud.l0]
      rw [ll, if_pos (by decide), if_pos (by decide), if_pos (by decide), r0, pat_Class.eq a (inU_of ha), Option.bind_some, if_neg h, w0, if_pos (by decide), if_pos (by decide), if_pos (by decide), r1, pat_Class.eq b (inU_of hb), Option.bind_some, if_pos g, if_pos (.inr (.inl g))]
    · simp only [prod_loud.l0]
      rw [ll, if_pos (by decide), if_pos (by decide), if_pos (by decide), r0, pat_Class.eq a (inU_of ha), Option.bind_some, if_neg h, w0, if_pos (by decide), if_pos (by decide), if_pos (by decide), r1, pat_Class.eq b (inU_of hb), Option.bind_some, if_neg g, w1, if_pos (by decide), if_pos (by decide), if_pos (by decide), r2, pat_Class.eq c (inU_of hc), Option.bind_some]
      by_cases z : pC c = 5
      · rw [if_pos z, if_pos (.inr (.inr z))]
      · rw [if_neg z, w2, if_neg (by decide), if_neg (by rintro (q | q | q) <;> contradiction)]
theorem add_spec (k : Nat) {a b : Int} (m : Int) (ha : U a) (hb : U b) : sums_Add.f (k + 6) a b m = some (qAdd a b m) := by
  have ca := pC_bd a
  have cb := pC_bd b
  have nanj : 3 < pC a ∨ 3 < pC b → sums_Add.j0 (k + 6) a b m true = some (qAdd a b m) := fun h => by
    simp only [sums_Add.j0]
    rw [if_pos trivial, snone_eq ha hb (k + 2)]
    unfold qAdd
    rw [if_pos h]
    rfl
  unfold sums_Add.f
  rw [pat_IsNaN.eq a (inU_of ha), Option.bind_some]
  by_cases n1 : 3 < pC a
  · rw [decide_eq_true n1, if_pos rfl]
    exact nanj (.inl n1)
  · rw [decide_eq_false n1, if_neg (by decide), pat_IsNaN.eq b (inU_of hb), Option.bind_some]
    by_cases n2 : 3 < pC b
    · rw [decide_eq_true n2]
      exact nanj (.inr n2)
    · rw [decide_eq_false n2]
      unfold qAdd
      rw [if_neg (fun h => h.elim n1 n2)]
      simp only [sums_Add.j0]
      rw [if_neg (by decide), pat_Class.eq a (inU_of ha), Option.bind_some]
      by_cases i1 : pC a = 3
      · rw [if_pos i1, pat_Class.eq b (inU_of hb), Option.bind_some]
        by_cases i2 : pC b = 3
        · rw [if_pos i2]
          by_cases e : a = b
          · rw [if_neg (fun h => h.2.2 e), if_pos i1, show (a != b) = false by simp [e]]
            simp only [sums_Add.j1]
            rw [if_neg (by decide), pat_Class.eq a (inU_of ha), Option.bind_some, if_pos i1]
          · rw [if_pos ⟨i1, i2, e⟩, show (a != b) = true by simp [e]]
            simp only [sums_Add.j1]
            rw [if_pos trivial]
        · rw [if_neg i2, if_neg (fun h => i2 h.2.1), if_pos i1]
          simp only [sums_Add.j1]
          rw [if_neg (by decide), pat_Class.eq a (inU_of ha), Option.bind_some, if_pos i1]
      · rw [if_neg i1, if_neg (fun h => i1 h.1), if_neg i1]
        simp only [sums_Add.j1]
        rw [if_neg (by decide), pat_Class.eq a (inU_of ha), Option.bind_some, if_neg i1, pat_Class.eq b (inU_of hb), Option.bind_some]
        by_cases i2 : pC b = 3
        · rw [if_pos i2, if_pos i2]
        · have xa := pX_bd a
          have xb := pX_bd b
          obtain ⟨mi, e, s, o, hN, hE⟩ := join_eq (k + 1) (mx := pM a) (my := pM b) (ex := pX a) (ey := pX b) (sx := (pS a).toNat) (sy := (pS b).toNat) m (pS_128 a) (pS_128 b) (by omega) (by omega) (by omega) (by omega)
          rw [if_neg i2, if_neg i2, rnd_Of.eq a (inU_of ha), if_pos (by omega), Option.bind_some, rnd_Of.eq b (inU_of hb), if_pos (by omega), Option.bind_some]
          dsimp only
          rw [if_pos (by rfl), if_pos (by rfl)]
          simp only [sums_Add.j2]
          rw [if_neg (by decide), hE, Option.bind_some]
          dsimp only
          rw [round_out hN]
          rfl
theorem right_eq {mi : Bool} {e : Int} {s : Nat} (hs : s < 2 ^ 128) (h0 : -5000 ≤ e) (h1 : e ≤ 5000) : sums_right.f mi e (l0 s) (l1 s) (l2 s) (l3 s) false = some true := by
  have hT : s < T256 := by rw [T256_eq]; exact Nat.lt_trans hs (by decide)
  have hb : blen s ≤ 128 := blen_le_iff.2 hs
  unfold sums_right.f
  rw [wide_Len.eq hT, Option.bind_some, if_pos (by omega), if_neg (by decide), if_pos (by omega), decide_eq_true (by omega)]
theorem inf_words (b : Bool) : pC (9218868437227405312 + sg b) = 3 ∧ U (9218868437227405312 + sg b) := by
  refine ⟨?_, sgU (by omega) (by omega) b⟩
  rw [(C_same (sgAA 9218868437227405312 b)).1]
  decide
theorem fma_spec (k : Nat) {a b c : Int} (m : Int) (ha : U a) (hb : U b) (hc : U c) : prod_Fma.f (k + 8) a b c m = some (qFma a b c m) := by
  have ca := pC_bd a
  have cb := pC_bd b
  have cc := pC_bd c
  unfold prod_Fma.f qFma
  rw [psign_eq ha hb, Option.bind_some, nothing_eq ha hb, Option.bind_some]
  by_cases hbad : bad a b = true
  · rw [if_pos hbad, if_pos hbad]
  · rw [if_neg hbad, if_neg hbad, bor_inf]
    have nanj : 3 < pC a ∨ 3 < pC b ∨ 3 < pC c → prod_Fma.j0 (k + 8) a b c m (9218868437227405312 + sg (qMi a b)) true = some (9221120237041090560, if pC a = 5 ∨ pC b = 5 ∨ pC c = 5 then 1 else 0) := fun h => by
      simp only [prod_Fma.j0]
      rw [if_pos trivial, loud3_eq ha hb hc (k + 3)]
      rfl
    rw [pat_IsNaN.eq a (inU_of ha), Option.bind_some]
    by_cases n1 : 3 < pC a
    · rw [decide_eq_true n1, if_pos rfl, if_pos (.inl n1)]
      exact nanj (.inl n1)
    · rw [decide_eq_false n1, if_neg (by decide), pat_IsNaN.eq b (inU_of hb), Option.bind_some]
      by_cases n2 : 3 < pC b
      · rw [decide_eq_true n2, if_pos rfl, if_pos (.inr (.inl n2))]
        exact nanj (.inr (.inl n2))
      · rw [decide_eq_false n2, if_neg (by decide), pat_IsNaN.eq c (inU_of hc), Option.bind_some]
        by_cases n3 : 3 < pC c
        · rw [decide_eq_true n3, if_pos (.inr (.inr n3))]
          exact nanj (.inr (.inr n3))
        · rw [decide_eq_false n3, if_neg (by omega)]
          simp only [prod_Fma.j0]
          rw [if_neg (by decide), pat_Finite.eq a (inU_of ha), Option.bind_some]
          obtain ⟨ic, iu⟩ := inf_words (qMi a b)
          have infj : pC a = 3 ∨ pC b = 3 → prod_Fma.j1 (k + 7) a b c m (9218868437227405312 + sg (qMi a b)) true = some (if pC c = 3 ∧ c ≠ 9218868437227405312 + sg (qMi a b) then (9221120237041090560, 1) else (9218868437227405312 + sg (qMi a b), 0)) := fun h => by
            simp only [prod_Fma.j1]
            rw [if_pos trivial, add_spec k m iu hc, Option.bind_some]
            unfold qAdd
            rw [ic, if_neg (by omega)]
            by_cases g : pC c = 3 ∧ c ≠ 9218868437227405312 + sg (qMi a b)
            · rw [if_pos ⟨rfl, g.1, fun z => g.2 z.symm⟩, if_pos g]
            · rw [if_neg (fun z => g ⟨z.2.1, fun y => z.2.2 y.symm⟩), if_neg g, if_pos rfl]
          by_cases i1 : pC a = 3
          · rw [decide_eq_false (by omega), if_neg (by decide), if_pos (.inl i1)]
            exact infj (.inl i1)
          · rw [decide_eq_true (by omega), if_pos rfl, pat_Finite.eq b (inU_of hb), Option.bind_some]
            by_cases i2 : pC b = 3
            · rw [decide_eq_false (by omega), if_pos (.inr i2)]
              exact infj (.inr i2)
            · rw [decide_eq_true (by omega), if_neg (by omega)]
              simp only [prod_Fma.j1]
              rw [if_neg (by decide), pat_Finite.eq c (inU_of hc), Option.bind_some]
              by_cases i3 : pC c = 3
              · rw [decide_eq_false (by omega), if_neg (by decide), if_pos i3]
              · have xa := pX_bd a
                have xb := pX_bd b
                have xc := pX_bd c
                have hl : (pS a).toNat * (pS b).toNat < 2 ^ 128 := Nat.lt_trans (prod_lt a b) (by decide)
                obtain ⟨mi, e, s, o, hN, hE⟩ := join_eq (k + 4) (mx := qMi a b) (my := pM c) (ex := pX a + pX b) (ey := pX c) (sx := (pS a).toNat * (pS b).toNat) (sy := (pS c).toNat) m hl (pS_128 c) (by omega) (by omega) (by omega) (by omega)
                rw [decide_eq_true (by omega), if_pos rfl, if_neg i3, rnd_Of.eq c (inU_of hc), if_pos (by omega), Option.bind_some]
                dsimp only
                rw [if_pos (by rfl), pexact_eq ha hb, Option.bind_some]
                dsimp only
                unfold sums_Exact.f
                rw [right_eq hl (by omega) (by omega), Option.bind_some, if_pos rfl, right_eq (pS_128 c) (by omega) (by omega), Option.bind_some, if_pos rfl, hE, Option.bind_some, Option.bind_some]
                dsimp only
                rw [if_pos (by rfl), round_out hN]
                rfl
end Go.Proofs.Ytbgefpeicmbgiaa
end
