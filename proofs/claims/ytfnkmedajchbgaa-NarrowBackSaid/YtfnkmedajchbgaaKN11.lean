import Derived.Test.YtfnkmedajchbgaaKN8
import Derived.Test.YtfnkmedajchbgaaKNXtillerlaw12NarrowBack
section
namespace Go.Proofs.Ytfnkmedajchbgaa
set_option linter.unusedVariables false
set_option linter.unusedSimpArgs false
open Go.RowKit X
theorem back_val (mi : Bool) (m : Int) {p : Int} (p0 : 0 ≤ p) (p1 : p < 9218868437227405312) (p2 : pC p < 3) {f e : Nat} (he : e ≤ 253) (hf : f < 16777216) (hn : 8388608 ≤ f ∨ e = 0) (hV : pV p = f * 2 ^ (e + 925)) :
    nTo (p + sg mi) m = ((f : Int) + (e : Int) * 8388608 + sg2 mi, 0) := by
  obtain ⟨c1, c2, c3⟩ := C_same (sgAA p mi)
  have m1 := sgM p0 (by omega) mi
  have hc := pC_bd p
  unfold nTo
  rw [c1, c2, c3, m1, if_neg (by omega), if_neg (by omega)]
  by_cases z : pC p = 0
  · rw [if_pos z]
    have hz : pV p = 0 := (pV_zero p2).2 (zero_iff.2 z)
    rw [hV] at hz
    have hf0 : f = 0 := by
      rcases Nat.mul_eq_zero.1 hz with g | g
      · exact g
      · have := Nat.two_pow_pos (e + 925); omega
    have he0 : e = 0 := by omega
    subst hf0 he0
    simp
  · rw [if_neg z]
    have hs := pS_pos p z (by omega)
    have hx := pX_bd p
    exact nRound_exact mi m hx.1 (by omega) he hf hn hV
theorem back_fin {q : Int} (h : U32 q) (hE : fE q ≠ 255) (m : Int) : U (nFrom q).1 ∧ (nFrom q).2 = 0 ∧ nTo (nFrom q).1 m = (q, 0) := by
  have bE := fE_bd q
  have bF := fF_bd q
  have hq := f_parts h
  unfold nFrom
  rw [if_neg hE]
  by_cases z : fE q = 0
  · rw [if_pos z]
    obtain ⟨p, p0, p1, p2, p3, p4⟩ := round_fit (x := -149) (s := (fF q).toNat) (by rw [show (2 : Nat) ^ 53 = 9007199254740992 from rfl]; omega) (by omega) (by omega)
    rw [p4]
    refine ⟨sgU p0 (by omega) _, rfl, ?_⟩
    have := back_val (fM q) m p0 p1 p2 (f := (fF q).toNat) (e := 0) (by omega) (by omega) (.inr rfl) (by rw [p3, show ((-149 : Int) + 1074).toNat = 0 + 925 from rfl])
    show nTo (p + sg (fM q)) m = (q, 0)
    rw [this]
    congr 1
    omega
  · rw [if_neg z]
    obtain ⟨p, p0, p1, p2, p3, p4⟩ := round_fit (x := fE q - 150) (s := (fF q + 8388608).toNat) (by rw [show (2 : Nat) ^ 53 = 9007199254740992 from rfl]; omega) (by omega) (by omega)
    rw [p4]
    refine ⟨sgU p0 (by omega) _, rfl, ?_⟩
    have := back_val (fM q) m p0 p1 p2 (f := (fF q + 8388608).toNat) (e := (fE q - 1).toNat) (by omega) (by omega) (.inl (by omega)) (by rw [p3]; congr 2; omega)
    show nTo (p + sg (fM q)) m = (q, 0)
    rw [this]
    congr 1
    omega
theorem back_inf {q : Int} (h : U32 q) (hE : fE q = 255) (hF : fF q = 0) (m : Int) : U (nFrom q).1 ∧ (nFrom q).2 = 0 ∧ nTo (nFrom q).1 m = (q, 0) := by
  have hq := f_parts h
  have e : nFrom q = (9218868437227405312 + sg (fM q), 0) := by unfold nFrom; rw [if_pos hE, if_pos hF]
  rw [e]
  refine ⟨sgU (by omega) (by omega) _, rfl, ?_⟩
  have c1 := (C_same (sgAA 9218868437227405312 (fM q))).1
  have m1 := sgM (A := 9218868437227405312) (by omega) (by omega) (fM q)
  show nTo (9218868437227405312 + sg (fM q)) m = (q, 0)
  unfold nTo
  rw [c1, m1, show pC 9218868437227405312 = 3 by decide, if_neg (by omega), if_pos rfl]
  congr 1
  omega
theorem and16 {f : Int} (h : f = 16 ∨ f = 24 ∨ f = 20) : ¬ bits .and .u8 f 16 = 0 := by
  rcases h with rfl | rfl | rfl <;> decide
theorem back_j0t (k : Nat) (q p : Int) : tillerlaw12_NarrowBack.j0 (k + 6) q p 0 q 0 true = some true := by
  simp only [tillerlaw12_NarrowBack.j0]
  rw [if_pos trivial, if_pos trivial, if_pos trivial, if_pos trivial, sure12 k]
  rfl
theorem back_j0f (k : Nat) (q : Int) {p : Int} (h0 : 0 ≤ p) (h1 : p ≤ 9218868437227405312) : tillerlaw12_NarrowBack.j0 (k + 6) q p 0 q 0 false = some true := by
  simp only [tillerlaw12_NarrowBack.j0]
  rw [if_neg (by decide), nto_spec k 4 (by unfold U; omega), Option.bind_some, nto_spec k 3 (by unfold U; omega), Option.bind_some, nTo_pos 4 h0 h1, nTo_pos 3 h0 h1, sure12 k]
  by_cases c3 : pC p = 3
  · rw [if_pos c3, if_pos c3, if_pos rfl, if_pos rfl, if_pos rfl]
    rfl
  · rw [if_neg c3, if_neg c3]
    by_cases c0 : pC p = 0
    · rw [if_pos c0, if_pos c0, if_pos rfl, if_pos rfl, if_pos rfl]
      rfl
    · rw [if_neg c0, if_neg c0]
      have hb := nRound_bd (pX p) (pS p).toNat 4
      rcases nRound_sides (pX p) (pS p).toNat with ⟨e1, e2⟩ | ⟨e1, e2, e3⟩
      · rw [e1, if_pos rfl, if_pos e2, if_pos rfl]
        rfl
      · rw [if_neg (by omega), if_pos (by omega), if_neg (and16 e3), if_neg (and16 e2)]
        rfl
theorem NarrowBack : tillerlaw12_NarrowBack.Pure := by
  intro q p m w0 w1 w2
  have hq := U32_wf w0
  have hp := U_wf w1
  have bE := fE_bd q
  have bF := fF_bd q
  have hparts := f_parts hq
  have hsg := sg2_bd (fM q)
  have eA : bits .and .u32 q 2147483647 = q % 2147483648 := by
    unfold U32 at hq
    exact bits_mask .u32 32 (by decide) w32 31 (by decide) q (by omega) (by omega)
  refine ⟨6, ?_⟩
  unfold tillerlaw12_NarrowBack.f
  rw [from_spec 4 hq, Option.bind_some, eA, bandnot_M p hp]
  by_cases n : fE q = 255 ∧ fF q ≠ 0
  · have e : (nFrom q).1 = 9221120237041090560 := by unfold nFrom; rw [if_pos n.1, if_neg n.2]
    have e2 : (nTo 9221120237041090560 m).1 = 2143289344 := by
      unfold nTo
      rw [if_pos (by decide)]
    rw [e, nto_spec 1 m (by unfold U; omega), Option.bind_some, if_pos (by omega), if_pos rfl, if_pos e2, sure12 1]
    rfl
  · have key : U (nFrom q).1 ∧ (nFrom q).2 = 0 ∧ nTo (nFrom q).1 m = (q, 0) := by
      by_cases c : fE q = 255
      · exact back_inf hq c (by omega) m
      · exact back_fin hq c m
    obtain ⟨k1, k2, k3⟩ := key
    rw [nto_spec 1 m k1, Option.bind_some, k3, k2, if_neg (by omega), if_pos rfl, if_pos rfl, if_pos rfl]
    by_cases c : pA p > 9218868437227405312
    · rw [if_pos c]
      exact back_j0t 0 q p
    · rw [if_neg c]
      by_cases d : p ≥ 9223372036854775808
      · rw [decide_eq_true d]
        exact back_j0t 0 q p
      · rw [decide_eq_false d]
        unfold U at hp
        have := pA_self (p := p) (by omega) (by omega)
        exact back_j0f 0 q (by omega) (by omega)
end Go.Proofs.Ytfnkmedajchbgaa
end
section
namespace Go.Proofs.Ytfnkmedajchbgaa.Pure
set_option linter.unusedVariables false
set_option linter.unusedSimpArgs false
theorem NarrowBack : Go.Proofs.Ytfnkmedajchbgaa.X.tillerlaw12_NarrowBack.Pure := Go.Proofs.Ytfnkmedajchbgaa.NarrowBack
end Go.Proofs.Ytfnkmedajchbgaa.Pure
end
