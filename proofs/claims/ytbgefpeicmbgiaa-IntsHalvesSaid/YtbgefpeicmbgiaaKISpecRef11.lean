import Derived.Test.YtbgefpeicmbgiaaKI10
import Derived.Test.YtbgefpeicmbgiaaKI14
import Derived.Test.YtbgefpeicmbgiaaKI18
import Derived.Test.YtbgefpeicmbgiaaKI20
import Derived.Test.YtbgefpeicmbgiaaKIXtillerref11To
namespace Go.Proofs.Ytbgefpeicmbgiaa
set_option linter.unusedVariables false
set_option linter.unusedSimpArgs false
open Go.RowKit X Go.Proofs.YtbgefpeicmbgiaaW.PrintWords
theorem wQ_md (p m : Int) : wQ p (md m) = wQ p m := tQ_md _ _ _ _ _
theorem ref11_of_ev (mi : Bool) {n : Int} (m : Int) (h : U n) : Ev (fun k => tillerref11_Of.f k mi n m) (rRound mi 0 n.toNat m) := by
  obtain ⟨B, hBe⟩ : ∃ B : Nat, B = 130000 := ⟨_, rfl⟩
  have hB : B ≤ 1000000 := by omega
  have hB2 : 130000 ≤ B := by omega
  clear hBe
  have hl : n.toNat < 18446744073709551616 := by unfold U at h; omega
  have r := ref_round_ev hB hB2 mi (e := 0) (s := n.toNat) m (small_B hB2 hl) (by have : blen n.toNat ≤ 64 := blen_le_iff.2 hl; omega) (by omega) (by omega)
  exact Ev.bind (of_ev h) (Ev.bind r (Ev.now _))
theorem ref11_j2 {p m : Int} (told : Bool) {D : Int} (hp : U p) (h3 : pC p < 3) (hD : U D) (hm : m = 0 ∨ m = 1 ∨ m = 2 ∨ m = 3 ∨ m = 4) :
    Ev (fun k => tillerref11_To.j2 k p m told (pM p) D) (if D < (wQ p m : Int) then (pM p, D, 1) else (pM p, (wQ p m : Int), if rOdd (pS p).toNat (pX p) 0 = true then (if told = true then 16 else 0) else 0)) := by
  obtain ⟨B, hBe⟩ : ∃ B : Nat, B = 130000 := ⟨_, rfl⟩
  have hB : B ≤ 1000000 := by omega
  have hB2 : 130000 ≤ B := by omega
  clear hBe
  have hP := pattern_ev hp
  have hx := pX_bd p
  have hs53 := pS_53 p
  have hsB : (pS p).toNat < 65536 ^ B := small_B hB2 (Nat.lt_trans hs53 (by decide))
  have hb : blen (pS p).toNat ≤ 53 := blen_le_iff.2 hs53
  have hT := to_ev hB (by omega) (pM p) hsB (e := pX p) (n := 0) (m := m) (by omega) (by omega) (by omega) (by omega) hm (pow_B hB2 (by omega))
  obtain ⟨T, hT0⟩ : ∃ T : Nat, T = 1100 := ⟨_, rfl⟩
  have hq : wQ p m < 65536 ^ B := Nat.lt_of_le_of_lt (tQ_le (pM p) (pX p) (pS p).toNat 0 m T (by omega)) (pow_B hB2 (by omega))
  have hDl : D.toNat < 18446744073709551616 := by unfold U at hD; omega
  have hO := of_ev hD
  have hC := cmp_ev hB hq (small_B hB2 hDl)
  have hW : tQ (pM p) (pX p) (pS p).toNat 0 m = wQ p m := rfl
  rw [hW] at hT
  refine Ev.step (f := fun k => (r4_Pattern.f k p).bind fun bt370 => ((r4_To.f k bt370.1 bt370.2.1 bt370.2.2 0 m).bind fun bt375 => ((r2_Of.f k D).bind fun t379 => ((r2_Cmp.f k bt375.1 t379).bind fun t382 => (if t382 > 0 then (some (pM p, D, 1)) else (if bt375.2 = true then (tillerref11_To.j3 k (pM p) bt375.1 told) else (tillerref11_To.j3 k (pM p) bt375.1 false))))))) (fun k => by simp only [tillerref11_To.j2]) (Ev.bind hP (Ev.bind hT (Ev.bind hO (Ev.bind hC ?_))))
  have hcmp : cmpI (wQ p m) D.toNat > 0 ↔ D < (wQ p m : Int) := by
    unfold U at hD
    unfold cmpI
    split
    · omega
    · split <;> omega
  by_cases c : D < (wQ p m : Int)
  · rw [if_pos c]
    exact Ev.congr (fun k => by rw [if_pos (hcmp.2 c)]) (Ev.now _)
  · rw [if_neg c]
    have hq64 : wQ p m < 18446744073709551616 := by unfold U at hD; omega
    have hLow := low_ev (wQ p m) (by
      have := ln_length (n := wQ p m) (L := 4) (by rw [show (65536 : Nat) ^ 4 = 18446744073709551616 from rfl]; exact hq64)
      omega)
    rw [Nat.mod_eq_of_lt hq64] at hLow
    have J : ∀ b : Bool, Ev (fun k => tillerref11_To.j3 k (pM p) (ln (wQ p m)) b) (pM p, (wQ p m : Int), if b = true then 16 else 0) := fun b => by
      cases b
      · refine Ev.step (f := fun k => (r2_Low.f k (ln (wQ p m))).bind fun t384 => (some (pM p, t384, 0))) (fun k => ?_) (Ev.bind hLow (Ev.now _))
        simp only [tillerref11_To.j3]
        rw [if_neg (by decide)]
      · refine Ev.step (f := fun k => (r2_Low.f k (ln (wQ p m))).bind fun t384 => (some (pM p, t384, 16))) (fun k => ?_) (Ev.bind hLow (Ev.now _))
        simp only [tillerref11_To.j3]
        rw [if_pos trivial]
    cases rOdd (pS p).toNat (pX p) 0
    · exact Ev.congr (fun k => by rw [if_neg (fun h => c (hcmp.1 h))]; simp only; rw [if_neg (by decide)]) (J false)
    · exact Ev.congr (fun k => by rw [if_neg (fun h => c (hcmp.1 h))]; simp only; rw [if_pos trivial]) (J told)
theorem ref11_j0 {p : Int} (m : Int) (told : Bool) {D : Int} (hp : U p) (h5 : ¬ 3 < pC p) (hD : U D) :
    Ev (fun k => tillerref11_To.j0 k p m told (pM p) D) (if pC p = 3 ∨ D < (wQ p m : Int) then (pM p, D, 1) else (pM p, (wQ p m : Int), if rOdd (pS p).toNat (pX p) 0 = true then (if told = true then 16 else 0) else 0)) := by
  by_cases c3 : pC p = 3
  · rw [if_pos (.inl c3)]
    refine Ev.step (f := fun _ => some _) (fun k => ?_) (Ev.now _)
    simp only [tillerref11_To.j0]
    rw [r3_Finite.eq p (inU_of hp), Option.bind_some, decide_eq_false (by omega), if_neg (by decide)]
  · have h2 := ref11_j2 (m := md m) told hp (by omega) hD (md_in m)
    rw [wQ_md] at h2
    have e : (if pC p = 3 ∨ D < (wQ p m : Int) then (pM p, D, 1) else (pM p, (wQ p m : Int), if rOdd (pS p).toNat (pX p) 0 = true then (if told = true then 16 else 0) else 0) : Bool × Int × Int) = (if D < (wQ p m : Int) then (pM p, D, 1) else (pM p, (wQ p m : Int), if rOdd (pS p).toNat (pX p) 0 = true then (if told = true then 16 else 0) else 0)) := by
      by_cases c : D < (wQ p m : Int)
      · rw [if_pos (.inr c), if_pos c]
      · rw [if_neg (by omega), if_neg c]
    rw [e]
    have j1t : md m = 0 → Ev (fun k => tillerref11_To.j1 k p m told (pM p) D true) _ := fun h => by
      refine Ev.step (f := fun k => tillerref11_To.j2 k p (md m) told (pM p) D) (fun k => ?_) h2
      simp only [tillerref11_To.j1]
      rw [if_pos trivial, h]
    refine Ev.step (f := fun k => if m < 0 then (tillerref11_To.j1 k p m told (pM p) D true) else (tillerref11_To.j1 k p m told (pM p) D (decide (m > 4)))) (fun k => ?_) ?_
    · simp only [tillerref11_To.j0]
      rw [r3_Finite.eq p (inU_of hp), Option.bind_some, decide_eq_true (by omega), if_pos rfl]
    · by_cases n : m < 0
      · exact Ev.congr (fun k => by rw [if_pos n]) (j1t (by unfold md; rw [if_pos (.inl n)]))
      · by_cases g : m > 4
        · exact Ev.congr (fun k => by rw [if_neg n, decide_eq_true g]) (j1t (by unfold md; rw [if_pos (.inr g)]))
        · have e2 : md m = m := by unfold md; rw [if_neg (by omega)]
          refine Ev.congr (f := fun k => tillerref11_To.j1 k p m told (pM p) D false) (fun k => by rw [if_neg n, decide_eq_false g]) ?_
          refine Ev.step (f := fun k => tillerref11_To.j2 k p (md m) told (pM p) D) (fun k => ?_) h2
          simp only [tillerref11_To.j1]
          rw [if_neg (by decide), e2]
theorem ref11_to_ev {p : Int} (m : Int) (told : Bool) {B A : Int} (hp : U p) (hB : U B) (hA : U A) : Ev (fun k => tillerref11_To.f k p m told B A) (nAm p m told B A) := by
  have eM : decide (p ≥ 9223372036854775808) = pM p := rfl
  unfold nAm
  by_cases c5 : 3 < pC p
  · rw [if_pos c5]
    refine Ev.congr (fun k => ?_) (Ev.now _)
    unfold tillerref11_To.f
    rw [r3_NaN.eq p (inU_of hp), Option.bind_some, decide_eq_true c5, if_pos rfl]
  · rw [if_neg c5]
    by_cases c : p ≥ 9223372036854775808
    · have hM : pM p = true := decide_eq_true c
      have h := ref11_j0 m told hp c5 hB
      rw [hM] at h ⊢
      refine Ev.congr (f := fun k => tillerref11_To.j0 k p m told true B) (fun k => ?_) h
      unfold tillerref11_To.f
      rw [r3_NaN.eq p (inU_of hp), Option.bind_some, decide_eq_false c5, if_neg (by decide), if_pos c, eM, hM]
    · have hM : pM p = false := decide_eq_false c
      have h := ref11_j0 m told hp c5 hA
      rw [hM] at h ⊢
      refine Ev.congr (f := fun k => tillerref11_To.j0 k p m told false A) (fun k => ?_) h
      unfold tillerref11_To.f
      rw [r3_NaN.eq p (inU_of hp), Option.bind_some, decide_eq_false c5, if_neg (by decide), if_neg c, eM, hM]
theorem number_eq {b : Bool} {x : Int} (h0 : 0 ≤ x) (h1 : x ≤ (if b = true then 9223372036854775808 else 9223372036854775807)) : tillerlaw11_number.f b x = some (sgn b x) := by
  unfold tillerlaw11_number.f sgn
  cases b
  · rw [if_neg (by decide)] at h1
    rw [if_neg (by decide), if_neg (by decide), show wrap64 x = x by unfold wrap64; omega]
  · rw [if_pos rfl] at h1
    rw [if_pos rfl, if_pos rfl, show wrap64 (IntKind.u64.wrap (-x)) = -x by rw [IntKind.wrap_u64]; unfold wrap64; omega]
end Go.Proofs.Ytbgefpeicmbgiaa
