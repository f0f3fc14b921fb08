import Derived.Test.YtbgefpeicmbgiaaKP4
import Derived.Test.YtbgefpeicmbgiaaKP10
import Derived.Test.YtbgefpeicmbgiaaKPXprodFma
import Derived.Test.YtbgefpeicmbgiaaKP12
section
namespace Go.Proofs.Ytbgefpeicmbgiaa.X
open Go.RowKit Go.Proofs.YtbgefpeicmbgiaaW.PrintWords Go.Proofs.YtbgefpeicmbgiaaW.PrintLast Go.Proofs.YtbgefpeicmbgiaaW.PrintMore
attribute [local go_sem] max2_int min2_int max_two min_two max_three min_three max_four min_four   
set_option linter.unusedVariables false
set_option linter.unusedSimpArgs false
def tillerlaw06_ProdRest.j0 : Nat → Int → Int → Int → Int → Bool → Option (Bool)
 | 0, _, _, _, _, _ => none
 | k + 1, x0, x1, x5, x6, x64 => if x64 = true then ((tillerlaw06_sure.f k).bind fun q8 => (some q8)) else ((prod_Fma.f k x0 x1 (Go.bits .xor .u64 x5 9223372036854775808) 0).bind fun q7 => ((prod_Fma.f k x0 x1 (Go.bits .xor .u64 q7.1 9223372036854775808) 0).bind fun qa => (if q7.2 = 0 then (if (((Go.bits .andNot .u64 q7.1 9223372036854775808) != 0) == (x6 == 16)) = true then (if qa.1 = x5 then ((tillerlaw06_sure.f k).bind fun q5 => (some q5)) else (some false)) else (some false)) else (some false))))
def tillerlaw06_ProdRest.f (k : Nat) (a0 : Int) (a1 : Int) : Option (Bool) := (prod_Mul.f k a0 a1 0).bind fun q2 => (if (Go.bits .andNot .u8 q2.2 16) = 0 then (if (Go.bits .andNot .u64 q2.1 9223372036854775808) ≥ 9218868437227405312 then (tillerlaw06_ProdRest.j0 k a0 a1 q2.1 q2.2 true) else (if (wrap64 ((wrap64 (Go.bits .and .u64 (a0 / 4503599627370496) 2047)) + (wrap64 (Go.bits .and .u64 (a1 / 4503599627370496) 2047)))) < 1200 then (tillerlaw06_ProdRest.j0 k a0 a1 q2.1 q2.2 true) else (if (wrap64 ((wrap64 (Go.bits .and .u64 (a0 / 4503599627370496) 2047)) + (wrap64 (Go.bits .and .u64 (a1 / 4503599627370496) 2047)))) > 3000 then (tillerlaw06_ProdRest.j0 k a0 a1 q2.1 q2.2 true) else (if (Go.bits .andNot .u64 a0 9223372036854775808) ≥ 9218868437227405312 then (tillerlaw06_ProdRest.j0 k a0 a1 q2.1 q2.2 true) else (if (Go.bits .andNot .u64 a1 9223372036854775808) ≥ 9218868437227405312 then (tillerlaw06_ProdRest.j0 k a0 a1 q2.1 q2.2 true) else (if (Go.bits .and .u64 (a0 / 4503599627370496) 2047) = 0 then (tillerlaw06_ProdRest.j0 k a0 a1 q2.1 q2.2 true) else (tillerlaw06_ProdRest.j0 k a0 a1 q2.1 q2.2 ((Go.bits .and .u64 (a1 / 4503599627370496) 2047) == 0)))))))) else (tillerlaw06_ProdRest.j0 k a0 a1 q2.1 q2.2 true))
theorem tillerlaw06_ProdRest.mono_l : ∀ k, (∀ y0 y1 y2 y3 y4, LeO (tillerlaw06_ProdRest.j0 k y0 y1 y2 y3 y4) (tillerlaw06_ProdRest.j0 (k + 1) y0 y1 y2 y3 y4))
 | 0 => fun _ _ _ _ _ r h => by simp [tillerlaw06_ProdRest.j0] at h
 | k + 1 => by
  have ih0 := tillerlaw06_ProdRest.mono_l k
  · intro y0 y1 y2 y3 y4
    unfold tillerlaw06_ProdRest.j0
    repeat' first
    | (with_reducible exact ih0 _ _ _ _ _)
    | (with_reducible exact prod_Fma.mono _ _ _ _ _)
    | (with_reducible exact prod_Mul.mono _ _ _ _)
    | (with_reducible exact tillerlaw06_sure.mono _)
    | (with_reducible exact LeO.refl _)
    | (with_reducible exact LeO.none _)
    | (with_reducible refine LeO.ite ?_ ?_)
    | (with_reducible refine LeO.bind ?_ (fun _ => ?_))
    | exact ih0 _ _ _ _ _
    | exact prod_Fma.mono _ _ _ _ _
    | exact prod_Mul.mono _ _ _ _
    | exact tillerlaw06_sure.mono _
    | exact LeO.none _
    | refine LeO.ite ?_ ?_
    | refine LeO.bind ?_ (fun _ => ?_)
theorem tillerlaw06_ProdRest.mono : ∀ a0 a1 k, LeO (tillerlaw06_ProdRest.f k a0 a1) (tillerlaw06_ProdRest.f (k + 1) a0 a1) := by
 intro a0 a1 k; have ih0 := tillerlaw06_ProdRest.mono_l k
 unfold tillerlaw06_ProdRest.f
 repeat' first
  | (with_reducible exact ih0 _ _ _ _ _)
  | (with_reducible exact prod_Fma.mono _ _ _ _ _)
  | (with_reducible exact prod_Mul.mono _ _ _ _)
  | (with_reducible exact tillerlaw06_sure.mono _)
  | (with_reducible exact LeO.refl _)
  | (with_reducible exact LeO.none _)
  | (with_reducible refine LeO.ite ?_ ?_)
  | (with_reducible refine LeO.bind ?_ (fun _ => ?_))
  | exact ih0 _ _ _ _ _
  | exact prod_Fma.mono _ _ _ _ _
  | exact prod_Mul.mono _ _ _ _
  | exact tillerlaw06_sure.mono _
  | exact LeO.none _
  | refine LeO.ite ?_ ?_
  | refine LeO.bind ?_ (fun _ => ?_)
set_option maxHeartbeats 8000000 in
set_option maxRecDepth 100000 in
theorem tillerlaw06_ProdRest.calls (k : Nat) (a0 : Int) (a1 : Int) (r : Bool) (w : World) (h : tillerlaw06_ProdRest.f k a0 a1 = some r) :
 Calls Try.prog 11 #[.int .u64 a0, .int .u64 a1] w fun e w' => e = .returned (.bool r) ∧ Below w.heap.size w w' := by
 have HB := Aside0.mk (Below.refl w.heap.size w); have H : ((prod_Mul.f k a0 a1 0).bind fun q2 => (if (Go.bits .andNot .u8 q2.2 16) = 0 then (if (Go.bits .andNot .u64 q2.1 9223372036854775808) ≥ 9218868437227405312 then (tillerlaw06_ProdRest.j0 k a0 a1 q2.1 q2.2 true) else (if (wrap64 ((wrap64 (Go.bits .and .u64 (a0 / 4503599627370496) 2047)) + (wrap64 (Go.bits .and .u64 (a1 / 4503599627370496) 2047)))) < 1200 then (tillerlaw06_ProdRest.j0 k a0 a1 q2.1 q2.2 true) else (if (wrap64 ((wrap64 (Go.bits .and .u64 (a0 / 4503599627370496) 2047)) + (wrap64 (Go.bits .and .u64 (a1 / 4503599627370496) 2047)))) > 3000 then (tillerlaw06_ProdRest.j0 k a0 a1 q2.1 q2.2 true) else (if (Go.bits .andNot .u64 a0 9223372036854775808) ≥ 9218868437227405312 then (tillerlaw06_ProdRest.j0 k a0 a1 q2.1 q2.2 true) else (if (Go.bits .andNot .u64 a1 9223372036854775808) ≥ 9218868437227405312 then (tillerlaw06_ProdRest.j0 k a0 a1 q2.1 q2.2 true) else (if (Go.bits .and .u64 (a0 / 4503599627370496) 2047) = 0 then (tillerlaw06_ProdRest.j0 k a0 a1 q2.1 q2.2 true) else (tillerlaw06_ProdRest.j0 k a0 a1 q2.1 q2.2 ((Go.bits .and .u64 (a1 / 4503599627370496) 2047) == 0)))))))) else (tillerlaw06_ProdRest.j0 k a0 a1 q2.1 q2.2 true))) = some r := h; clear h; replace H := Option.bind_eq_some_iff.mp H; obtain ⟨⟨q3, q0⟩, A30, H⟩ := H; replace H : (if (Go.bits .andNot .u8 q0 16) = 0 then (if (Go.bits .andNot .u64 q3 9223372036854775808) ≥ 9218868437227405312 then (tillerlaw06_ProdRest.j0 k a0 a1 q3 q0 true) else (if (wrap64 ((wrap64 (Go.bits .and .u64 (a0 / 4503599627370496) 2047)) + (wrap64 (Go.bits .and .u64 (a1 / 4503599627370496) 2047)))) < 1200 then (tillerlaw06_ProdRest.j0 k a0 a1 q3 q0 true) else (if (wrap64 ((wrap64 (Go.bits .and .u64 (a0 / 4503599627370496) 2047)) + (wrap64 (Go.bits .and .u64 (a1 / 4503599627370496) 2047)))) > 3000 then (tillerlaw06_ProdRest.j0 k a0 a1 q3 q0 true) else (if (Go.bits .andNot .u64 a0 9223372036854775808) ≥ 9218868437227405312 then (tillerlaw06_ProdRest.j0 k a0 a1 q3 q0 true) else (if (Go.bits .andNot .u64 a1 9223372036854775808) ≥ 9218868437227405312 then (tillerlaw06_ProdRest.j0 k a0 a1 q3 q0 true) else (if (Go.bits .and .u64 (a0 / 4503599627370496) 2047) = 0 then (tillerlaw06_ProdRest.j0 k a0 a1 q3 q0 true) else (tillerlaw06_ProdRest.j0 k a0 a1 q3 q0 ((Go.bits .and .u64 (a1 / 4503599627370496) 2047) == 0)))))))) else (tillerlaw06_ProdRest.j0 k a0 a1 q3 q0 true)) = some r := H; have A3 := Aside0.mk A30; clear A30; have HC4 := Aside0.mk H; clear H
 go_enter Try.func11, Try.ntmps11
 go_upto_region 3 with (first | ((with_reducible refine gate_callee (f := 26) rfl ?_); refine goesL_ (some 15) rfl rfl Try.func26 (by kernel_rfl) rfl #[.int .u64 a0, .int .u64 a1, .int .i64 0] rfl LMq ?_; (with_reducible refine (prod_Mul.calls k a0 a1 0 q3 q0 _ A3.out).mono ?_); rintro e w5 ⟨rfl, hb⟩; refine ⟨_, rfl, ?_⟩; replace HB := Aside0.mk (below_step (kH HB) hb); (try clear hb); (try clear hb2); (try clear hk); (try clear hi)))
 (try simp only [Act.put, List.setIfInBounds_toArray, List.set_cons_zero, List.set_cons_succ])
 go_cut [64] (fun v64 wc => ∃ (kq : Nat) (qb : Bool), v64 = .bool qb ∧ Aside0 (tillerlaw06_ProdRest.j0 kq a0 a1 q3 q0 qb = some r) ∧ Aside0 (kq ≤ k) ∧ Aside0 (Below w.heap.size w wc))
 case first =>
  have H := HC4.out; clear HC4
  by_cases c6 : (Go.bits .andNot .u8 q0 16) = 0
  · rw [if_pos c6] at H
    have q9 : ((Go.bits .andNot .u8 q0 16) == 0) = true := beq_iff_eq.mpr c6; have qd : ((Go.bits .andNot .u8 q0 16) != 0) = false := bne_eq_false_iff_eq.mpr c6; clear c6
    (first | rw [q9] | (simp only [i64_w, i32_w]; rw [q9]) | skip)
    by_cases c7 : (Go.bits .andNot .u64 q3 9223372036854775808) ≥ 9218868437227405312
    · rw [if_pos c7] at H
      have qe : decide (9218868437227405312 ≤ (Go.bits .andNot .u64 q3 9223372036854775808)) = true := decide_eq_true c7; clear c7; have H' := Aside0.mk H; clear H
      go_wp2
      go_meet
      case rel => exact ⟨_, (true), RSq, (by first | exact H' | (subst_vars; exact H')), ⟨by first | omega | exact Nat.le_refl _⟩, ⟨kH HB⟩⟩
    rw [if_neg c7] at H
    have qe : decide (9218868437227405312 ≤ (Go.bits .andNot .u64 q3 9223372036854775808)) = false := decide_eq_false c7; clear c7
    by_cases c8 : (wrap64 ((wrap64 (Go.bits .and .u64 (a0 / 4503599627370496) 2047)) + (wrap64 (Go.bits .and .u64 (a1 / 4503599627370496) 2047)))) < 1200
    · rw [if_pos c8] at H
      have qf : decide ((wrap64 ((wrap64 (Go.bits .and .u64 (a0 / 4503599627370496) 2047)) + (wrap64 (Go.bits .and .u64 (a1 / 4503599627370496) 2047)))) < 1200) = true := decide_eq_true c8; clear c8; have H' := Aside0.mk H; clear H
      go_wp2
      go_meet
      case rel => exact ⟨_, (true), RSq, (by first | exact H' | (subst_vars; exact H')), ⟨by first | omega | exact Nat.le_refl _⟩, ⟨kH HB⟩⟩
    rw [if_neg c8] at H
    have qf : decide ((wrap64 ((wrap64 (Go.bits .and .u64 (a0 / 4503599627370496) 2047)) + (wrap64 (Go.bits .and .u64 (a1 / 4503599627370496) 2047)))) < 1200) = false := decide_eq_false c8; clear c8
    by_cases c9 : (wrap64 ((wrap64 (Go.bits .and .u64 (a0 / 4503599627370496) 2047)) + (wrap64 (Go.bits .and .u64 (a1 / 4503599627370496) 2047)))) > 3000
    · rw [if_pos c9] at H
      have qg : decide (3000 < (wrap64 ((wrap64 (Go.bits .and .u64 (a0 / 4503599627370496) 2047)) + (wrap64 (Go.bits .and .u64 (a1 / 4503599627370496) 2047))))) = true := decide_eq_true c9; clear c9; have H' := Aside0.mk H; clear H
      go_wp2
      go_meet
      case rel => exact ⟨_, (true), RSq, (by first | exact H' | (subst_vars; exact H')), ⟨by first | omega | exact Nat.le_refl _⟩, ⟨kH HB⟩⟩
    rw [if_neg c9] at H
    have qg : decide (3000 < (wrap64 ((wrap64 (Go.bits .and .u64 (a0 / 4503599627370496) 2047)) + (wrap64 (Go.bits .and .u64 (a1 / 4503599627370496) 2047))))) = false := decide_eq_false c9; clear c9
    by_cases c10 : (Go.bits .andNot .u64 a0 9223372036854775808) ≥ 9218868437227405312
    · rw [if_pos c10] at H
      have qh : decide (9218868437227405312 ≤ (Go.bits .andNot .u64 a0 9223372036854775808)) = true := decide_eq_true c10; clear c10; have H' := Aside0.mk H; clear H
      go_wp2
      go_meet
      case rel => exact ⟨_, (true), RSq, (by first | exact H' | (subst_vars; exact H')), ⟨by first | omega | exact Nat.le_refl _⟩, ⟨kH HB⟩⟩
    rw [if_neg c10] at H
    have qh : decide (9218868437227405312 ≤ (Go.bits .andNot .u64 a0 9223372036854775808)) = false := decide_eq_false c10; clear c10
    by_cases c11 : (Go.bits .andNot .u64 a1 9223372036854775808) ≥ 9218868437227405312
    · rw [if_pos c11] at H
      have qi : decide (9218868437227405312 ≤ (Go.bits .andNot .u64 a1 9223372036854775808)) = true := decide_eq_true c11; clear c11; have H' := Aside0.mk H; clear H
      go_wp2
      go_meet
      case rel => exact ⟨_, (true), RSq, (by first | exact H' | (subst_vars; exact H')), ⟨by first | omega | exact Nat.le_refl _⟩, ⟨kH HB⟩⟩
    rw [if_neg c11] at H
    have qi : decide (9218868437227405312 ≤ (Go.bits .andNot .u64 a1 9223372036854775808)) = false := decide_eq_false c11; clear c11
    by_cases c12 : (Go.bits .and .u64 (a0 / 4503599627370496) 2047) = 0
    · rw [if_pos c12] at H
      have qj : ((Go.bits .and .u64 (a0 / 4503599627370496) 2047) == 0) = true := beq_iff_eq.mpr c12; have qk : ((Go.bits .and .u64 (a0 / 4503599627370496) 2047) != 0) = false := bne_eq_false_iff_eq.mpr c12; clear c12; have H' := Aside0.mk H; clear H
      go_wp2
      go_meet
      case rel => exact ⟨_, (true), RSq, (by first | exact H' | (subst_vars; exact H')), ⟨by first | omega | exact Nat.le_refl _⟩, ⟨kH HB⟩⟩
    rw [if_neg c12] at H
    have qj : ((Go.bits .and .u64 (a0 / 4503599627370496) 2047) == 0) = false := beq_eq_false_iff_ne.mpr c12; have qk : ((Go.bits .and .u64 (a0 / 4503599627370496) 2047) != 0) = true := bne_iff_ne.mpr c12; have H' := Aside0.mk H; clear H
    go_wp2
    go_meet
    case rel => exact ⟨_, (((Go.bits .and .u64 (a1 / 4503599627370496) 2047) == 0)), RSq, (by first | exact H' | (subst_vars; exact H')), ⟨by first | omega | exact Nat.le_refl _⟩, ⟨kH HB⟩⟩
  rw [if_neg c6] at H
  have q9 : ((Go.bits .andNot .u8 q0 16) == 0) = false := beq_eq_false_iff_ne.mpr c6; have qd : ((Go.bits .andNot .u8 q0 16) != 0) = true := bne_iff_ne.mpr c6
  (first | rw [q9] | (simp only [i64_w, i32_w]; rw [q9]) | skip)
  have H' := Aside0.mk H; clear H
  go_wp2
  go_meet
  case rel => exact ⟨_, (true), RSq, (by first | exact H' | (subst_vars; exact H')), ⟨by first | omega | exact Nat.le_refl _⟩, ⟨kH HB⟩⟩
 case rest =>
  clear HC4; (try clear c1); (try clear c2); (try clear p2); (try clear c6); (try clear q9); (try clear qd); (try clear p6); (try clear c7); (try clear qe); (try clear c8); (try clear qf); (try clear c9); (try clear qg); (try clear c10); (try clear qh); (try clear c11); (try clear qi); (try clear c12); (try clear qj); (try clear qk); obtain ⟨kq, qb, rfl, HA, HJ3, HB⟩ := hcut
  cases kq with
  | zero => exact absurd HA.out (by simp [tillerlaw06_ProdRest.j0])
  | succ kj3 =>
   have H := HA.out; clear HA
   simp only [tillerlaw06_ProdRest.j0] at H
   by_cases c13 : qb = true
   · subst c13
     have H1 : ((tillerlaw06_sure.f kj3).bind fun q8 => (some q8)) = some r := by rw [if_pos rfl] at H; exact H
     clear H; have H := H1; clear H1; replace H := Option.bind_eq_some_iff.mp H; obtain ⟨q8, ql, H⟩ := H; replace H : (some q8) = some r := H; have A14 := Aside0.mk ql; clear ql; obtain rfl := Option.some.inj H
     go_wp2_with (first | ((with_reducible refine gate_callee (f := 25) rfl ?_); refine goesL_ (some 65) rfl rfl Try.func25 (by kernel_rfl) rfl #[] rfl LMq ?_; (with_reducible refine (tillerlaw06_sure.calls kj3  q8 _ A14.out).mono ?_); rintro e w15 ⟨rfl, hb⟩; refine ⟨_, rfl, ?_⟩; replace HB := Aside0.mk (below_step (kH HB) hb); (try clear hb); (try clear hb2); (try clear hk); (try clear hi)))
     go_ret
     exact ⟨by first | rfl | (simp [errW_none, errW_some] <;> rfl) | (simp [*, errW_none, errW_some] <;> rfl), kH HB⟩
   replace c13 := Bool.eq_false_iff.mpr c13; subst c13
   have H1 : ((prod_Fma.f kj3 a0 a1 (Go.bits .xor .u64 q3 9223372036854775808) 0).bind fun q7 => ((prod_Fma.f kj3 a0 a1 (Go.bits .xor .u64 q7.1 9223372036854775808) 0).bind fun qa => (if q7.2 = 0 then (if (((Go.bits .andNot .u64 q7.1 9223372036854775808) != 0) == (q0 == 16)) = true then (if qa.1 = q3 then ((tillerlaw06_sure.f kj3).bind fun q5 => (some q5)) else (some false)) else (some false)) else (some false)))) = some r := by rw [if_neg (show ¬ (false = true) by decide)] at H; exact H
   clear H; have H := H1; clear H1; replace H := Option.bind_eq_some_iff.mp H; obtain ⟨⟨q1, q4⟩, qm, H⟩ := H; replace H : ((prod_Fma.f kj3 a0 a1 (Go.bits .xor .u64 q1 9223372036854775808) 0).bind fun qa => (if q4 = 0 then (if (((Go.bits .andNot .u64 q1 9223372036854775808) != 0) == (q0 == 16)) = true then (if qa.1 = q3 then ((tillerlaw06_sure.f kj3).bind fun q5 => (some q5)) else (some false)) else (some false)) else (some false))) = some r := H; have A16 := Aside0.mk qm; clear qm; replace H := Option.bind_eq_some_iff.mp H; obtain ⟨⟨q6, qc⟩, qn, H⟩ := H; replace H : (if q4 = 0 then (if (((Go.bits .andNot .u64 q1 9223372036854775808) != 0) == (q0 == 16)) = true then (if q6 = q3 then ((tillerlaw06_sure.f kj3).bind fun q5 => (some q5)) else (some false)) else (some false)) else (some false)) = some r := H; have A17 := Aside0.mk qn; clear qn
   by_cases c18 : q4 = 0
   · rw [if_pos c18] at H
     have qp : (q4 == 0) = true := beq_iff_eq.mpr c18; have qq : (q4 != 0) = false := bne_eq_false_iff_eq.mpr c18; clear c18
     by_cases c19 : (((Go.bits .andNot .u64 q1 9223372036854775808) != 0) == (q0 == 16)) = true
     · rw [if_pos c19] at H
       have qr : (((Go.bits .andNot .u64 q1 9223372036854775808) != 0) == (q0 == 16)) = true := c19
       (try (have qs : decide (((Go.bits .andNot .u64 q1 9223372036854775808) != 0) = (q0 == 16)) = true := by simpa using c19))
       (try (have qt : (((Go.bits .andNot .u64 q1 9223372036854775808) != 0) == (q0 == 16)) = true := by simpa using c19))
       (try (have qu : (Go.bits .andNot .u64 q1 9223372036854775808) = 0 := by first | (refine (fun (c_ : (((Go.bits .andNot .u64 q1 9223372036854775808) != 0) == (q0 == 16)) = true) (h_ : (q0 == 16) = false) => (by rw [h_] at c_; simpa using c_ : (Go.bits .andNot .u64 q1 9223372036854775808) = 0)) c19 ?_; assumption) | (refine (fun (c_ : ¬ (((Go.bits .andNot .u64 q1 9223372036854775808) != 0) == (q0 == 16)) = true) (h_ : (q0 == 16) = true) => (by rw [h_] at c_; simpa using c_ : (Go.bits .andNot .u64 q1 9223372036854775808) = 0)) c19 ?_; assumption)))
       (try (have qv : ¬ (Go.bits .andNot .u64 q1 9223372036854775808) = 0 := by first | (refine (fun (c_ : (((Go.bits .andNot .u64 q1 9223372036854775808) != 0) == (q0 == 16)) = true) (h_ : (q0 == 16) = true) => (by rw [h_] at c_; simpa using c_ : ¬ (Go.bits .andNot .u64 q1 9223372036854775808) = 0)) c19 ?_; assumption) | (refine (fun (c_ : ¬ (((Go.bits .andNot .u64 q1 9223372036854775808) != 0) == (q0 == 16)) = true) (h_ : (q0 == 16) = false) => (by rw [h_] at c_; simpa using c_ : ¬ (Go.bits .andNot .u64 q1 9223372036854775808) = 0)) c19 ?_; assumption)))
       clear c19
       by_cases c20 : q6 = q3
       · rw [if_pos c20] at H
         have qw : (q6 == q3) = true := beq_iff_eq.mpr c20; have qx : (q6 != q3) = false := bne_eq_false_iff_eq.mpr c20; clear c20; replace H := Option.bind_eq_some_iff.mp H; obtain ⟨q5, qo, H⟩ := H; replace H : (some q5) = some r := H; have A21 := Aside0.mk qo; clear qo; obtain rfl := Option.some.inj H
         go_wp2_with (first | ((with_reducible refine gate_callee (f := 23) rfl ?_); refine goesL_ (some 71) rfl rfl Try.func23 (by kernel_rfl) rfl #[.int .u64 a0, .int .u64 a1, .int .u64 (Go.bits .xor .u64 q3 9223372036854775808), .int .i64 0] rfl LMq ?_; (with_reducible refine (prod_Fma.calls kj3 a0 a1 (Go.bits .xor .u64 q3 9223372036854775808) 0 q1 q4 _ A16.out).mono ?_); rintro e w22 ⟨rfl, hb⟩; refine ⟨_, rfl, ?_⟩; replace HB := Aside0.mk (below_step (kH HB) hb); (try clear hb); (try clear hb2); (try clear hk); (try clear hi)) | ((with_reducible refine gate_callee (f := 23) rfl ?_); refine goesL_ (some 79) rfl rfl Try.func23 (by kernel_rfl) rfl #[.int .u64 a0, .int .u64 a1, .int .u64 (Go.bits .xor .u64 q1 9223372036854775808), .int .i64 0] rfl LMq ?_; (with_reducible refine (prod_Fma.calls kj3 a0 a1 (Go.bits .xor .u64 q1 9223372036854775808) 0 q6 qc _ A17.out).mono ?_); rintro e w23 ⟨rfl, hb⟩; refine ⟨_, rfl, ?_⟩; replace HB := Aside0.mk (below_step (kH HB) hb); (try clear hb); (try clear hb2); (try clear hk); (try clear hi)) | (go_at_call 25; (with_reducible refine (tillerlaw06_sure.calls kj3  q5 _ A21.out).mono ?_); rintro e w24 ⟨rfl, hb⟩; replace HB := Aside0.mk (below_step (kH HB) hb); (try clear hb); (try clear hb2); (try clear hk); (try clear hi)))
         go_ret
         exact ⟨by first | rfl | (simp [errW_none, errW_some] <;> rfl) | (simp [*, errW_none, errW_some] <;> rfl), kH HB⟩
       rw [if_neg c20] at H
       have qw : (q6 == q3) = false := beq_eq_false_iff_ne.mpr c20; have qx : (q6 != q3) = true := bne_iff_ne.mpr c20; obtain rfl := Option.some.inj H
       go_wp2_with (first | ((with_reducible refine gate_callee (f := 23) rfl ?_); refine goesL_ (some 71) rfl rfl Try.func23 (by kernel_rfl) rfl #[.int .u64 a0, .int .u64 a1, .int .u64 (Go.bits .xor .u64 q3 9223372036854775808), .int .i64 0] rfl LMq ?_; (with_reducible refine (prod_Fma.calls kj3 a0 a1 (Go.bits .xor .u64 q3 9223372036854775808) 0 q1 q4 _ A16.out).mono ?_); rintro e w25 ⟨rfl, hb⟩; refine ⟨_, rfl, ?_⟩; replace HB := Aside0.mk (below_step (kH HB) hb); (try clear hb); (try clear hb2); (try clear hk); (try clear hi)) | ((with_reducible refine gate_callee (f := 23) rfl ?_); refine goesL_ (some 79) rfl rfl Try.func23 (by kernel_rfl) rfl #[.int .u64 a0, .int .u64 a1, .int .u64 (Go.bits .xor .u64 q1 9223372036854775808), .int .i64 0] rfl LMq ?_; (with_reducible refine (prod_Fma.calls kj3 a0 a1 (Go.bits .xor .u64 q1 9223372036854775808) 0 q6 qc _ A17.out).mono ?_); rintro e w26 ⟨rfl, hb⟩; refine ⟨_, rfl, ?_⟩; replace HB := Aside0.mk (below_step (kH HB) hb); (try clear hb); (try clear hb2); (try clear hk); (try clear hi)))
       go_ret
       exact ⟨by first | rfl | (simp [errW_none, errW_some] <;> rfl) | (simp [*, errW_none, errW_some] <;> rfl), kH HB⟩
     rw [if_neg c19] at H
     have qr : (((Go.bits .andNot .u64 q1 9223372036854775808) != 0) == (q0 == 16)) = false := by simpa using c19
     (try (have qs : decide (((Go.bits .andNot .u64 q1 9223372036854775808) != 0) = (q0 == 16)) = false := by simpa using c19))
     (try (have qt : (((Go.bits .andNot .u64 q1 9223372036854775808) != 0) == (q0 == 16)) = false := by simpa using c19))
     (try (have qu : (Go.bits .andNot .u64 q1 9223372036854775808) = 0 := by first | (refine (fun (c_ : (((Go.bits .andNot .u64 q1 9223372036854775808) != 0) == (q0 == 16)) = true) (h_ : (q0 == 16) = false) => (by rw [h_] at c_; simpa using c_ : (Go.bits .andNot .u64 q1 9223372036854775808) = 0)) c19 ?_; assumption) | (refine (fun (c_ : ¬ (((Go.bits .andNot .u64 q1 9223372036854775808) != 0) == (q0 == 16)) = true) (h_ : (q0 == 16) = true) => (by rw [h_] at c_; simpa using c_ : (Go.bits .andNot .u64 q1 9223372036854775808) = 0)) c19 ?_; assumption)))
     (try (have qv : ¬ (Go.bits .andNot .u64 q1 9223372036854775808) = 0 := by first | (refine (fun (c_ : (((Go.bits .andNot .u64 q1 9223372036854775808) != 0) == (q0 == 16)) = true) (h_ : (q0 == 16) = true) => (by rw [h_] at c_; simpa using c_ : ¬ (Go.bits .andNot .u64 q1 9223372036854775808) = 0)) c19 ?_; assumption) | (refine (fun (c_ : ¬ (((Go.bits .andNot .u64 q1 9223372036854775808) != 0) == (q0 == 16)) = true) (h_ : (q0 == 16) = false) => (by rw [h_] at c_; simpa using c_ : ¬ (Go.bits .andNot .u64 q1 9223372036854775808) = 0)) c19 ?_; assumption)))
     (try (have c19b5 : ¬ (((Go.bits .andNot .u64 q1 9223372036854775808) != 0) = (q0 == 16)) := by simpa using c19))
     clear c19; obtain rfl := Option.some.inj H
     go_wp2_with (first | ((with_reducible refine gate_callee (f := 23) rfl ?_); refine goesL_ (some 71) rfl rfl Try.func23 (by kernel_rfl) rfl #[.int .u64 a0, .int .u64 a1, .int .u64 (Go.bits .xor .u64 q3 9223372036854775808), .int .i64 0] rfl LMq ?_; (with_reducible refine (prod_Fma.calls kj3 a0 a1 (Go.bits .xor .u64 q3 9223372036854775808) 0 q1 q4 _ A16.out).mono ?_); rintro e w27 ⟨rfl, hb⟩; refine ⟨_, rfl, ?_⟩; replace HB := Aside0.mk (below_step (kH HB) hb); (try clear hb); (try clear hb2); (try clear hk); (try clear hi)) | ((with_reducible refine gate_callee (f := 23) rfl ?_); refine goesL_ (some 79) rfl rfl Try.func23 (by kernel_rfl) rfl #[.int .u64 a0, .int .u64 a1, .int .u64 (Go.bits .xor .u64 q1 9223372036854775808), .int .i64 0] rfl LMq ?_; (with_reducible refine (prod_Fma.calls kj3 a0 a1 (Go.bits .xor .u64 q1 9223372036854775808) 0 q6 qc _ A17.out).mono ?_); rintro e w28 ⟨rfl, hb⟩; refine ⟨_, rfl, ?_⟩; replace HB := Aside0.mk (below_step (kH HB) hb); (try clear hb); (try clear hb2); (try clear hk); (try clear hi)))
     go_ret
     exact ⟨by first | rfl | (simp [errW_none, errW_some] <;> rfl) | (simp [*, errW_none, errW_some] <;> rfl), kH HB⟩
   rw [if_neg c18] at H
   have qp : (q4 == 0) = false := beq_eq_false_iff_ne.mpr c18; have qq : (q4 != 0) = true := bne_iff_ne.mpr c18; obtain rfl := Option.some.inj H
   go_wp2_with (first | ((with_reducible refine gate_callee (f := 23) rfl ?_); refine goesL_ (some 71) rfl rfl Try.func23 (by kernel_rfl) rfl #[.int .u64 a0, .int .u64 a1, .int .u64 (Go.bits .xor .u64 q3 9223372036854775808), .int .i64 0] rfl LMq ?_; (with_reducible refine (prod_Fma.calls kj3 a0 a1 (Go.bits .xor .u64 q3 9223372036854775808) 0 q1 q4 _ A16.out).mono ?_); rintro e w29 ⟨rfl, hb⟩; refine ⟨_, rfl, ?_⟩; replace HB := Aside0.mk (below_step (kH HB) hb); (try clear hb); (try clear hb2); (try clear hk); (try clear hi)) | ((with_reducible refine gate_callee (f := 23) rfl ?_); refine goesL_ (some 79) rfl rfl Try.func23 (by kernel_rfl) rfl #[.int .u64 a0, .int .u64 a1, .int .u64 (Go.bits .xor .u64 q1 9223372036854775808), .int .i64 0] rfl LMq ?_; (with_reducible refine (prod_Fma.calls kj3 a0 a1 (Go.bits .xor .u64 q1 9223372036854775808) 0 q6 qc _ A17.out).mono ?_); rintro e w30 ⟨rfl, hb⟩; refine ⟨_, rfl, ?_⟩; replace HB := Aside0.mk (below_step (kH HB) hb); (try clear hb); (try clear hb2); (try clear hk); (try clear hi)))
   go_ret
   exact ⟨by first | rfl | (simp [errW_none, errW_some] <;> rfl) | (simp [*, errW_none, errW_some] <;> rfl), kH HB⟩
def tillerlaw06_ProdRest.Pure : Prop := ∀ (a0 : Int) (a1 : Int), (Lit.int .u64 a0).wf = true → (Lit.int .u64 a1).wf = true → ∃ k, tillerlaw06_ProdRest.f k a0 a1 = some true
theorem tillerlaw06_ProdRest.walk (P : tillerlaw06_ProdRest.Pure) (a0 : Int) (a1 : Int) (w : World) (w0 : (Lit.int .u64 a0).wf = true) (w1 : (Lit.int .u64 a1).wf = true) :
 Calls Try.prog 11 #[.int .u64 a0, .int .u64 a1] w fun e w' => e = .returned (.bool true) ∧ Below w.heap.size w w' := by
 obtain ⟨k, h⟩ := P a0 a1 w0 w1; refine (tillerlaw06_ProdRest.calls k a0 a1 true w h).mono ?_; rintro e w' ⟨rfl, hd⟩; exact ⟨rfl, hd⟩
end Go.Proofs.Ytbgefpeicmbgiaa.X
end

section
namespace Go.Proofs.Ytbgefpeicmbgiaa
set_option linter.unusedVariables false
set_option linter.unusedSimpArgs false
open Go.RowKit
theorem pV_pat {q : Nat} {n : Int} (h0 : -1074 ≤ n) (hq : q ≤ 9007199254740992) (h52 : q < 4503599627370496 → n = -1074) (hP : (q : Int) + (n + 1074) * 4503599627370496 < 9218868437227405312) :
    pC ((q : Int) + (n + 1074) * 4503599627370496) < 3 ∧ pV ((q : Int) + (n + 1074) * 4503599627370496) = q * 2 ^ (n + 1074).toNat := by
  generalize hp : (q : Int) + (n + 1074) * 4503599627370496 = P at *
  have h3 : pC P < 3 := fin_of (by omega) hP
  refine ⟨h3, ?_⟩
  have hE : pE P = P / 4503599627370496 % 2048 := rfl
  have hF : pF P = P % 4503599627370496 := rfl
  by_cases c : q < 4503599627370496
  · have := h52 c
    subst this
    rcases pV_eq h3 with ⟨a, b⟩ | ⟨a, b, d⟩
    · rw [b, show ((-1074 : Int) + 1074).toNat = 0 from rfl, Nat.pow_zero, Nat.mul_one]; omega
    · exfalso; omega
  · rcases pV_eq h3 with ⟨a, b⟩ | ⟨a, b, d⟩
    · exfalso; omega
    · rw [d]
      by_cases e : q = 9007199254740992
      · obtain ⟨k, hk⟩ : ∃ k, (n + 1074).toNat = k := ⟨_, rfl⟩
        have e1 : (pE P - 1).toNat = k + 1 := by omega
        have e2 : (pF P).toNat = 0 := by omega
        rw [e1, e2, hk, e, Nat.pow_succ, Nat.zero_add, Nat.mul_comm (2 ^ k) 2, ← Nat.mul_assoc]
      · have e1 : (pE P - 1).toNat = (n + 1074).toNat := by omega
        have e2 : (pF P).toNat + 4503599627370496 = q := by omega
        rw [e1, e2]
theorem round_val (mi : Bool) (x : Int) {s : Nat} (m : Int) (hs : s ≠ 0) (h : PQ mi x s m < 9218868437227405312) :
    ∃ p, 0 ≤ p ∧ p < 9218868437227405312 ∧ pC p < 3 ∧ pV p = (cutQ s x (rN x s) + uu mi x s m) * 2 ^ (rN x s + 1074).toNat ∧ rRound mi x s m = (p + sg mi, rFlag mi x s m) := by
  have hlt := cutQ53_lt (x := x) hs
  have hge := cutQ_ge (x := x) hs
  have hn := rN_ge x s
  have hu := uu_le mi x s m
  rw [show (2 : Nat) ^ 53 = 9007199254740992 from rfl] at hlt
  rw [show (2 : Nat) ^ 52 = 4503599627370496 from rfl] at hge
  have hp := PQ_ge mi x s m
  unfold PQ at h hp
  obtain ⟨c, v⟩ := pV_pat (q := cutQ s x (rN x s) + uu mi x s m) hn (by omega) (fun g => by omega) h
  refine ⟨_, hp, h, c, v, ?_⟩
  rw [round_eq _ _ _ _ hs]
  unfold PQ
  rw [if_neg (by omega)]
end Go.Proofs.Ytbgefpeicmbgiaa
end
section
namespace Go.Proofs.Ytbgefpeicmbgiaa
set_option linter.unusedVariables false
set_option linter.unusedSimpArgs false
open Go.RowKit X
theorem round_V {e : Int} {s : Nat} {p : Int} (he : -1074 ≤ e) (p0 : 0 ≤ p) (p1 : p < 9218868437227405312) (h : s * 2 ^ (e + 1074).toNat = pV p) (mi : Bool) (m : Int) : rRound mi e s m = (p + sg mi, 0) := by
  have hp := fin_of p0 p1
  have hx := pX_bd p
  have h1 := round_scale mi e s (e + 1074).toNat m
  have h2 := round_scale mi (pX p) (pS p).toNat (pX p + 1074).toNat m
  have h3 := round_exact (sgU p0 (by omega) mi) (by rw [(C_same (sgAA p mi)).1]; exact hp) 0 m
  obtain ⟨_, c2, c3⟩ := C_same (sgAA p mi)
  rw [sgM p0 (by omega) mi, c2, c3, Nat.pow_zero, Nat.mul_one, show pX p - ((0 : Nat) : Int) = pX p by omega] at h3
  rw [h, show e - (((e + 1074).toNat : Nat) : Int) = -1074 by omega] at h1
  have e2 : (pS p).toNat * 2 ^ (pX p + 1074).toNat = pV p := rfl
  rw [e2, show pX p - (((pX p + 1074).toNat : Nat) : Int) = -1074 by omega] at h2
  rw [← h1, h2, h3]
theorem sSum_diff {mx : Bool} {ex ey : Int} {sx sy : Nat} (m : Int) (hx : sx ≠ 0) (h0 : -1074 ≤ ex) (g0 : -1074 ≤ ey) :
    ∃ mi e s, sSum mx ex sx (!mx) ey sy m = (mi, e, s) ∧ -1074 ≤ e ∧
      (sy * 2 ^ (ey + 1074).toNat < sx * 2 ^ (ex + 1074).toNat → mi = mx ∧ s * 2 ^ (e + 1074).toNat = sx * 2 ^ (ex + 1074).toNat - sy * 2 ^ (ey + 1074).toNat) ∧
      (sx * 2 ^ (ex + 1074).toNat < sy * 2 ^ (ey + 1074).toNat → mi = (!mx) ∧ s * 2 ^ (e + 1074).toNat = sy * 2 ^ (ey + 1074).toNat - sx * 2 ^ (ex + 1074).toNat) ∧
      (sx * 2 ^ (ex + 1074).toNat = sy * 2 ^ (ey + 1074).toNat → mi = decide (m = 4) ∧ s = 0) := by
  have hne : ¬ mx = !mx := by cases mx <;> decide
  have hxp : 0 < sx * 2 ^ (ex + 1074).toNat := Nat.mul_pos (by omega) (Nat.two_pow_pos _)
  unfold sSum
  rw [if_neg hx]
  by_cases zy : sy = 0
  · subst zy
    rw [if_pos rfl]
    refine ⟨mx, ex, sx, rfl, h0, fun _ => ⟨rfl, by rw [Nat.zero_mul, Nat.sub_zero]⟩, fun h => ?_, fun h => ?_⟩
    · rw [Nat.zero_mul] at h; omega
    · rw [Nat.zero_mul] at h; omega
  · rw [if_neg zy, if_neg hne, if_neg hne]
    by_cases c : ey ≤ ex
    · have e1 : sx * 2 ^ (ex + 1074).toNat = sx * 2 ^ (ex - ey).toNat * 2 ^ (ey + 1074).toNat := by
        rw [Nat.mul_assoc, ← Nat.pow_add]; congr 2; omega
      have pp := Nat.two_pow_pos (ey + 1074).toNat
      rw [if_pos c, e1]
      generalize sx * 2 ^ (ex - ey).toNat = A at *
      by_cases z : A = sy
      · rw [if_pos z]
        subst z
        exact ⟨_, _, _, rfl, g0, fun h => absurd h (Nat.lt_irrefl _), fun h => absurd h (Nat.lt_irrefl _), fun _ => ⟨rfl, rfl⟩⟩
      · rw [if_neg z]
        by_cases g : sy < A
        · rw [if_pos g]
          have := Nat.mul_lt_mul_of_pos_right g pp
          exact ⟨_, _, _, rfl, g0, fun _ => ⟨rfl, Nat.sub_mul _ _ _⟩, fun h => by omega, fun h => by omega⟩
        · rw [if_neg g]
          have := Nat.mul_lt_mul_of_pos_right (show A < sy by omega) pp
          exact ⟨_, _, _, rfl, g0, fun h => by omega, fun _ => ⟨rfl, Nat.sub_mul _ _ _⟩, fun h => by omega⟩
    · have e1 : sy * 2 ^ (ey + 1074).toNat = sy * 2 ^ (ey - ex).toNat * 2 ^ (ex + 1074).toNat := by
        rw [Nat.mul_assoc, ← Nat.pow_add]; congr 2; omega
      have pp := Nat.two_pow_pos (ex + 1074).toNat
      rw [if_neg c, e1]
      generalize sy * 2 ^ (ey - ex).toNat = A at *
      by_cases z : A = sx
      · rw [if_pos z]
        subst z
        exact ⟨_, _, _, rfl, h0, fun h => absurd h (Nat.lt_irrefl _), fun h => absurd h (Nat.lt_irrefl _), fun _ => ⟨rfl, rfl⟩⟩
      · rw [if_neg z]
        by_cases g : sx < A
        · rw [if_pos g]
          have := Nat.mul_lt_mul_of_pos_right g pp
          exact ⟨_, _, _, rfl, h0, fun h => by omega, fun _ => ⟨rfl, Nat.sub_mul _ _ _⟩, fun h => by omega⟩
        · rw [if_neg g]
          have := Nat.mul_lt_mul_of_pos_right (show A < sx by omega) pp
          exact ⟨_, _, _, rfl, h0, fun _ => ⟨rfl, Nat.sub_mul _ _ _⟩, fun h => by omega, fun h => by omega⟩
theorem left_fit {mi : Bool} {E : Int} {S : Nat} (m : Int) (hS : S ≠ 0) (hS2 : S < 2 ^ 106) (hE : -1000 ≤ E) (hE2 : E ≤ 900) (h : PQ mi E S m < 9218868437227405312) :
    ∃ p D, 0 ≤ p ∧ p < 9218868437227405312 ∧ rRound mi E S m = (p + sg mi, rFlag mi E S m) ∧ 0 < pV p ∧ D < 2 ^ 53 ∧
      (pV p + D * 2 ^ (E + 1074).toNat = S * 2 ^ (E + 1074).toNat ∨ pV p = S * 2 ^ (E + 1074).toNat + D * 2 ^ (E + 1074).toNat) ∧ (D = 0 ↔ rOdd S E (rN E S) = false) := by
  obtain ⟨p, p0, p1, p2, p3, p4⟩ := round_val mi E m hS h
  have hb : blen S ≤ 106 := blen_le_iff.2 hS2
  have hb1 := blen_pos hS
  have hn : rN E S = E + (blen S : Int) - 53 := by rcases rN_cases E S with g | g <;> omega
  have pE' := Nat.two_pow_pos (E + 1074).toNat
  by_cases c : rN E S ≤ E
  · obtain ⟨c1, c2⟩ := cut_fit (s := S) c
    have ho : rOdd S E (rN E S) = false := by unfold rOdd; rw [c1, c2]; rfl
    rw [uu_exact _ _ _ _ ho, Nat.add_zero, cutQ_no_mod hS c, Nat.mul_assoc, ← Nat.pow_add, show (E - rN E S).toNat + (rN E S + 1074).toNat = (E + 1074).toNat by omega] at p3
    refine ⟨p, 0, p0, p1, p4, by rw [p3]; exact Nat.mul_pos (by omega) pE', by decide, .inl (by rw [p3]; omega), ?_⟩
    rw [ho]
    exact ⟨fun _ => rfl, fun _ => rfl⟩
  · obtain ⟨k, hk⟩ : ∃ k, (rN E S - E).toNat = k := ⟨_, rfl⟩
    have hk53 : k ≤ 53 := by omega
    have pk := Nat.two_pow_pos k
    have hQ : cutQ S E (rN E S) = S / 2 ^ k := by unfold cutQ; rw [if_neg c, hk]
    have hod := odd_of S (e := E) (n := rN E S) (by omega)
    rw [hk] at hod
    have hdm := Nat.div_add_mod S (2 ^ k)
    have hml := Nat.mod_lt S pk
    have h53 : 2 ^ k ≤ 2 ^ 53 := Nat.pow_le_pow_right (by omega) hk53
    have hge := cutQ_ge (x := E) hS (by omega)
    rw [hQ] at hge
    have hge0 : 0 < S / 2 ^ k := Nat.lt_of_lt_of_le (Nat.two_pow_pos 52) hge
    have e1 : (rN E S + 1074).toNat = k + (E + 1074).toNat := by omega
    rw [hQ, e1, Nat.pow_add, ← Nat.mul_assoc] at p3
    have hu := uu_le mi E S m
    have huz : S % 2 ^ k = 0 → uu mi E S m = 0 := fun z => uu_exact _ _ _ _ (by rw [hod, z]; rfl)
    have hpos : 0 < pV p := by rw [p3]; exact Nat.mul_pos (Nat.mul_pos (by omega) pk) pE'
    rw [Nat.mul_comm] at hdm
    rcases (show uu mi E S m = 0 ∨ uu mi E S m = 1 by omega) with g | g
    · rw [g, Nat.add_zero] at p3
      refine ⟨p, S % 2 ^ k, p0, p1, p4, hpos, by omega, .inl ?_, ?_⟩
      · rw [p3, ← Nat.add_mul, hdm]
      · rw [hod]
        constructor
        · intro z; rw [z]; rfl
        · intro z; have := of_decide_eq_false z; omega
    · rw [g, Nat.add_mul, Nat.one_mul] at p3
      have hz : S % 2 ^ k ≠ 0 := fun z => by have := huz z; omega
      refine ⟨p, 2 ^ k - S % 2 ^ k, p0, p1, p4, hpos, by omega, .inr ?_, ?_⟩
      · rw [p3, ← Nat.add_mul]
        congr 1
        omega
      · rw [hod, decide_eq_true hz]
        constructor
        · intro z; omega
        · intro z; exact absurd z (by decide)
theorem rest_j0t (k : Nat) (a b p f : Int) : tillerlaw06_ProdRest.j0 (k + 13) a b p f true = some true := by
  simp only [tillerlaw06_ProdRest.j0]
  rw [if_pos trivial, sure06 k]
  rfl
theorem pE_u64 {a : Int} (ha : U a) : bits .and .u64 (a / 4503599627370496) 2047 = pE a := by
  unfold U at ha
  exact bits_mask .u64 64 (by decide) (fun n h0 h1 => by rw [IntKind.wrap_u64]; omega) 11 (by decide) (a / 4503599627370496) (by omega) (by omega)
theorem rest_j0f (k : Nat) {a b : Int} (ha : U a) (hb : U b) (fa : pC a < 3) (fb : pC b < 3) (na : pE a ≠ 0) (nb : pE b ≠ 0) (e0 : 1200 ≤ pE a + pE b) (e1 : pE a + pE b ≤ 3000) (hf : (qMul a b 0).2 = 0 ∨ (qMul a b 0).2 = 16) :
    tillerlaw06_ProdRest.j0 (k + 13) a b (qMul a b 0).1 (qMul a b 0).2 false = some true := by
  have ba := pE_bd a
  have bb := pE_bd b
  have Fa := pF_bd a
  have Fb := pF_bd b
  have Ea := pE_fin fa
  have Eb := pE_fin fb
  have xa : pX a = pE a - 1075 := by unfold pX; rw [if_neg (by omega), if_pos (by omega)]
  have xb : pX b = pE b - 1075 := by unfold pX; rw [if_neg (by omega), if_pos (by omega)]
  have sa : pS a ≠ 0 := by unfold pS; rw [if_neg (by omega), if_pos (by omega)]; omega
  have sb : pS b ≠ 0 := by unfold pS; rw [if_neg (by omega), if_pos (by omega)]; omega
  have s1 := pS_bd a
  have s2 := pS_bd b
  have hS : (pS a).toNat * (pS b).toNat ≠ 0 := Nat.mul_ne_zero (by omega) (by omega)
  have hc : ¬ bad a b = true := fun h => by
    have := (bad_iff a b).1 h
    have z1 := zero_iff (a := a)
    have z2 := zero_iff (a := b)
    rw [pA_EF] at z1 z2
    omega
  have hq : qMul a b 0 = rRound (qMi a b) (pX a + pX b) ((pS a).toNat * (pS b).toNat) 0 := by
    unfold qMul
    rw [if_neg (by omega), if_neg hc, if_neg (by omega)]
  have hqf : ∀ c, U c → pC c < 3 → qFma a b c 0 = qSumR (qMi a b) (pX a + pX b) ((pS a).toNat * (pS b).toNat) (pM c) (pX c) (pS c).toNat 0 := fun c _ h => by
    unfold qFma
    rw [if_neg hc, if_neg (by omega), if_neg (by omega), if_neg (by omega)]
  generalize hSS : (pS a).toNat * (pS b).toNat = S at *
  have hSl : S < 2 ^ 106 := by rw [← hSS]; exact prod_lt a b
  generalize hE : pX a + pX b = E at *
  generalize qMi a b = mi at *
  have hP : PQ mi E S 0 < 9218868437227405312 := by
    rcases (show PQ mi E S 0 < 9218868437227405312 ∨ 9218868437227405312 ≤ PQ mi E S 0 by omega) with g | g
    · exact g
    · exfalso
      rw [hq, round_eq _ _ _ _ hS, if_pos g] at hf
      rcases hf with h | h
      · exact absurd h (show ¬ (20 : Int) = 0 by decide)
      · exact absurd h (show ¬ (20 : Int) = 16 by decide)
  obtain ⟨p, D, p0, p1, p2, p3, p4, p5, p6⟩ := left_fit 0 hS hSl (by omega) (by omega) hP
  have hfl : (qMul a b 0).2 = rFlag mi E S 0 := by rw [hq, p2]
  have pf := fin_of p0 p1
  obtain ⟨r, r0, r1, r2, r3, _⟩ := round_fit (x := E) p4 (by omega) (by omega)
  have key : ∃ c : Bool, qFma a b (p + sg (!mi)) 0 = (r + sg c, 0) ∧ (pV p + pV r = S * 2 ^ (E + 1074).toNat ∧ (c = mi ∨ pV r = 0) ∨ pV p = S * 2 ^ (E + 1074).toNat + pV r ∧ c = (!mi)) := by
    obtain ⟨cc, cx, cs⟩ := C_same (sgAA p (!mi))
    have xp := pX_bd p
    rw [hqf _ (sgU p0 (by omega) _) (by rw [cc]; exact pf), sgM p0 (by omega), cx, cs]
    unfold qSumR
    obtain ⟨mj, e, s, q1, q2, q3, q4, q5⟩ := sSum_diff (mx := mi) (ex := E) (ey := pX p) (sx := S) (sy := (pS p).toNat) 0 hS (by omega) xp.1
    have hVp : (pS p).toNat * 2 ^ (pX p + 1074).toNat = pV p := rfl
    rw [hVp] at q3 q4 q5
    rw [q1]
    dsimp only
    rcases p5 with h | h
    · rw [← r3] at h
      rcases Nat.eq_zero_or_pos (pV r) with z | z
      · obtain ⟨g1, g2⟩ := q5 (by omega)
        refine ⟨mj, ?_, .inl ⟨h, .inr z⟩⟩
        exact round_V q2 r0 r1 (by rw [g2, Nat.zero_mul, z]) mj 0
      · obtain ⟨g1, g2⟩ := q3 (by omega)
        refine ⟨mj, round_V q2 r0 r1 (by rw [g2]; omega) mj 0, .inl ⟨h, .inl g1⟩⟩
    · rw [← r3] at h
      rcases Nat.eq_zero_or_pos (pV r) with z | z
      · obtain ⟨g1, g2⟩ := q5 (by omega)
        refine ⟨mj, ?_, .inl ⟨by omega, .inr z⟩⟩
        exact round_V q2 r0 r1 (by rw [g2, Nat.zero_mul, z]) mj 0
      · obtain ⟨g1, g2⟩ := q4 (by omega)
        refine ⟨mj, round_V q2 r0 r1 (by rw [g2]; omega) mj 0, .inr ⟨h, g1⟩⟩
  obtain ⟨c, k1, k2⟩ := key
  have back : qFma a b (r + sg (!c)) 0 = (p + sg mi, 0) := by
    obtain ⟨cc, cx, cs⟩ := C_same (sgAA r (!c))
    have xr := pX_bd r
    rw [hqf _ (sgU r0 (by omega) _) (by rw [cc]; exact r2), sgM r0 (by omega), cx, cs]
    unfold qSumR
    have hVr : (pS r).toNat * 2 ^ (pX r + 1074).toNat = pV r := rfl
    by_cases z : pV r = 0
    · have hs0 : (pS r).toNat = 0 := by
        rw [← hVr] at z
        rcases Nat.mul_eq_zero.1 z with g | g
        · exact g
        · have := Nat.two_pow_pos (pX r + 1074).toNat; omega
      have hs : sSum mi E S (!c) (pX r) (pS r).toNat 0 = (mi, E, S) := by
        unfold sSum
        rw [if_neg hS, if_pos hs0]
      rw [hs]
      show rRound mi E S 0 = (p + sg mi, 0)
      exact round_V (by omega) p0 p1 (by rcases k2 with ⟨g, _⟩ | ⟨g, _⟩ <;> omega) mi 0
    · rcases k2 with ⟨g, g2⟩ | ⟨g, g2⟩
      · have hcm : c = mi := g2.resolve_right z
        subst hcm
        obtain ⟨mj, e, s, q1, q2, q3, q4, q5⟩ := sSum_diff (mx := c) (ex := E) (ey := pX r) (sx := S) (sy := (pS r).toNat) 0 hS (by omega) xr.1
        rw [hVr] at q3
        obtain ⟨g3, g4⟩ := q3 (by omega)
        rw [q1]
        dsimp only
        rw [g3]
        exact round_V q2 p0 p1 (by rw [g4]; omega) c 0
      · subst g2
        rw [Bool.not_not]
        have hs : ∃ e s, sSum mi E S mi (pX r) (pS r).toNat 0 = (mi, e, s) ∧ -1074 ≤ e ∧ s * 2 ^ (e + 1074).toNat = S * 2 ^ (E + 1074).toNat + pV r := by
          have hs0 : (pS r).toNat ≠ 0 := fun h => z (by rw [← hVr, h, Nat.zero_mul])
          unfold sSum
          rw [if_neg hS, if_neg hs0, if_pos rfl, if_pos rfl]
          by_cases c2 : pX r ≤ E
          · rw [if_pos c2]
            refine ⟨_, _, rfl, xr.1, ?_⟩
            rw [Nat.add_mul, hVr, Nat.mul_assoc, ← Nat.pow_add, show (E - pX r).toNat + (pX r + 1074).toNat = (E + 1074).toNat by omega]
          · rw [if_neg c2]
            refine ⟨_, _, rfl, by omega, ?_⟩
            rw [Nat.add_mul, Nat.mul_assoc, ← Nat.pow_add, show (pX r - E).toNat + (E + 1074).toNat = (pX r + 1074).toNat by omega, hVr, Nat.add_comm]
        obtain ⟨e, s, q1, q2, q3⟩ := hs
        rw [q1]
        dsimp only
        exact round_V q2 p0 p1 (by rw [q3]; omega) mi 0
  have hUp := sgU p0 (by omega) mi
  have hUr := sgU r0 (by omega) c
  have hrz : r = 0 ↔ pV r = 0 := by
    rw [pV_zero r2, pA_self r0 (by omega)]
  have hfz : rFlag mi E S 0 = 16 ↔ ¬ pV r = 0 := by
    have hD : pV r = 0 ↔ D = 0 := by
      rw [r3]
      have := Nat.two_pow_pos (E + 1074).toNat
      constructor
      · intro h; rcases Nat.mul_eq_zero.1 h with g | g <;> omega
      · intro h; rw [h, Nat.zero_mul]
    rw [hD, p6]
    rw [hfl] at hf
    rcases rFlag_cases mi E S 0 with ⟨g1, g2⟩ | ⟨g1, g2⟩
    · rw [g2]; constructor
      · intro h; omega
      · intro h; exact absurd rfl h
    · rw [g2]; constructor
      · intro _ h; exact absurd h (by decide)
      · intro _; omega
  rw [hq, p2] at hfl ⊢
  simp only [tillerlaw06_ProdRest.j0]
  rw [if_neg (by decide), bxor_M _ hUp, pN_sg p0 (by omega), fma_spec (k + 4) 0 ha hb (sgU p0 (by omega) _), Option.bind_some, k1]
  dsimp only
  rw [bxor_M _ hUr, pN_sg r0 (by omega), fma_spec (k + 4) 0 ha hb (sgU r0 (by omega) _), Option.bind_some, back]
  dsimp only
  rw [if_pos rfl, bandnot_M _ hUr, sgA r0 (by omega), sure06 k]
  have hb2 : ((r != 0) == (rFlag mi E S 0 == 16)) = true := by
    by_cases z : pV r = 0
    · have : r = 0 := hrz.2 z
      have g : ¬ rFlag mi E S 0 = 16 := fun h => hfz.1 h z
      rw [this, beq_eq_false_iff_ne.mpr g]; rfl
    · have : r ≠ 0 := fun h => z (hrz.1 h)
      rw [bne_iff_ne.mpr this, beq_iff_eq.mpr (hfz.2 z)]; rfl
  rw [if_pos hb2, if_pos rfl]
  rfl
theorem ProdRest : tillerlaw06_ProdRest.Pure := by
  intro a b w0 w1
  have ha := U_wf w0
  have hb := U_wf w1
  have ba := pE_bd a
  have bb := pE_bd b
  refine ⟨13, ?_⟩
  have T := fun p f => rest_j0t 0 a b p f
  unfold tillerlaw06_ProdRest.f
  rw [mul_spec 8 0 ha hb, Option.bind_some, pE_u64 ha, pE_u64 hb, bandnot_M a ha, bandnot_M b hb]
  have ew : wrap64 (wrap64 (pE a) + wrap64 (pE b)) = pE a + pE b := by unfold wrap64; omega
  rw [ew]
  by_cases h1 : bits .andNot .u8 (qMul a b 0).2 16 = 0
  · rw [if_pos h1]
    by_cases h2 : bits .andNot .u64 (qMul a b 0).1 9223372036854775808 ≥ 9218868437227405312
    · rw [if_pos h2]; exact T _ _
    · rw [if_neg h2]
      by_cases h3 : pE a + pE b < 1200
      · rw [if_pos h3]; exact T _ _
      · rw [if_neg h3]
        by_cases h4 : pE a + pE b > 3000
        · rw [if_pos h4]; exact T _ _
        · rw [if_neg h4]
          by_cases h5 : pA a ≥ 9218868437227405312
          · rw [if_pos h5]; exact T _ _
          · rw [if_neg h5]
            by_cases h6 : pA b ≥ 9218868437227405312
            · rw [if_pos h6]; exact T _ _
            · rw [if_neg h6]
              by_cases h7 : pE a = 0
              · rw [if_pos h7]; exact T _ _
              · rw [if_neg h7]
                by_cases h8 : pE b = 0
                · rw [beq_iff_eq.mpr h8]; exact T _ _
                · rw [beq_eq_false_iff_ne.mpr h8]
                  have fa := (fin_iff a ha).1 (by omega)
                  have fb := (fin_iff b hb).1 (by omega)
                  refine rest_j0f 0 ha hb fa fb h7 h8 (by omega) (by omega) ?_
                  have hset : (qMul a b 0).2 = 0 ∨ (qMul a b 0).2 = 1 ∨ (qMul a b 0).2 = 16 ∨ (qMul a b 0).2 = 24 ∨ (qMul a b 0).2 = 20 := by
                    unfold qMul qNone
                    split
                    · dsimp only; split <;> simp
                    · split
                      · simp
                      · split
                        · simp
                        · by_cases z : (pS a).toNat * (pS b).toNat = 0
                          · unfold rRound; rw [if_pos z]; simp
                          · rw [round_eq _ _ _ _ z]
                            split
                            · simp
                            · rcases rFlag_cases (qMi a b) (pX a + pX b) ((pS a).toNat * (pS b).toNat) 0 with g | g
                              · left; exact g.1
                              · rcases g.1 with g | g
                                · right; right; left; exact g
                                · right; right; right; left; exact g
                  rcases hset with g | g | g | g | g
                  · exact .inl g
                  · rw [g] at h1; exact absurd h1 (by decide)
                  · exact .inr g
                  · rw [g] at h1; exact absurd h1 (by decide)
                  · rw [g] at h1; exact absurd h1 (by decide)
  · rw [if_neg h1]; exact T _ _
end Go.Proofs.Ytbgefpeicmbgiaa
end
section
namespace Go.Proofs.Ytbgefpeicmbgiaa.Pure
set_option linter.unusedVariables false
set_option linter.unusedSimpArgs false
theorem ProdRest : Go.Proofs.Ytbgefpeicmbgiaa.X.tillerlaw06_ProdRest.Pure := Go.Proofs.Ytbgefpeicmbgiaa.ProdRest
end Go.Proofs.Ytbgefpeicmbgiaa.Pure
end
