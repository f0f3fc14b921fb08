import Derived.Test.YtedjlpfggjcmfaaKQ4
import Derived.Test.YtedjlpfggjcmfaaKQXprodMul
import Derived.Test.YtedjlpfggjcmfaaKQXquotSqrt
import Derived.Test.YtedjlpfggjcmfaaKQ9
namespace Go.Proofs.Ytedjlpfggjcmfaa.X
open Go.RowKit Go.Proofs.YtedjlpfggjcmfaaW.PrintWords Go.Proofs.YtedjlpfggjcmfaaW.PrintLast Go.Proofs.YtedjlpfggjcmfaaW.PrintMore
attribute [local go_sem] max2_int min2_int max_two min_two max_three min_three max_four min_four   
set_option linter.unusedVariables false
set_option linter.unusedSimpArgs false
mutual
def tillerlaw07_QuotSquares.j0 : Nat → Int → Int → Int → Bool → Option (Bool)
 | 0, _, _, _, _ => none
 | k + 1, x0, x1, x5, x25 => if x25 = true then ((quot_Sqrt.f x5 0).bind fun bt547 => (if bt547.1 = (Go.bits .andNot .u64 x0 9223372036854775808) then (if bt547.2 = 0 then (tillerlaw07_QuotSquares.j1 k x1) else (some false)) else (some false))) else (tillerlaw07_QuotSquares.j1 k x1)
def tillerlaw07_QuotSquares.j1 : Nat → Int → Option (Bool)
 | 0, _ => none
 | k + 1, x1 => if x1 = 0 then (tillerlaw07_QuotSquares.j2 k x1 true) else (tillerlaw07_QuotSquares.j2 k x1 (decide (x1 ≥ 9218868437227405312)))
def tillerlaw07_QuotSquares.j2 : Nat → Int → Bool → Option (Bool)
 | 0, _, _ => none
 | k + 1, x1, x44 => if x44 = true then ((tillerlaw07_sure.f k).bind fun t549 => (some t549)) else ((quot_Sqrt.f x1 4).bind fun bt550 => ((quot_Sqrt.f x1 3).bind fun bt552 => (if bt550.2 = bt552.2 then (if bt552.1 = bt550.1 then (if bt550.2 = 0 then ((tillerlaw07_sure.f k).bind fun t554 => (some t554)) else (if bt552.1 = (IntKind.u64.wrap (bt550.1 + 1)) then (if bt550.2 = 16 then ((tillerlaw07_sure.f k).bind fun t555 => (some t555)) else (some false)) else (some false))) else (if bt552.1 = (IntKind.u64.wrap (bt550.1 + 1)) then (if bt550.2 = 16 then ((tillerlaw07_sure.f k).bind fun t556 => (some t556)) else (some false)) else (some false))) else (some false))))
end
def tillerlaw07_QuotSquares.f (k : Nat) (a0 : Int) (a1 : Int) : Option (Bool) := (prod_Mul.f k a0 a0 0).bind fun bt545 => (if bt545.2 = 0 then (tillerlaw07_QuotSquares.j0 k a0 a1 bt545.1 (decide ((Go.bits .andNot .u64 a0 9223372036854775808) ≤ 9218868437227405312))) else (tillerlaw07_QuotSquares.j0 k a0 a1 bt545.1 false))
theorem tillerlaw07_QuotSquares.mono_l : ∀ k, (∀ y0 y1 y2 y3, LeO (tillerlaw07_QuotSquares.j0 k y0 y1 y2 y3) (tillerlaw07_QuotSquares.j0 (k + 1) y0 y1 y2 y3)) ∧ (∀ y0, LeO (tillerlaw07_QuotSquares.j1 k y0) (tillerlaw07_QuotSquares.j1 (k + 1) y0)) ∧ (∀ y0 y1, LeO (tillerlaw07_QuotSquares.j2 k y0 y1) (tillerlaw07_QuotSquares.j2 (k + 1) y0 y1))
 | 0 => ⟨fun _ _ _ _ r h => by simp [tillerlaw07_QuotSquares.j0] at h, fun _ r h => by simp [tillerlaw07_QuotSquares.j1] at h, fun _ _ r h => by simp [tillerlaw07_QuotSquares.j2] at h⟩
 | k + 1 => by
  obtain ⟨ih0, ih1, ih2⟩ := tillerlaw07_QuotSquares.mono_l k; refine ⟨?_, ?_, ?_⟩
  · intro y0 y1 y2 y3
    unfold tillerlaw07_QuotSquares.j0
    repeat' first
    | (with_reducible exact ih0 _ _ _ _)
    | (with_reducible exact ih1 _)
    | (with_reducible exact ih2 _ _)
    | (with_reducible exact prod_Mul.mono _ _ _ _)
    | (with_reducible exact tillerlaw07_sure.mono _)
    | (with_reducible exact LeO.refl _)
    | (with_reducible exact LeO.none _)
    | (with_reducible refine LeO.ite ?_ ?_)
    | (with_reducible refine LeO.bind ?_ (fun _ => ?_))
    | exact ih0 _ _ _ _
    | exact ih1 _
    | exact ih2 _ _
    | exact prod_Mul.mono _ _ _ _
    | exact tillerlaw07_sure.mono _
    | exact LeO.none _
    | refine LeO.ite ?_ ?_
    | refine LeO.bind ?_ (fun _ => ?_)
  · intro y0
    unfold tillerlaw07_QuotSquares.j1
    repeat' first
    | (with_reducible exact ih0 _ _ _ _)
    | (with_reducible exact ih1 _)
    | (with_reducible exact ih2 _ _)
    | (with_reducible exact prod_Mul.mono _ _ _ _)
    | (with_reducible exact tillerlaw07_sure.mono _)
    | (with_reducible exact LeO.refl _)
    | (with_reducible exact LeO.none _)
    | (with_reducible refine LeO.ite ?_ ?_)
    | (with_reducible refine LeO.bind ?_ (fun _ => ?_))
    | exact ih0 _ _ _ _
    | exact ih1 _
    | exact ih2 _ _
    | exact prod_Mul.mono _ _ _ _
    | exact tillerlaw07_sure.mono _
    | exact LeO.none _
    | refine LeO.ite ?_ ?_
    | refine LeO.bind ?_ (fun _ => ?_)
  intro y0 y1
  unfold tillerlaw07_QuotSquares.j2
  repeat' first
  | (with_reducible exact ih0 _ _ _ _)
  | (with_reducible exact ih1 _)
  | (with_reducible exact ih2 _ _)
  | (with_reducible exact prod_Mul.mono _ _ _ _)
  | (with_reducible exact tillerlaw07_sure.mono _)
  | (with_reducible exact LeO.refl _)
  | (with_reducible exact LeO.none _)
  | (with_reducible refine LeO.ite ?_ ?_)
  | (with_reducible refine LeO.bind ?_ (fun _ => ?_))
  | exact ih0 _ _ _ _
  | exact ih1 _
  | exact ih2 _ _
  | exact prod_Mul.mono _ _ _ _
  | exact tillerlaw07_sure.mono _
  | exact LeO.none _
  | refine LeO.ite ?_ ?_
  | refine LeO.bind ?_ (fun _ => ?_)
theorem tillerlaw07_QuotSquares.mono : ∀ a0 a1 k, LeO (tillerlaw07_QuotSquares.f k a0 a1) (tillerlaw07_QuotSquares.f (k + 1) a0 a1) := by
 intro a0 a1 k; obtain ⟨ih0, ih1, ih2⟩ := tillerlaw07_QuotSquares.mono_l k
 unfold tillerlaw07_QuotSquares.f
 repeat' first
  | (with_reducible exact ih0 _ _ _ _)
  | (with_reducible exact ih1 _)
  | (with_reducible exact ih2 _ _)
  | (with_reducible exact prod_Mul.mono _ _ _ _)
  | (with_reducible exact tillerlaw07_sure.mono _)
  | (with_reducible exact LeO.refl _)
  | (with_reducible exact LeO.none _)
  | (with_reducible refine LeO.ite ?_ ?_)
  | (with_reducible refine LeO.bind ?_ (fun _ => ?_))
  | exact ih0 _ _ _ _
  | exact ih1 _
  | exact ih2 _ _
  | exact prod_Mul.mono _ _ _ _
  | exact tillerlaw07_sure.mono _
  | exact LeO.none _
  | refine LeO.ite ?_ ?_
  | refine LeO.bind ?_ (fun _ => ?_)
set_option maxHeartbeats 8000000 in
set_option maxRecDepth 100000 in
theorem tillerlaw07_QuotSquares.calls (k : Nat) (a0 : Int) (a1 : Int) (r : Bool) (w : World) (h : tillerlaw07_QuotSquares.f k a0 a1 = some r) :
 Calls Try.prog 7 #[.int .u64 a0, .int .u64 a1] w fun e w' => e = .returned (.bool r) ∧ Below w.heap.size w w' := by
 have HB := Aside0.mk (Below.refl w.heap.size w); have H : ((prod_Mul.f k a0 a0 0).bind fun bt545 => (if bt545.2 = 0 then (tillerlaw07_QuotSquares.j0 k a0 a1 bt545.1 (decide ((Go.bits .andNot .u64 a0 9223372036854775808) ≤ 9218868437227405312))) else (tillerlaw07_QuotSquares.j0 k a0 a1 bt545.1 false))) = some r := h; clear h; replace H := Option.bind_eq_some_iff.mp H; obtain ⟨⟨t545, t546⟩, A30, H⟩ := H; replace H : (if t546 = 0 then (tillerlaw07_QuotSquares.j0 k a0 a1 t545 (decide ((Go.bits .andNot .u64 a0 9223372036854775808) ≤ 9218868437227405312))) else (tillerlaw07_QuotSquares.j0 k a0 a1 t545 false)) = some r := H; have A3 := Aside0.mk A30; clear A30; have HC4 := Aside0.mk H; clear H
 go_enter Try.func7, Try.ntmps7
 go_upto_region 2 with (first | ((with_reducible refine gate_callee (f := 13) rfl ?_); refine goesL_ (some 16) rfl rfl Try.func13 (by kernel_rfl) rfl #[.int .u64 a0, .int .u64 a0, .int .i64 0] rfl LMq ?_; (with_reducible refine (prod_Mul.calls k a0 a0 0 t545 t546 _ A3.out).mono ?_); rintro e w5 ⟨rfl, hb⟩; refine ⟨_, rfl, ?_⟩; replace HB := Aside0.mk (below_step (kH HB) hb); (try clear hb); (try clear hb2); (try clear hk); (try clear hi)))
 (try simp only [Act.put, List.setIfInBounds_toArray, List.set_cons_zero, List.set_cons_succ])
 go_cut [25] (fun v25 wc => ∃ (kq : Nat) (x25_3 : Bool), v25 = .bool x25_3 ∧ Aside0 (tillerlaw07_QuotSquares.j0 kq a0 a1 t545 x25_3 = some r) ∧ Aside0 (kq ≤ k) ∧ Aside0 (Below w.heap.size w wc))
 case first =>
  have H := HC4.out; clear HC4
  by_cases c6 : t546 = 0
  · rw [if_pos c6] at H
    have c6b0 : (t546 == 0) = true := beq_iff_eq.mpr c6; have c6b1 : (t546 != 0) = false := bne_eq_false_iff_eq.mpr c6; clear c6
    (first | rw [c6b0] | (simp only [i64_w, i32_w]; rw [c6b0]) | skip)
    have H' := Aside0.mk H; clear H
    go_wp2
    go_meet
    case rel => exact ⟨_, (decide ((Go.bits .andNot .u64 a0 9223372036854775808) ≤ 9218868437227405312)), RSq, (by first | exact H' | (subst_vars; exact H')), ⟨by first | omega | exact Nat.le_refl _⟩, ⟨kH HB⟩⟩
  rw [if_neg c6] at H
  have c6b0 : (t546 == 0) = false := beq_eq_false_iff_ne.mpr c6; have c6b1 : (t546 != 0) = true := bne_iff_ne.mpr c6
  (first | rw [c6b0] | (simp only [i64_w, i32_w]; rw [c6b0]) | skip)
  have H' := Aside0.mk H; clear H
  go_wp2
  go_meet
  case rel => exact ⟨_, (false), RSq, (by first | exact H' | (subst_vars; exact H')), ⟨by first | omega | exact Nat.le_refl _⟩, ⟨kH HB⟩⟩
 case rest =>
  clear HC4; (try clear c1); (try clear p2); (try clear c6); (try clear c6b0); (try clear c6b1); (try clear p6); obtain ⟨kq, x25_3, rfl, HA, HJ3, HB⟩ := hcut
  cases kq with
  | zero => exact absurd HA.out (by simp [tillerlaw07_QuotSquares.j0])
  | succ kj3 =>
   have H := HA.out; clear HA
   simp only [tillerlaw07_QuotSquares.j0] at H
   have HC7 := Aside0.mk H; clear H
   go_upto_if 25 with (fail)
   go_cut [] (fun wc => ∃ (kq : Nat), Aside0 (tillerlaw07_QuotSquares.j1 kq a1 = some r) ∧ Aside0 (kq ≤ kj3) ∧ Aside0 (Below w.heap.size w wc))
   case first =>
    have H := HC7.out; clear HC7
    by_cases c8 : x25_3 = true
    · subst c8
      have H1 : ((quot_Sqrt.f t545 0).bind fun bt547 => (if bt547.1 = (Go.bits .andNot .u64 a0 9223372036854775808) then (if bt547.2 = 0 then (tillerlaw07_QuotSquares.j1 kj3 a1) else (some false)) else (some false))) = some r := by rw [if_pos rfl] at H; exact H
      clear H; have H := H1; clear H1; replace H := Option.bind_eq_some_iff.mp H; obtain ⟨⟨t547, t548⟩, A90, H⟩ := H; replace H : (if t547 = (Go.bits .andNot .u64 a0 9223372036854775808) then (if t548 = 0 then (tillerlaw07_QuotSquares.j1 kj3 a1) else (some false)) else (some false)) = some r := H; have A9 := Aside0.mk A90; clear A90
      by_cases c10 : t547 = (Go.bits .andNot .u64 a0 9223372036854775808)
      · rw [if_pos c10] at H
        have c10b0 : (t547 == (Go.bits .andNot .u64 a0 9223372036854775808)) = true := beq_iff_eq.mpr c10; have c10b1 : (t547 != (Go.bits .andNot .u64 a0 9223372036854775808)) = false := bne_eq_false_iff_eq.mpr c10; clear c10
        (first | rw [c10b0] | (simp only [i64_w, i32_w]; rw [c10b0]) | skip)
        by_cases c11 : t548 = 0
        · rw [if_pos c11] at H
          have c11b0 : (t548 == 0) = true := beq_iff_eq.mpr c11; have c11b1 : (t548 != 0) = false := bne_eq_false_iff_eq.mpr c11; clear c11; have H' := Aside0.mk H; clear H
          go_wp2_with (first | ((with_reducible refine gate_callee (f := 11) rfl ?_); refine goesL_ (some 28) rfl rfl Try.func11 (by kernel_rfl) rfl #[.int .u64 t545, .int .i64 0] rfl LMq ?_; (with_reducible refine (quot_Sqrt.calls t545 0 t547 t548 _ A9.out).mono ?_); rintro e w12 ⟨rfl, hb⟩; refine ⟨_, rfl, ?_⟩; replace HB := Aside0.mk (below_step (kH HB) hb); (try clear hb); (try clear hb2); (try clear hk); (try clear hi)))
          go_meet
          case rel => exact ⟨_, (by first | exact H' | (subst_vars; exact H')), ⟨by have := HJ3.out; first | omega | exact Nat.le_refl _⟩, ⟨kH HB⟩⟩
        rw [if_neg c11] at H
        have c11b0 : (t548 == 0) = false := beq_eq_false_iff_ne.mpr c11; have c11b1 : (t548 != 0) = true := bne_iff_ne.mpr c11; obtain rfl := Option.some.inj H
        go_wp2_with (first | ((with_reducible refine gate_callee (f := 11) rfl ?_); refine goesL_ (some 28) rfl rfl Try.func11 (by kernel_rfl) rfl #[.int .u64 t545, .int .i64 0] rfl LMq ?_; (with_reducible refine (quot_Sqrt.calls t545 0 t547 t548 _ A9.out).mono ?_); rintro e w13 ⟨rfl, hb⟩; refine ⟨_, rfl, ?_⟩; replace HB := Aside0.mk (below_step (kH HB) hb); (try clear hb); (try clear hb2); (try clear hk); (try clear hi)))
        go_ret
        exact ⟨by first | rfl | (simp [errW_none, errW_some] <;> rfl) | (simp [*, errW_none, errW_some] <;> rfl), kH HB⟩
      rw [if_neg c10] at H
      have c10b0 : (t547 == (Go.bits .andNot .u64 a0 9223372036854775808)) = false := beq_eq_false_iff_ne.mpr c10; have c10b1 : (t547 != (Go.bits .andNot .u64 a0 9223372036854775808)) = true := bne_iff_ne.mpr c10
      (first | rw [c10b0] | (simp only [i64_w, i32_w]; rw [c10b0]) | skip)
      obtain rfl := Option.some.inj H
      go_wp2_with (first | ((with_reducible refine gate_callee (f := 11) rfl ?_); refine goesL_ (some 28) rfl rfl Try.func11 (by kernel_rfl) rfl #[.int .u64 t545, .int .i64 0] rfl LMq ?_; (with_reducible refine (quot_Sqrt.calls t545 0 t547 t548 _ A9.out).mono ?_); rintro e w14 ⟨rfl, hb⟩; refine ⟨_, rfl, ?_⟩; replace HB := Aside0.mk (below_step (kH HB) hb); (try clear hb); (try clear hb2); (try clear hk); (try clear hi)))
      go_ret
      exact ⟨by first | rfl | (simp [errW_none, errW_some] <;> rfl) | (simp [*, errW_none, errW_some] <;> rfl), kH HB⟩
    replace c8 := Bool.eq_false_iff.mpr c8; subst c8
    have H1 : (tillerlaw07_QuotSquares.j1 kj3 a1) = some r := by rw [if_neg (show ¬ (false = true) by decide)] at H; exact H
    clear H; have H := H1; clear H1; have H' := Aside0.mk H; clear H
    go_wp2
    go_meet
    case rel => exact ⟨_, (by first | exact H' | (subst_vars; exact H')), ⟨by have := HJ3.out; first | omega | exact Nat.le_refl _⟩, ⟨kH HB⟩⟩
   case rest =>
    clear HC7; (try clear c1); (try clear p2); (try clear c6); (try clear c6b0); (try clear c6b1); (try clear p6); (try clear c7); (try clear c8); (try clear c10); (try clear c10b0); (try clear c10b1); (try clear c11); (try clear c11b0); (try clear c11b1); (try clear c13); (try clear p2); (try clear p6); obtain ⟨kq, HA, HJ6, HB⟩ := hcut
    cases kq with
    | zero => exact absurd HA.out (by simp [tillerlaw07_QuotSquares.j1])
    | succ kj6 =>
     have H := HA.out; clear HA
     simp only [tillerlaw07_QuotSquares.j1] at H
     have HC15 := Aside0.mk H; clear H
     go_upto_region 6 with (fail)
     go_cut [44] (fun v44 wc => ∃ (kq : Nat) (x44_14 : Bool), v44 = .bool x44_14 ∧ Aside0 (tillerlaw07_QuotSquares.j2 kq a1 x44_14 = some r) ∧ Aside0 (kq ≤ kj6) ∧ Aside0 (Below w.heap.size w wc))
     case first =>
      have H := HC15.out; clear HC15
      by_cases c16 : a1 = 0
      · rw [if_pos c16] at H
        have c16b0 : (a1 == 0) = true := beq_iff_eq.mpr c16; have c16b1 : (a1 != 0) = false := bne_eq_false_iff_eq.mpr c16; clear c16
        (first | rw [c16b0] | (simp only [i64_w, i32_w]; rw [c16b0]) | skip)
        have H' := Aside0.mk H; clear H
        go_wp2
        go_meet
        case rel => exact ⟨_, (true), RSq, (by first | exact H' | (subst_vars; exact H')), ⟨by have := HJ3.out; have := HJ6.out; first | omega | exact Nat.le_refl _⟩, ⟨kH HB⟩⟩
      rw [if_neg c16] at H
      have c16b0 : (a1 == 0) = false := beq_eq_false_iff_ne.mpr c16; have c16b1 : (a1 != 0) = true := bne_iff_ne.mpr c16
      (first | rw [c16b0] | (simp only [i64_w, i32_w]; rw [c16b0]) | skip)
      have H' := Aside0.mk H; clear H
      go_wp2
      go_meet
      case rel => exact ⟨_, (decide (a1 ≥ 9218868437227405312)), RSq, (by first | exact H' | (subst_vars; exact H')), ⟨by have := HJ3.out; have := HJ6.out; first | omega | exact Nat.le_refl _⟩, ⟨kH HB⟩⟩
     case rest =>
      clear HC15; (try clear c1); (try clear p2); (try clear c6); (try clear c6b0); (try clear c6b1); (try clear p6); (try clear c7); (try clear c8); (try clear c10); (try clear c10b0); (try clear c10b1); (try clear c11); (try clear c11b0); (try clear c11b1); (try clear c13); (try clear c16); (try clear c16b0); (try clear c16b1); (try clear p2); (try clear p6); obtain ⟨kq, x44_14, rfl, HA, HJ14, HB⟩ := hcut
      cases kq with
      | zero => exact absurd HA.out (by simp [tillerlaw07_QuotSquares.j2])
      | succ kj14 =>
       have H := HA.out; clear HA
       simp only [tillerlaw07_QuotSquares.j2] at H
       by_cases c17 : x44_14 = true
       · subst c17
         have H1 : ((tillerlaw07_sure.f kj14).bind fun t549 => (some t549)) = some r := by rw [if_pos rfl] at H; exact H
         clear H; have H := H1; clear H1; replace H := Option.bind_eq_some_iff.mp H; obtain ⟨t549, A180, H⟩ := H; replace H : (some t549) = some r := H; have A18 := Aside0.mk A180; clear A180; obtain rfl := Option.some.inj H
         go_wp2_with (first | ((with_reducible refine gate_callee (f := 10) rfl ?_); refine goesL_ (some 45) rfl rfl Try.func10 (by kernel_rfl) rfl #[] rfl LMq ?_; (with_reducible refine (tillerlaw07_sure.calls kj14  t549 _ A18.out).mono ?_); rintro e w19 ⟨rfl, hb⟩; refine ⟨_, rfl, ?_⟩; replace HB := Aside0.mk (below_step (kH HB) hb); (try clear hb); (try clear hb2); (try clear hk); (try clear hi)))
         go_ret
         exact ⟨by first | rfl | (simp [errW_none, errW_some] <;> rfl) | (simp [*, errW_none, errW_some] <;> rfl), kH HB⟩
       replace c17 := Bool.eq_false_iff.mpr c17; subst c17
       have H1 : ((quot_Sqrt.f a1 4).bind fun bt550 => ((quot_Sqrt.f a1 3).bind fun bt552 => (if bt550.2 = bt552.2 then (if bt552.1 = bt550.1 then (if bt550.2 = 0 then ((tillerlaw07_sure.f kj14).bind fun t554 => (some t554)) else (if bt552.1 = (IntKind.u64.wrap (bt550.1 + 1)) then (if bt550.2 = 16 then ((tillerlaw07_sure.f kj14).bind fun t555 => (some t555)) else (some false)) else (some false))) else (if bt552.1 = (IntKind.u64.wrap (bt550.1 + 1)) then (if bt550.2 = 16 then ((tillerlaw07_sure.f kj14).bind fun t556 => (some t556)) else (some false)) else (some false))) else (some false)))) = some r := by rw [if_neg (show ¬ (false = true) by decide)] at H; exact H
       clear H; have H := H1; clear H1; replace H := Option.bind_eq_some_iff.mp H; obtain ⟨⟨t550, t551⟩, A200, H⟩ := H; replace H : ((quot_Sqrt.f a1 3).bind fun bt552 => (if t551 = bt552.2 then (if bt552.1 = t550 then (if t551 = 0 then ((tillerlaw07_sure.f kj14).bind fun t554 => (some t554)) else (if bt552.1 = (IntKind.u64.wrap (t550 + 1)) then (if t551 = 16 then ((tillerlaw07_sure.f kj14).bind fun t555 => (some t555)) else (some false)) else (some false))) else (if bt552.1 = (IntKind.u64.wrap (t550 + 1)) then (if t551 = 16 then ((tillerlaw07_sure.f kj14).bind fun t556 => (some t556)) else (some false)) else (some false))) else (some false))) = some r := H; have A20 := Aside0.mk A200; clear A200; replace H := Option.bind_eq_some_iff.mp H; obtain ⟨⟨t552, t553⟩, A210, H⟩ := H; replace H : (if t551 = t553 then (if t552 = t550 then (if t551 = 0 then ((tillerlaw07_sure.f kj14).bind fun t554 => (some t554)) else (if t552 = (IntKind.u64.wrap (t550 + 1)) then (if t551 = 16 then ((tillerlaw07_sure.f kj14).bind fun t555 => (some t555)) else (some false)) else (some false))) else (if t552 = (IntKind.u64.wrap (t550 + 1)) then (if t551 = 16 then ((tillerlaw07_sure.f kj14).bind fun t556 => (some t556)) else (some false)) else (some false))) else (some false)) = some r := H; have A21 := Aside0.mk A210; clear A210
       by_cases c22 : t551 = t553
       · rw [if_pos c22] at H
         have c22b0 : (t551 == t553) = true := beq_iff_eq.mpr c22; have c22b1 : (t551 != t553) = false := bne_eq_false_iff_eq.mpr c22; clear c22
         by_cases c23 : t552 = t550
         · rw [if_pos c23] at H
           have c23b0 : (t552 == t550) = true := beq_iff_eq.mpr c23; have c23b1 : (t552 != t550) = false := bne_eq_false_iff_eq.mpr c23; clear c23
           by_cases c24 : t551 = 0
           · rw [if_pos c24] at H
             have c24b0 : (t551 == 0) = true := beq_iff_eq.mpr c24; have c24b1 : (t551 != 0) = false := bne_eq_false_iff_eq.mpr c24; clear c24; replace H := Option.bind_eq_some_iff.mp H; obtain ⟨t554, A250, H⟩ := H; replace H : (some t554) = some r := H; have A25 := Aside0.mk A250; clear A250; obtain rfl := Option.some.inj H
             go_wp2_with (first | ((with_reducible refine gate_callee (f := 11) rfl ?_); refine goesL_ (some 48) rfl rfl Try.func11 (by kernel_rfl) rfl #[.int .u64 a1, .int .i64 4] rfl LMq ?_; (with_reducible refine (quot_Sqrt.calls a1 4 t550 t551 _ A20.out).mono ?_); rintro e w26 ⟨rfl, hb⟩; refine ⟨_, rfl, ?_⟩; replace HB := Aside0.mk (below_step (kH HB) hb); (try clear hb); (try clear hb2); (try clear hk); (try clear hi)) | ((with_reducible refine gate_callee (f := 11) rfl ?_); refine goesL_ (some 53) rfl rfl Try.func11 (by kernel_rfl) rfl #[.int .u64 a1, .int .i64 3] rfl LMq ?_; (with_reducible refine (quot_Sqrt.calls a1 3 t552 t553 _ A21.out).mono ?_); rintro e w27 ⟨rfl, hb⟩; refine ⟨_, rfl, ?_⟩; replace HB := Aside0.mk (below_step (kH HB) hb); (try clear hb); (try clear hb2); (try clear hk); (try clear hi)) | (go_at_call 10; (with_reducible refine (tillerlaw07_sure.calls kj14  t554 _ A25.out).mono ?_); rintro e w28 ⟨rfl, hb⟩; replace HB := Aside0.mk (below_step (kH HB) hb); (try clear hb); (try clear hb2); (try clear hk); (try clear hi)))
             go_ret
             exact ⟨by first | rfl | (simp [errW_none, errW_some] <;> rfl) | (simp [*, errW_none, errW_some] <;> rfl), kH HB⟩
           rw [if_neg c24] at H
           have c24b0 : (t551 == 0) = false := beq_eq_false_iff_ne.mpr c24; have c24b1 : (t551 != 0) = true := bne_iff_ne.mpr c24
           by_cases c29 : t552 = (IntKind.u64.wrap (t550 + 1))
           · rw [if_pos c29] at H
             have c29b0 : (t552 == (IntKind.u64.wrap (t550 + 1))) = true := beq_iff_eq.mpr c29; have c29b1 : (t552 != (IntKind.u64.wrap (t550 + 1))) = false := bne_eq_false_iff_eq.mpr c29; clear c29
             by_cases c30 : t551 = 16
             · rw [if_pos c30] at H
               have c30b0 : (t551 == 16) = true := beq_iff_eq.mpr c30; have c30b1 : (t551 != 16) = false := bne_eq_false_iff_eq.mpr c30; clear c30; replace H := Option.bind_eq_some_iff.mp H; obtain ⟨t555, A310, H⟩ := H; replace H : (some t555) = some r := H; have A31 := Aside0.mk A310; clear A310; obtain rfl := Option.some.inj H
               go_wp2_with (first | ((with_reducible refine gate_callee (f := 11) rfl ?_); refine goesL_ (some 48) rfl rfl Try.func11 (by kernel_rfl) rfl #[.int .u64 a1, .int .i64 4] rfl LMq ?_; (with_reducible refine (quot_Sqrt.calls a1 4 t550 t551 _ A20.out).mono ?_); rintro e w32 ⟨rfl, hb⟩; refine ⟨_, rfl, ?_⟩; replace HB := Aside0.mk (below_step (kH HB) hb); (try clear hb); (try clear hb2); (try clear hk); (try clear hi)) | ((with_reducible refine gate_callee (f := 11) rfl ?_); refine goesL_ (some 53) rfl rfl Try.func11 (by kernel_rfl) rfl #[.int .u64 a1, .int .i64 3] rfl LMq ?_; (with_reducible refine (quot_Sqrt.calls a1 3 t552 t553 _ A21.out).mono ?_); rintro e w33 ⟨rfl, hb⟩; refine ⟨_, rfl, ?_⟩; replace HB := Aside0.mk (below_step (kH HB) hb); (try clear hb); (try clear hb2); (try clear hk); (try clear hi)) | (go_at_call 10; (with_reducible refine (tillerlaw07_sure.calls kj14  t555 _ A31.out).mono ?_); rintro e w34 ⟨rfl, hb⟩; replace HB := Aside0.mk (below_step (kH HB) hb); (try clear hb); (try clear hb2); (try clear hk); (try clear hi)))
               go_ret
               exact ⟨by first | rfl | (simp [errW_none, errW_some] <;> rfl) | (simp [*, errW_none, errW_some] <;> rfl), kH HB⟩
             rw [if_neg c30] at H
             have c30b0 : (t551 == 16) = false := beq_eq_false_iff_ne.mpr c30; have c30b1 : (t551 != 16) = true := bne_iff_ne.mpr c30; obtain rfl := Option.some.inj H
             go_wp2_with (first | ((with_reducible refine gate_callee (f := 11) rfl ?_); refine goesL_ (some 48) rfl rfl Try.func11 (by kernel_rfl) rfl #[.int .u64 a1, .int .i64 4] rfl LMq ?_; (with_reducible refine (quot_Sqrt.calls a1 4 t550 t551 _ A20.out).mono ?_); rintro e w35 ⟨rfl, hb⟩; refine ⟨_, rfl, ?_⟩; replace HB := Aside0.mk (below_step (kH HB) hb); (try clear hb); (try clear hb2); (try clear hk); (try clear hi)) | ((with_reducible refine gate_callee (f := 11) rfl ?_); refine goesL_ (some 53) rfl rfl Try.func11 (by kernel_rfl) rfl #[.int .u64 a1, .int .i64 3] rfl LMq ?_; (with_reducible refine (quot_Sqrt.calls a1 3 t552 t553 _ A21.out).mono ?_); rintro e w36 ⟨rfl, hb⟩; refine ⟨_, rfl, ?_⟩; replace HB := Aside0.mk (below_step (kH HB) hb); (try clear hb); (try clear hb2); (try clear hk); (try clear hi)))
             go_ret
             exact ⟨by first | rfl | (simp [errW_none, errW_some] <;> rfl) | (simp [*, errW_none, errW_some] <;> rfl), kH HB⟩
           rw [if_neg c29] at H
           have c29b0 : (t552 == (IntKind.u64.wrap (t550 + 1))) = false := beq_eq_false_iff_ne.mpr c29; have c29b1 : (t552 != (IntKind.u64.wrap (t550 + 1))) = true := bne_iff_ne.mpr c29; obtain rfl := Option.some.inj H
           go_wp2_with (first | ((with_reducible refine gate_callee (f := 11) rfl ?_); refine goesL_ (some 48) rfl rfl Try.func11 (by kernel_rfl) rfl #[.int .u64 a1, .int .i64 4] rfl LMq ?_; (with_reducible refine (quot_Sqrt.calls a1 4 t550 t551 _ A20.out).mono ?_); rintro e w37 ⟨rfl, hb⟩; refine ⟨_, rfl, ?_⟩; replace HB := Aside0.mk (below_step (kH HB) hb); (try clear hb); (try clear hb2); (try clear hk); (try clear hi)) | ((with_reducible refine gate_callee (f := 11) rfl ?_); refine goesL_ (some 53) rfl rfl Try.func11 (by kernel_rfl) rfl #[.int .u64 a1, .int .i64 3] rfl LMq ?_; (with_reducible refine (quot_Sqrt.calls a1 3 t552 t553 _ A21.out).mono ?_); rintro e w38 ⟨rfl, hb⟩; refine ⟨_, rfl, ?_⟩; replace HB := Aside0.mk (below_step (kH HB) hb); (try clear hb); (try clear hb2); (try clear hk); (try clear hi)))
           go_ret
           exact ⟨by first | rfl | (simp [errW_none, errW_some] <;> rfl) | (simp [*, errW_none, errW_some] <;> rfl), kH HB⟩
         rw [if_neg c23] at H
         have c23b0 : (t552 == t550) = false := beq_eq_false_iff_ne.mpr c23; have c23b1 : (t552 != t550) = true := bne_iff_ne.mpr c23
         by_cases c39 : t552 = (IntKind.u64.wrap (t550 + 1))
         · rw [if_pos c39] at H
           have c39b0 : (t552 == (IntKind.u64.wrap (t550 + 1))) = true := beq_iff_eq.mpr c39; have c39b1 : (t552 != (IntKind.u64.wrap (t550 + 1))) = false := bne_eq_false_iff_eq.mpr c39; clear c39
           by_cases c40 : t551 = 16
           · rw [if_pos c40] at H
             have c40b0 : (t551 == 16) = true := beq_iff_eq.mpr c40; have c40b1 : (t551 != 16) = false := bne_eq_false_iff_eq.mpr c40; clear c40; replace H := Option.bind_eq_some_iff.mp H; obtain ⟨t556, A410, H⟩ := H; replace H : (some t556) = some r := H; have A41 := Aside0.mk A410; clear A410; obtain rfl := Option.some.inj H
             go_wp2_with (first | ((with_reducible refine gate_callee (f := 11) rfl ?_); refine goesL_ (some 48) rfl rfl Try.func11 (by kernel_rfl) rfl #[.int .u64 a1, .int .i64 4] rfl LMq ?_; (with_reducible refine (quot_Sqrt.calls a1 4 t550 t551 _ A20.out).mono ?_); rintro e w42 ⟨rfl, hb⟩; refine ⟨_, rfl, ?_⟩; replace HB := Aside0.mk (below_step (kH HB) hb); (try clear hb); (try clear hb2); (try clear hk); (try clear hi)) | ((with_reducible refine gate_callee (f := 11) rfl ?_); refine goesL_ (some 53) rfl rfl Try.func11 (by kernel_rfl) rfl #[.int .u64 a1, .int .i64 3] rfl LMq ?_; (with_reducible refine (quot_Sqrt.calls a1 3 t552 t553 _ A21.out).mono ?_); rintro e w43 ⟨rfl, hb⟩; refine ⟨_, rfl, ?_⟩; replace HB := Aside0.mk (below_step (kH HB) hb); (try clear hb); (try clear hb2); (try clear hk); (try clear hi)) | (go_at_call 10; (with_reducible refine (tillerlaw07_sure.calls kj14  t556 _ A41.out).mono ?_); rintro e w44 ⟨rfl, hb⟩; replace HB := Aside0.mk (below_step (kH HB) hb); (try clear hb); (try clear hb2); (try clear hk); (try clear hi)))
             go_ret
             exact ⟨by first | rfl | (simp [errW_none, errW_some] <;> rfl) | (simp [*, errW_none, errW_some] <;> rfl), kH HB⟩
           rw [if_neg c40] at H
           have c40b0 : (t551 == 16) = false := beq_eq_false_iff_ne.mpr c40; have c40b1 : (t551 != 16) = true := bne_iff_ne.mpr c40; obtain rfl := Option.some.inj H
           go_wp2_with (first | ((with_reducible refine gate_callee (f := 11) rfl ?_); refine goesL_ (some 48) rfl rfl Try.func11 (by kernel_rfl) rfl #[.int .u64 a1, .int .i64 4] rfl LMq ?_; (with_reducible refine (quot_Sqrt.calls a1 4 t550 t551 _ A20.out).mono ?_); rintro e w45 ⟨rfl, hb⟩; refine ⟨_, rfl, ?_⟩; replace HB := Aside0.mk (below_step (kH HB) hb); (try clear hb); (try clear hb2); (try clear hk); (try clear hi)) | ((with_reducible refine gate_callee (f := 11) rfl ?_); refine goesL_ (some 53) rfl rfl Try.func11 (by kernel_rfl) rfl #[.int .u64 a1, .int .i64 3] rfl LMq ?_; (with_reducible refine (quot_Sqrt.calls a1 3 t552 t553 _ A21.out).mono ?_); rintro e w46 ⟨rfl, hb⟩; refine ⟨_, rfl, ?_⟩; replace HB := Aside0.mk (below_step (kH HB) hb); (try clear hb); (try clear hb2); (try clear hk); (try clear hi)))
           go_ret
           exact ⟨by first | rfl | (simp [errW_none, errW_some] <;> rfl) | (simp [*, errW_none, errW_some] <;> rfl), kH HB⟩
         rw [if_neg c39] at H
         have c39b0 : (t552 == (IntKind.u64.wrap (t550 + 1))) = false := beq_eq_false_iff_ne.mpr c39; have c39b1 : (t552 != (IntKind.u64.wrap (t550 + 1))) = true := bne_iff_ne.mpr c39; obtain rfl := Option.some.inj H
         go_wp2_with (first | ((with_reducible refine gate_callee (f := 11) rfl ?_); refine goesL_ (some 48) rfl rfl Try.func11 (by kernel_rfl) rfl #[.int .u64 a1, .int .i64 4] rfl LMq ?_; (with_reducible refine (quot_Sqrt.calls a1 4 t550 t551 _ A20.out).mono ?_); rintro e w47 ⟨rfl, hb⟩; refine ⟨_, rfl, ?_⟩; replace HB := Aside0.mk (below_step (kH HB) hb); (try clear hb); (try clear hb2); (try clear hk); (try clear hi)) | ((with_reducible refine gate_callee (f := 11) rfl ?_); refine goesL_ (some 53) rfl rfl Try.func11 (by kernel_rfl) rfl #[.int .u64 a1, .int .i64 3] rfl LMq ?_; (with_reducible refine (quot_Sqrt.calls a1 3 t552 t553 _ A21.out).mono ?_); rintro e w48 ⟨rfl, hb⟩; refine ⟨_, rfl, ?_⟩; replace HB := Aside0.mk (below_step (kH HB) hb); (try clear hb); (try clear hb2); (try clear hk); (try clear hi)))
         go_ret
         exact ⟨by first | rfl | (simp [errW_none, errW_some] <;> rfl) | (simp [*, errW_none, errW_some] <;> rfl), kH HB⟩
       rw [if_neg c22] at H
       have c22b0 : (t551 == t553) = false := beq_eq_false_iff_ne.mpr c22; have c22b1 : (t551 != t553) = true := bne_iff_ne.mpr c22; obtain rfl := Option.some.inj H
       go_wp2_with (first | ((with_reducible refine gate_callee (f := 11) rfl ?_); refine goesL_ (some 48) rfl rfl Try.func11 (by kernel_rfl) rfl #[.int .u64 a1, .int .i64 4] rfl LMq ?_; (with_reducible refine (quot_Sqrt.calls a1 4 t550 t551 _ A20.out).mono ?_); rintro e w49 ⟨rfl, hb⟩; refine ⟨_, rfl, ?_⟩; replace HB := Aside0.mk (below_step (kH HB) hb); (try clear hb); (try clear hb2); (try clear hk); (try clear hi)) | ((with_reducible refine gate_callee (f := 11) rfl ?_); refine goesL_ (some 53) rfl rfl Try.func11 (by kernel_rfl) rfl #[.int .u64 a1, .int .i64 3] rfl LMq ?_; (with_reducible refine (quot_Sqrt.calls a1 3 t552 t553 _ A21.out).mono ?_); rintro e w50 ⟨rfl, hb⟩; refine ⟨_, rfl, ?_⟩; replace HB := Aside0.mk (below_step (kH HB) hb); (try clear hb); (try clear hb2); (try clear hk); (try clear hi)))
       go_ret
       exact ⟨by first | rfl | (simp [errW_none, errW_some] <;> rfl) | (simp [*, errW_none, errW_some] <;> rfl), kH HB⟩
def tillerlaw07_QuotSquares.Pure : Prop := ∀ (a0 : Int) (a1 : Int), (Lit.int .u64 a0).wf = true → (Lit.int .u64 a1).wf = true → ∃ k, tillerlaw07_QuotSquares.f k a0 a1 = some true
theorem tillerlaw07_QuotSquares.walk (P : tillerlaw07_QuotSquares.Pure) (a0 : Int) (a1 : Int) (w : World) (w0 : (Lit.int .u64 a0).wf = true) (w1 : (Lit.int .u64 a1).wf = true) :
 Calls Try.prog 7 #[.int .u64 a0, .int .u64 a1] w fun e w' => e = .returned (.bool true) ∧ Below w.heap.size w w' := by
 obtain ⟨k, h⟩ := P a0 a1 w0 w1; refine (tillerlaw07_QuotSquares.calls k a0 a1 true w h).mono ?_; rintro e w' ⟨rfl, hd⟩; exact ⟨rfl, hd⟩
end Go.Proofs.Ytedjlpfggjcmfaa.X
