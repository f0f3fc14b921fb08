import Derived.Test.YtbgefpeicmbgiaaKI4
import Derived.Test.YtbgefpeicmbgiaaKI14
import Derived.Test.YtbgefpeicmbgiaaKIXtillerref04To
namespace Go.Proofs.Ytbgefpeicmbgiaa.X
open Go.RowKit Go.Proofs.YtbgefpeicmbgiaaW.PrintWords Go.Proofs.YtbgefpeicmbgiaaW.PrintLast Go.Proofs.YtbgefpeicmbgiaaW.PrintMore
attribute [local go_sem] max2_int min2_int max_two min_two max_three min_three max_four min_four   
set_option linter.unusedVariables false
set_option linter.unusedSimpArgs false
mutual
def tillerref11_To.j0 : Nat → Int → Int → Bool → Bool → Int → Option (Bool × Int × Int)
 | 0, _, _, _, _, _ => none
 | k + 1, x0, x1, x2, x13, x14 => (r3_Finite.f x0).bind fun qk => (if qk = true then (if x1 < 0 then (tillerref11_To.j1 k x0 x1 x2 x13 x14 true) else (tillerref11_To.j1 k x0 x1 x2 x13 x14 (decide (x1 > 4)))) else (some (x13, x14, 1)))
def tillerref11_To.j1 : Nat → Int → Int → Bool → Bool → Int → Bool → Option (Bool × Int × Int)
 | 0, _, _, _, _, _, _ => none
 | k + 1, x0, x1, x2, x13, x14, x34 => if x34 = true then (tillerref11_To.j2 k x0 0 x2 x13 x14) else (tillerref11_To.j2 k x0 x1 x2 x13 x14)
def tillerref11_To.j2 : Nat → Int → Int → Bool → Bool → Int → Option (Bool × Int × Int)
 | 0, _, _, _, _, _ => none
 | k + 1, x0, x1, x2, x13, x14 => (r4_Pattern.f k x0).bind fun qr => ((r4_To.f k qr.1 qr.2.1 qr.2.2 0 x1).bind fun q9 => ((r2_Of.f k x14).bind fun q7 => ((r2_Cmp.f k q9.1 q7).bind fun q6 => (if q6 > 0 then (some (x13, x14, 1)) else (if q9.2 = true then (tillerref11_To.j3 k x13 q9.1 x2) else (tillerref11_To.j3 k x13 q9.1 false))))))
def tillerref11_To.j3 : Nat → Bool → List Int → Bool → Option (Bool × Int × Int)
 | 0, _, _, _ => none
 | k + 1, x13, x15, x52 => if x52 = true then ((r2_Low.f k x15).bind fun qg => (some (x13, qg, 16))) else ((r2_Low.f k x15).bind fun qh => (some (x13, qh, 0)))
end
def tillerref11_To.f (k : Nat) (a0 : Int) (a1 : Int) (a2 : Bool) (a3 : Int) (a4 : Int) : Option (Bool × Int × Int) := (r3_NaN.f a0).bind fun qi => (if qi = true then (some (false, 0, 1)) else (if a0 ≥ 9223372036854775808 then (tillerref11_To.j0 k a0 a1 a2 (decide (a0 ≥ 9223372036854775808)) a3) else (tillerref11_To.j0 k a0 a1 a2 (decide (a0 ≥ 9223372036854775808)) a4)))
theorem tillerref11_To.mono_l : ∀ k, (∀ y0 y1 y2 y3 y4, LeO (tillerref11_To.j0 k y0 y1 y2 y3 y4) (tillerref11_To.j0 (k + 1) y0 y1 y2 y3 y4)) ∧ (∀ y0 y1 y2 y3 y4 y5, LeO (tillerref11_To.j1 k y0 y1 y2 y3 y4 y5) (tillerref11_To.j1 (k + 1) y0 y1 y2 y3 y4 y5)) ∧ (∀ y0 y1 y2 y3 y4, LeO (tillerref11_To.j2 k y0 y1 y2 y3 y4) (tillerref11_To.j2 (k + 1) y0 y1 y2 y3 y4)) ∧ (∀ y0 y1 y2, LeO (tillerref11_To.j3 k y0 y1 y2) (tillerref11_To.j3 (k + 1) y0 y1 y2))
 | 0 => ⟨fun _ _ _ _ _ r h => by simp [tillerref11_To.j0] at h, fun _ _ _ _ _ _ r h => by simp [tillerref11_To.j1] at h, fun _ _ _ _ _ r h => by simp [tillerref11_To.j2] at h, fun _ _ _ r h => by simp [tillerref11_To.j3] at h⟩
 | k + 1 => by
  obtain ⟨ih0, ih1, ih2, ih3⟩ := tillerref11_To.mono_l k; refine ⟨?_, ?_, ?_, ?_⟩
  · intro y0 y1 y2 y3 y4
    unfold tillerref11_To.j0
    repeat' first
    | (with_reducible exact ih0 _ _ _ _ _)
    | (with_reducible exact ih1 _ _ _ _ _ _)
    | (with_reducible exact ih2 _ _ _ _ _)
    | (with_reducible exact ih3 _ _ _)
    | (with_reducible exact r2_Cmp.mono _ _ _)
    | (with_reducible exact r2_Low.mono _ _)
    | (with_reducible exact r2_Of.mono _ _)
    | (with_reducible exact r4_Pattern.mono _ _)
    | (with_reducible exact r4_To.mono _ _ _ _ _ _)
    | (with_reducible exact LeO.refl _)
    | (with_reducible exact LeO.none _)
    | (with_reducible refine LeO.ite ?_ ?_)
    | (with_reducible refine LeO.bind ?_ (fun _ => ?_))
    | exact ih0 _ _ _ _ _
    | exact ih1 _ _ _ _ _ _
    | exact ih2 _ _ _ _ _
    | exact ih3 _ _ _
    | exact r2_Cmp.mono _ _ _
    | exact r2_Low.mono _ _
    | exact r2_Of.mono _ _
    | exact r4_Pattern.mono _ _
    | exact r4_To.mono _ _ _ _ _ _
    | exact LeO.none _
    | refine LeO.ite ?_ ?_
    | refine LeO.bind ?_ (fun _ => ?_)
  · intro y0 y1 y2 y3 y4 y5
    unfold tillerref11_To.j1
    repeat' first
    | (with_reducible exact ih0 _ _ _ _ _)
    | (with_reducible exact ih1 _ _ _ _ _ _)
    | (with_reducible exact ih2 _ _ _ _ _)
    | (with_reducible exact ih3 _ _ _)
    | (with_reducible exact r2_Cmp.mono _ _ _)
    | (with_reducible exact r2_Low.mono _ _)
    | (with_reducible exact r2_Of.mono _ _)
    | (with_reducible exact r4_Pattern.mono _ _)
    | (with_reducible exact r4_To.mono _ _ _ _ _ _)
    | (with_reducible exact LeO.refl _)
    | (with_reducible exact LeO.none _)
    | (with_reducible refine LeO.ite ?_ ?_)
    | (with_reducible refine LeO.bind ?_ (fun _ => ?_))
    | exact ih0 _ _ _ _ _
    | exact ih1 _ _ _ _ _ _
    | exact ih2 _ _ _ _ _
    | exact ih3 _ _ _
    | exact r2_Cmp.mono _ _ _
    | exact r2_Low.mono _ _
    | exact r2_Of.mono _ _
    | exact r4_Pattern.mono _ _
    | exact r4_To.mono _ _ _ _ _ _
    | exact LeO.none _
    | refine LeO.ite ?_ ?_
    | refine LeO.bind ?_ (fun _ => ?_)
  · intro y0 y1 y2 y3 y4
    unfold tillerref11_To.j2
    repeat' first
    | (with_reducible exact ih0 _ _ _ _ _)
    | (with_reducible exact ih1 _ _ _ _ _ _)
    | (with_reducible exact ih2 _ _ _ _ _)
    | (with_reducible exact ih3 _ _ _)
    | (with_reducible exact r2_Cmp.mono _ _ _)
    | (with_reducible exact r2_Low.mono _ _)
    | (with_reducible exact r2_Of.mono _ _)
    | (with_reducible exact r4_Pattern.mono _ _)
    | (with_reducible exact r4_To.mono _ _ _ _ _ _)
    | (with_reducible exact LeO.refl _)
    | (with_reducible exact LeO.none _)
    | (with_reducible refine LeO.ite ?_ ?_)
    | (with_reducible refine LeO.bind ?_ (fun _ => ?_))
    | exact ih0 _ _ _ _ _
    | exact ih1 _ _ _ _ _ _
    | exact ih2 _ _ _ _ _
    | exact ih3 _ _ _
    | exact r2_Cmp.mono _ _ _
    | exact r2_Low.mono _ _
    | exact r2_Of.mono _ _
    | exact r4_Pattern.mono _ _
    | exact r4_To.mono _ _ _ _ _ _
    | exact LeO.none _
    | refine LeO.ite ?_ ?_
    | refine LeO.bind ?_ (fun _ => ?_)
  intro y0 y1 y2
  unfold tillerref11_To.j3
  repeat' first
  | (with_reducible exact ih0 _ _ _ _ _)
  | (with_reducible exact ih1 _ _ _ _ _ _)
  | (with_reducible exact ih2 _ _ _ _ _)
  | (with_reducible exact ih3 _ _ _)
  | (with_reducible exact r2_Cmp.mono _ _ _)
  | (with_reducible exact r2_Low.mono _ _)
  | (with_reducible exact r2_Of.mono _ _)
  | (with_reducible exact r4_Pattern.mono _ _)
  | (with_reducible exact r4_To.mono _ _ _ _ _ _)
  | (with_reducible exact LeO.refl _)
  | (with_reducible exact LeO.none _)
  | (with_reducible refine LeO.ite ?_ ?_)
  | (with_reducible refine LeO.bind ?_ (fun _ => ?_))
  | exact ih0 _ _ _ _ _
  | exact ih1 _ _ _ _ _ _
  | exact ih2 _ _ _ _ _
  | exact ih3 _ _ _
  | exact r2_Cmp.mono _ _ _
  | exact r2_Low.mono _ _
  | exact r2_Of.mono _ _
  | exact r4_Pattern.mono _ _
  | exact r4_To.mono _ _ _ _ _ _
  | exact LeO.none _
  | refine LeO.ite ?_ ?_
  | refine LeO.bind ?_ (fun _ => ?_)
theorem tillerref11_To.mono : ∀ a0 a1 a2 a3 a4 k, LeO (tillerref11_To.f k a0 a1 a2 a3 a4) (tillerref11_To.f (k + 1) a0 a1 a2 a3 a4) := by
 intro a0 a1 a2 a3 a4 k; obtain ⟨ih0, ih1, ih2, ih3⟩ := tillerref11_To.mono_l k
 unfold tillerref11_To.f
 repeat' first
  | (with_reducible exact ih0 _ _ _ _ _)
  | (with_reducible exact ih1 _ _ _ _ _ _)
  | (with_reducible exact ih2 _ _ _ _ _)
  | (with_reducible exact ih3 _ _ _)
  | (with_reducible exact r2_Cmp.mono _ _ _)
  | (with_reducible exact r2_Low.mono _ _)
  | (with_reducible exact r2_Of.mono _ _)
  | (with_reducible exact r4_Pattern.mono _ _)
  | (with_reducible exact r4_To.mono _ _ _ _ _ _)
  | (with_reducible exact LeO.refl _)
  | (with_reducible exact LeO.none _)
  | (with_reducible refine LeO.ite ?_ ?_)
  | (with_reducible refine LeO.bind ?_ (fun _ => ?_))
  | exact ih0 _ _ _ _ _
  | exact ih1 _ _ _ _ _ _
  | exact ih2 _ _ _ _ _
  | exact ih3 _ _ _
  | exact r2_Cmp.mono _ _ _
  | exact r2_Low.mono _ _
  | exact r2_Of.mono _ _
  | exact r4_Pattern.mono _ _
  | exact r4_To.mono _ _ _ _ _ _
  | exact LeO.none _
  | refine LeO.ite ?_ ?_
  | refine LeO.bind ?_ (fun _ => ?_)
set_option maxHeartbeats 8000000 in
set_option maxRecDepth 100000 in
theorem tillerref11_To.calls (k : Nat) (a0 : Int) (a1 : Int) (a2 : Bool) (a3 : Int) (a4 : Int) (r1 : Bool) (r2 : Int) (r3 : Int) (w : World) (h : tillerref11_To.f k a0 a1 a2 a3 a4 = some (r1, r2, r3)) :
 Calls Try.prog 18 #[.int .u64 a0, .int .i64 a1, .bool a2, .int .u64 a3, .int .u64 a4] w fun e w' => e = .returned (.tuple #[.bool r1, .int .u64 r2, .int .i64 r3]) ∧ Below w.heap.size w w' := by
 have HB := Aside0.mk (Below.refl w.heap.size w); have H : ((r3_NaN.f a0).bind fun qi => (if qi = true then (some (false, 0, 1)) else (if a0 ≥ 9223372036854775808 then (tillerref11_To.j0 k a0 a1 a2 (decide (a0 ≥ 9223372036854775808)) a3) else (tillerref11_To.j0 k a0 a1 a2 (decide (a0 ≥ 9223372036854775808)) a4)))) = some (r1, r2, r3) := h; clear h; replace H := Option.bind_eq_some_iff.mp H; obtain ⟨qi, A60, H⟩ := H; replace H : (if qi = true then (some (false, 0, 1)) else (if a0 ≥ 9223372036854775808 then (tillerref11_To.j0 k a0 a1 a2 (decide (a0 ≥ 9223372036854775808)) a3) else (tillerref11_To.j0 k a0 a1 a2 (decide (a0 ≥ 9223372036854775808)) a4))) = some (r1, r2, r3) := H; have A6 := Aside0.mk A60; clear A60
 by_cases c7 : qi = true
 · subst c7
   have H1 : (some (false, 0, 1)) = some (r1, r2, r3) := by rw [if_pos rfl] at H; exact H
   clear H; have H := H1; clear H1
   simp only [Option.some.injEq, Prod.mk.injEq] at H
   obtain ⟨rfl, rfl, rfl⟩ := H
   go_enter Try.func18, Try.ntmps18
   go_wp2_with (first | ((with_reducible refine gate_callee (f := 36) rfl ?_); refine goesL_ (some 18) rfl rfl Try.func36 (by kernel_rfl) rfl #[.int .u64 a0] rfl LMq ?_; (with_reducible refine (r3_NaN.calls a0 true _ A6.out).mono ?_); rintro e w8 ⟨rfl, hb⟩; refine ⟨_, rfl, ?_⟩; replace HB := Aside0.mk (below_step (kH HB) hb); (try clear hb); (try clear hb2); (try clear hk); (try clear hi)))
   go_ret3
   exact ⟨by first | rfl | (simp [errW_none, errW_some] <;> rfl) | (simp [*, errW_none, errW_some] <;> rfl), kH HB⟩
 replace c7 := Bool.eq_false_iff.mpr c7; subst c7
 have H1 : (if a0 ≥ 9223372036854775808 then (tillerref11_To.j0 k a0 a1 a2 (decide (a0 ≥ 9223372036854775808)) a3) else (tillerref11_To.j0 k a0 a1 a2 (decide (a0 ≥ 9223372036854775808)) a4)) = some (r1, r2, r3) := by rw [if_neg (show ¬ (false = true) by decide)] at H; exact H
 clear H; have H := H1; clear H1; have HC9 := Aside0.mk H; clear H
 go_enter Try.func18, Try.ntmps18
 go_upto_if 22 with (first | ((with_reducible refine gate_callee (f := 36) rfl ?_); refine goesL_ (some 18) rfl rfl Try.func36 (by kernel_rfl) rfl #[.int .u64 a0] rfl LMq ?_; (with_reducible refine (r3_NaN.calls a0 false _ A6.out).mono ?_); rintro e w10 ⟨rfl, hb⟩; refine ⟨_, rfl, ?_⟩; replace HB := Aside0.mk (below_step (kH HB) hb); (try clear hb); (try clear hb2); (try clear hk); (try clear hi)))
 (try simp only [Act.put, List.setIfInBounds_toArray, List.set_cons_zero, List.set_cons_succ])
 go_cut [13, 14] (fun v13 v14 wc => ∃ (kq : Nat) (q0 : Bool) (q3 : Int), v13 = .bool q0 ∧ v14 = .int .u64 q3 ∧ Aside0 (tillerref11_To.j0 kq a0 a1 a2 q0 q3 = some (r1, r2, r3)) ∧ Aside0 (kq ≤ k) ∧ Aside0 (Below w.heap.size w wc))
 case first =>
  have H := HC9.out; clear HC9
  by_cases c11 : a0 ≥ 9223372036854775808
  · rw [if_pos c11] at H
    have qa : decide (9223372036854775808 ≤ a0) = true := decide_eq_true c11; clear c11
    (first | rw [qa] | (simp only [i64_w, i32_w]; rw [qa]) | skip)
    have H' := Aside0.mk H; clear H
    go_wp2
    go_meet
    case rel => exact ⟨_, (decide (a0 ≥ 9223372036854775808)), (a3), RSq, RSq, (by first | exact H' | (subst_vars; exact H')), ⟨by first | omega | exact Nat.le_refl _⟩, ⟨kH HB⟩⟩
  rw [if_neg c11] at H
  have qa : decide (9223372036854775808 ≤ a0) = false := decide_eq_false c11; clear c11
  (first | rw [qa] | (simp only [i64_w, i32_w]; rw [qa]) | skip)
  have H' := Aside0.mk H; clear H
  go_wp2
  go_meet
  case rel => exact ⟨_, (decide (a0 ≥ 9223372036854775808)), (a4), RSq, RSq, (by first | exact H' | (subst_vars; exact H')), ⟨by first | omega | exact Nat.le_refl _⟩, ⟨kH HB⟩⟩
 case rest =>
  clear HC9; (try clear c1); (try clear p2); (try clear c3); (try clear p6); (try clear c7); (try clear c11); (try clear qa); obtain ⟨kq, q0, q3, rfl, rfl, HA, HJ8, HB⟩ := hcut
  cases kq with
  | zero => exact absurd HA.out (by simp [tillerref11_To.j0])
  | succ kj8 =>
   have H := HA.out; clear HA
   simp only [tillerref11_To.j0] at H
   replace H := Option.bind_eq_some_iff.mp H; obtain ⟨qk, qw, H⟩ := H; replace H : (if qk = true then (if a1 < 0 then (tillerref11_To.j1 kj8 a0 a1 a2 q0 q3 true) else (tillerref11_To.j1 kj8 a0 a1 a2 q0 q3 (decide (a1 > 4)))) else (some (q0, q3, 1))) = some (r1, r2, r3) := H; have A12 := Aside0.mk qw; clear qw
   by_cases c13 : qk = true
   · subst c13
     have H1 : (if a1 < 0 then (tillerref11_To.j1 kj8 a0 a1 a2 q0 q3 true) else (tillerref11_To.j1 kj8 a0 a1 a2 q0 q3 (decide (a1 > 4)))) = some (r1, r2, r3) := by rw [if_pos rfl] at H; exact H
     clear H; have H := H1; clear H1; have qs := Aside0.mk H; clear H
     go_upto_region 9 with (first | ((with_reducible refine gate_callee (f := 37) rfl ?_); refine goesL_ (some 25) rfl rfl Try.func37 (by kernel_rfl) rfl #[.int .u64 a0] rfl LMq ?_; (with_reducible refine (r3_Finite.calls a0 true _ A12.out).mono ?_); rintro e w15 ⟨rfl, hb⟩; refine ⟨_, rfl, ?_⟩; replace HB := Aside0.mk (below_step (kH HB) hb); (try clear hb); (try clear hb2); (try clear hk); (try clear hi)))
     (try simp only [Act.put, List.setIfInBounds_toArray, List.set_cons_zero, List.set_cons_succ])
     go_cut [34] (fun v34 wc => ∃ (kq : Nat) (ql : Bool), v34 = .bool ql ∧ Aside0 (tillerref11_To.j1 kq a0 a1 a2 q0 q3 ql = some (r1, r2, r3)) ∧ Aside0 (kq ≤ kj8) ∧ Aside0 (Below w.heap.size w wc))
     case first =>
      have H := qs.out; clear qs
      by_cases c16 : a1 < 0
      · rw [if_pos c16] at H
        have qb : decide (a1 < 0) = true := decide_eq_true c16; clear c16
        (first | rw [qb] | (simp only [i64_w, i32_w]; rw [qb]) | skip)
        have H' := Aside0.mk H; clear H
        go_wp2
        go_meet
        case rel => exact ⟨_, (true), RSq, (by first | exact H' | (subst_vars; exact H')), ⟨by have := HJ8.out; first | omega | exact Nat.le_refl _⟩, ⟨kH HB⟩⟩
      rw [if_neg c16] at H
      have qb : decide (a1 < 0) = false := decide_eq_false c16; clear c16
      (first | rw [qb] | (simp only [i64_w, i32_w]; rw [qb]) | skip)
      have H' := Aside0.mk H; clear H
      go_wp2
      go_meet
      case rel => exact ⟨_, (decide (a1 > 4)), RSq, (by first | exact H' | (subst_vars; exact H')), ⟨by have := HJ8.out; first | omega | exact Nat.le_refl _⟩, ⟨kH HB⟩⟩
     case rest =>
      clear qs; (try clear c1); (try clear p2); (try clear c3); (try clear p6); (try clear c7); (try clear c11); (try clear qa); (try clear c13); (try clear c16); (try clear qb); (try clear p2); (try clear p6); obtain ⟨kq, ql, rfl, HA, qm, HB⟩ := hcut
      cases kq with
      | zero => exact absurd HA.out (by simp [tillerref11_To.j1])
      | succ qt =>
       have H := HA.out; clear HA
       simp only [tillerref11_To.j1] at H
       have qu := Aside0.mk H; clear H
       go_upto_if 34 with (fail)
       go_cut [1] (fun v1 wc => ∃ (kq : Nat) (qc : Int), v1 = .int .i64 qc ∧ Aside0 (tillerref11_To.j2 kq a0 qc a2 q0 q3 = some (r1, r2, r3)) ∧ Aside0 (kq ≤ qt) ∧ Aside0 (Below w.heap.size w wc))
       case first =>
        have H := qu.out; clear qu
        by_cases c18 : ql = true
        · subst c18
          have H1 : (tillerref11_To.j2 qt a0 0 a2 q0 q3) = some (r1, r2, r3) := by rw [if_pos rfl] at H; exact H
          clear H; have H := H1; clear H1; have H' := Aside0.mk H; clear H
          go_wp2
          go_meet
          case rel => exact ⟨_, (0), RSq, (by first | exact H' | (subst_vars; exact H')), ⟨by have := HJ8.out; have := qm.out; first | omega | exact Nat.le_refl _⟩, ⟨kH HB⟩⟩
        replace c18 := Bool.eq_false_iff.mpr c18; subst c18
        have H1 : (tillerref11_To.j2 qt a0 a1 a2 q0 q3) = some (r1, r2, r3) := by rw [if_neg (show ¬ (false = true) by decide)] at H; exact H
        clear H; have H := H1; clear H1; have H' := Aside0.mk H; clear H
        go_wp2
        go_meet
        case rel => exact ⟨_, (a1), RSq, (by first | exact H' | (subst_vars; exact H')), ⟨by have := HJ8.out; have := qm.out; first | omega | exact Nat.le_refl _⟩, ⟨kH HB⟩⟩
       case rest =>
        clear qu; (try clear c1); (try clear p2); (try clear c3); (try clear p6); (try clear c7); (try clear c11); (try clear qa); (try clear c13); (try clear c16); (try clear qb); (try clear c18); (try clear p2); (try clear p6); obtain ⟨kq, qc, rfl, HA, qx, HB⟩ := hcut
        cases kq with
        | zero => exact absurd HA.out (by simp [tillerref11_To.j2])
        | succ q1 =>
         have H := HA.out; clear HA
         simp only [tillerref11_To.j2] at H
         replace H := Option.bind_eq_some_iff.mp H; obtain ⟨⟨qd, qe, qf⟩, qy, H⟩ := H; replace H : ((r4_To.f q1 qd qe qf 0 qc).bind fun q9 => ((r2_Of.f q1 q3).bind fun q7 => ((r2_Cmp.f q1 q9.1 q7).bind fun q6 => (if q6 > 0 then (some (q0, q3, 1)) else (if q9.2 = true then (tillerref11_To.j3 q1 q0 q9.1 a2) else (tillerref11_To.j3 q1 q0 q9.1 false)))))) = some (r1, r2, r3) := H; have A19 := Aside0.mk qy; clear qy; replace H := Option.bind_eq_some_iff.mp H; obtain ⟨⟨q2, qj⟩, qz, H⟩ := H; replace H : ((r2_Of.f q1 q3).bind fun q7 => ((r2_Cmp.f q1 q2 q7).bind fun q6 => (if q6 > 0 then (some (q0, q3, 1)) else (if qj = true then (tillerref11_To.j3 q1 q0 q2 a2) else (tillerref11_To.j3 q1 q0 q2 false))))) = some (r1, r2, r3) := H; have A20 := Aside0.mk qz; clear qz; replace H := Option.bind_eq_some_iff.mp H; obtain ⟨q7, q00, H⟩ := H; replace H : ((r2_Cmp.f q1 q2 q7).bind fun q6 => (if q6 > 0 then (some (q0, q3, 1)) else (if qj = true then (tillerref11_To.j3 q1 q0 q2 a2) else (tillerref11_To.j3 q1 q0 q2 false)))) = some (r1, r2, r3) := H; have A21 := Aside0.mk q00; clear q00; replace H := Option.bind_eq_some_iff.mp H; obtain ⟨q6, q01, H⟩ := H; replace H : (if q6 > 0 then (some (q0, q3, 1)) else (if qj = true then (tillerref11_To.j3 q1 q0 q2 a2) else (tillerref11_To.j3 q1 q0 q2 false))) = some (r1, r2, r3) := H; have A22 := Aside0.mk q01; clear q01
         by_cases c23 : q6 > 0
         · rw [if_pos c23] at H
           have q02 : decide (0 < q6) = true := decide_eq_true c23; clear c23
           simp only [Option.some.injEq, Prod.mk.injEq] at H
           obtain ⟨rfl, rfl, rfl⟩ := H
           go_wp2_with (first | ((with_reducible refine gate_callee (f := 39) rfl ?_); refine goesL_ (some 37) rfl rfl Try.func39 (by kernel_rfl) rfl #[.int .u64 a0] rfl LMq ?_; (with_reducible refine (r4_Pattern.calls q1 a0 qd qe qf _ A19.out).mono ?_); rintro e w24 ⟨v373, rfl, ho0, hb⟩; refine ⟨_, rfl, ?_⟩; have q4 := Aside0.mk (Kd.V_lower (Kd.V_mono (ok' := fun k_ => True) ho0 (fun k_ hk_ => trivial)) (below_size (kH HB))); replace HB := Aside0.mk (below_step (kH HB) hb); (try clear hb); (try clear hb2); (try clear hk); (try clear hi); (try clear ho0); obtain ⟨q05, q06, eo25⟩ := Kd.V_slice q4.out; subst eo25) | ((with_reducible refine gate_callee (f := 38) rfl ?_); refine goesL_ (some 39) rfl rfl Try.func38 (by kernel_rfl) rfl #[.agg #[.bool qd, .int .i64 qe, .slice q05 qf.length q06], .int .i64 0, .int .i64 qc] rfl LMq ?_; (with_reducible refine (r4_To.calls q1 qd qe (fun k_ => True) _ _ qf 0 qc q2 qj _ ?side1 A20.out).mono ?_); (case side1 => exact q4.out); rintro e w26 ⟨v376, rfl, ho0, hb⟩; refine ⟨_, rfl, ?_⟩; replace q4 := Aside0.mk (Kd.V_below (kV q4) hb); have q5 := Aside0.mk (Kd.V_lower (Kd.V_mono (ok' := fun k_ => True) ho0 (fun k_ hk_ => trivial)) (below_size (kH HB))); replace HB := Aside0.mk (below_step (kH HB) hb); (try clear hb); (try clear hb2); (try clear hk); (try clear hi); (try clear ho0)) | ((with_reducible refine gate_callee (f := 33) rfl ?_); refine goesL_ (some 44) rfl rfl Try.func33 (by kernel_rfl) rfl #[.int .u64 q3] rfl LMq ?_; (with_reducible refine (r2_Of.calls q1 q3 q7 _ A21.out).mono ?_); rintro e w27 ⟨v380, rfl, ho0, hb⟩; refine ⟨_, rfl, ?_⟩; replace q4 := Aside0.mk (Kd.V_below (kV q4) hb); replace q5 := Aside0.mk (Kd.V_below (kV q5) hb); have q8 := Aside0.mk (Kd.V_lower (Kd.V_mono (ok' := fun k_ => True) ho0 (fun k_ hk_ => trivial)) (below_size (kH HB))); replace HB := Aside0.mk (below_step (kH HB) hb); (try clear hb); (try clear hb2); (try clear hk); (try clear hi); (try clear ho0); obtain ⟨q07, q08, eo28⟩ := Kd.V_slice q5.out; subst eo28; obtain ⟨q09, q0a, eo29⟩ := Kd.V_slice q8.out; subst eo29) | ((with_reducible refine gate_callee (f := 40) rfl ?_); refine goesL_ (some 45) rfl rfl Try.func40 (by kernel_rfl) rfl #[.slice q07 q2.length q08, .slice q09 q7.length q0a] rfl LMq ?_; (with_reducible refine (r2_Cmp.calls q1 _ _ q2 _ _ q7 q6 _ ?side1 ?side2 ?side3 ?side4 A22.out).mono ?_); (case side1 => exact kC (Kd.V_reads' q5.out).2.2); (case side2 => exact (Kd.V_reads' q5.out).2.1); (case side3 => exact kC (Kd.V_reads' q8.out).2.2); (case side4 => exact (Kd.V_reads' q8.out).2.1); rintro e w30 ⟨rfl, hb⟩; refine ⟨_, rfl, ?_⟩; replace q4 := Aside0.mk (Kd.V_below (kV q4) hb); replace q5 := Aside0.mk (Kd.V_below (kV q5) hb); replace q8 := Aside0.mk (Kd.V_below (kV q8) hb); replace HB := Aside0.mk (below_step (kH HB) hb); (try clear hb); (try clear hb2); (try clear hk); (try clear hi)))
           go_ret3
           exact ⟨by first | rfl | (simp [errW_none, errW_some] <;> rfl) | (simp [*, errW_none, errW_some] <;> rfl), kH HB⟩
         rw [if_neg c23] at H
         have q02 : decide (0 < q6) = false := decide_eq_false c23; clear c23; have qv := Aside0.mk H; clear H
         go_upto_region 14 with (first | ((with_reducible refine gate_callee (f := 39) rfl ?_); refine goesL_ (some 37) rfl rfl Try.func39 (by kernel_rfl) rfl #[.int .u64 a0] rfl LMq ?_; (with_reducible refine (r4_Pattern.calls q1 a0 qd qe qf _ A19.out).mono ?_); rintro e w32 ⟨v373, rfl, ho0, hb⟩; refine ⟨_, rfl, ?_⟩; have q4 := Aside0.mk (Kd.V_lower (Kd.V_mono (ok' := fun k_ => True) ho0 (fun k_ hk_ => trivial)) (below_size (kH HB))); replace HB := Aside0.mk (below_step (kH HB) hb); (try clear hb); (try clear hb2); (try clear hk); (try clear hi); (try clear ho0); obtain ⟨q0b, q0c, eo33⟩ := Kd.V_slice q4.out; subst eo33) | ((with_reducible refine gate_callee (f := 38) rfl ?_); refine goesL_ (some 39) rfl rfl Try.func38 (by kernel_rfl) rfl #[.agg #[.bool qd, .int .i64 qe, .slice q0b qf.length q0c], .int .i64 0, .int .i64 qc] rfl LMq ?_; (with_reducible refine (r4_To.calls q1 qd qe (fun k_ => True) _ _ qf 0 qc q2 qj _ ?side1 A20.out).mono ?_); (case side1 => exact q4.out); rintro e w34 ⟨v376, rfl, ho0, hb⟩; refine ⟨_, rfl, ?_⟩; replace q4 := Aside0.mk (Kd.V_below (kV q4) hb); have q5 := Aside0.mk (Kd.V_lower (Kd.V_mono (ok' := fun k_ => True) ho0 (fun k_ hk_ => trivial)) (below_size (kH HB))); replace HB := Aside0.mk (below_step (kH HB) hb); (try clear hb); (try clear hb2); (try clear hk); (try clear hi); (try clear ho0)) | ((with_reducible refine gate_callee (f := 33) rfl ?_); refine goesL_ (some 44) rfl rfl Try.func33 (by kernel_rfl) rfl #[.int .u64 q3] rfl LMq ?_; (with_reducible refine (r2_Of.calls q1 q3 q7 _ A21.out).mono ?_); rintro e w35 ⟨v380, rfl, ho0, hb⟩; refine ⟨_, rfl, ?_⟩; replace q4 := Aside0.mk (Kd.V_below (kV q4) hb); replace q5 := Aside0.mk (Kd.V_below (kV q5) hb); have q8 := Aside0.mk (Kd.V_lower (Kd.V_mono (ok' := fun k_ => True) ho0 (fun k_ hk_ => trivial)) (below_size (kH HB))); replace HB := Aside0.mk (below_step (kH HB) hb); (try clear hb); (try clear hb2); (try clear hk); (try clear hi); (try clear ho0); obtain ⟨qn, qo, eo36⟩ := Kd.V_slice q5.out; subst eo36; obtain ⟨q0d, q0e, eo37⟩ := Kd.V_slice q8.out; subst eo37) | ((with_reducible refine gate_callee (f := 40) rfl ?_); refine goesL_ (some 45) rfl rfl Try.func40 (by kernel_rfl) rfl #[.slice qn q2.length qo, .slice q0d q7.length q0e] rfl LMq ?_; (with_reducible refine (r2_Cmp.calls q1 _ _ q2 _ _ q7 q6 _ ?side1 ?side2 ?side3 ?side4 A22.out).mono ?_); (case side1 => exact kC (Kd.V_reads' q5.out).2.2); (case side2 => exact (Kd.V_reads' q5.out).2.1); (case side3 => exact kC (Kd.V_reads' q8.out).2.2); (case side4 => exact (Kd.V_reads' q8.out).2.1); rintro e w38 ⟨rfl, hb⟩; refine ⟨_, rfl, ?_⟩; replace q4 := Aside0.mk (Kd.V_below (kV q4) hb); replace q5 := Aside0.mk (Kd.V_below (kV q5) hb); replace q8 := Aside0.mk (Kd.V_below (kV q8) hb); replace HB := Aside0.mk (below_step (kH HB) hb); (try clear hb); (try clear hb2); (try clear hk); (try clear hi)))
         (try simp only [Act.put, List.setIfInBounds_toArray, List.set_cons_zero, List.set_cons_succ])
         go_cut [52] (fun v52 wc => ∃ (kq : Nat) (qp : Bool), v52 = .bool qp ∧ Aside0 (tillerref11_To.j3 kq q0 q2 qp = some (r1, r2, r3)) ∧ Aside0 (kq ≤ q1) ∧ Aside0 (Kd.V (Kd.int .u32) 41 wc w.heap.size (fun _ => True) (.slice qn q2.length qo) q2) ∧ Aside0 (Below w.heap.size w wc))
         case first =>
          have H := qv.out; clear qv
          by_cases c39 : qj = true
          · subst c39
            have H1 : (tillerref11_To.j3 q1 q0 q2 a2) = some (r1, r2, r3) := by rw [if_pos rfl] at H; exact H
            clear H; have H := H1; clear H1; have H' := Aside0.mk H; clear H
            go_wp2
            go_meet
            case rel => exact ⟨_, (a2), RSq, (by first | exact H' | (subst_vars; exact H')), ⟨by have := HJ8.out; have := qm.out; have := qx.out; first | omega | exact Nat.le_refl _⟩, ⟨kV q5⟩, ⟨kH HB⟩⟩
          replace c39 := Bool.eq_false_iff.mpr c39; subst c39
          have H1 : (tillerref11_To.j3 q1 q0 q2 false) = some (r1, r2, r3) := by rw [if_neg (show ¬ (false = true) by decide)] at H; exact H
          clear H; have H := H1; clear H1; have H' := Aside0.mk H; clear H
          go_wp2
          go_meet
          case rel => exact ⟨_, (false), RSq, (by first | exact H' | (subst_vars; exact H')), ⟨by have := HJ8.out; have := qm.out; have := qx.out; first | omega | exact Nat.le_refl _⟩, ⟨kV q5⟩, ⟨kH HB⟩⟩
         case rest =>
          clear qv; (try clear c1); (try clear c2); (try clear p2); (try clear c3); (try clear c4); (try clear p6); (try clear c7); (try clear c11); (try clear qa); (try clear c13); (try clear c16); (try clear qb); (try clear c18); (try clear c23); (try clear q02); (try clear c33); (try clear c36); (try clear c37); (try clear c38); (try clear c39); (try clear p2); (try clear p6); obtain ⟨kq, qp, rfl, HA, HJ30, HO_15, HB⟩ := hcut
          cases kq with
          | zero => exact absurd HA.out (by simp [tillerref11_To.j3])
          | succ qq =>
           have H := HA.out; clear HA
           simp only [tillerref11_To.j3] at H
           by_cases c40 : qp = true
           · subst c40
             have H1 : ((r2_Low.f qq q2).bind fun qg => (some (q0, qg, 16))) = some (r1, r2, r3) := by rw [if_pos rfl] at H; exact H
             clear H; have H := H1; clear H1; replace H := Option.bind_eq_some_iff.mp H; obtain ⟨qg, q03, H⟩ := H; replace H : (some (q0, qg, 16)) = some (r1, r2, r3) := H; have A41 := Aside0.mk q03; clear q03
             simp only [Option.some.injEq, Prod.mk.injEq] at H
             obtain ⟨rfl, rfl, rfl⟩ := H
             go_wp2_with (first | ((with_reducible refine gate_callee (f := 41) rfl ?_); refine goesL_ (some 55) rfl rfl Try.func41 (by kernel_rfl) rfl #[.slice qn q2.length qo] rfl LMq ?_; (with_reducible refine (r2_Low.calls qq _ _ q2 qg _ ?side1 ?side2 A41.out).mono ?_); (case side1 => exact kC (Kd.V_reads' HO_15.out).2.2); (case side2 => exact (Kd.V_reads' HO_15.out).2.1); rintro e w42 ⟨rfl, hb⟩; refine ⟨_, rfl, ?_⟩; replace HO_15 := Aside0.mk (Kd.V_below (kV HO_15) hb); replace HB := Aside0.mk (below_step (kH HB) hb); (try clear hb); (try clear hb2); (try clear hk); (try clear hi)))
             go_ret3
             exact ⟨by first | rfl | (simp [errW_none, errW_some] <;> rfl) | (simp [*, errW_none, errW_some] <;> rfl), kH HB⟩
           replace c40 := Bool.eq_false_iff.mpr c40; subst c40
           have H1 : ((r2_Low.f qq q2).bind fun qh => (some (q0, qh, 0))) = some (r1, r2, r3) := by rw [if_neg (show ¬ (false = true) by decide)] at H; exact H
           clear H; have H := H1; clear H1; replace H := Option.bind_eq_some_iff.mp H; obtain ⟨qh, q04, H⟩ := H; replace H : (some (q0, qh, 0)) = some (r1, r2, r3) := H; have A43 := Aside0.mk q04; clear q04
           simp only [Option.some.injEq, Prod.mk.injEq] at H
           obtain ⟨rfl, rfl, rfl⟩ := H
           go_wp2_with (first | ((with_reducible refine gate_callee (f := 41) rfl ?_); refine goesL_ (some 58) rfl rfl Try.func41 (by kernel_rfl) rfl #[.slice qn q2.length qo] rfl LMq ?_; (with_reducible refine (r2_Low.calls qq _ _ q2 qh _ ?side1 ?side2 A43.out).mono ?_); (case side1 => exact kC (Kd.V_reads' HO_15.out).2.2); (case side2 => exact (Kd.V_reads' HO_15.out).2.1); rintro e w44 ⟨rfl, hb⟩; refine ⟨_, rfl, ?_⟩; replace HO_15 := Aside0.mk (Kd.V_below (kV HO_15) hb); replace HB := Aside0.mk (below_step (kH HB) hb); (try clear hb); (try clear hb2); (try clear hk); (try clear hi)))
           go_ret3
           exact ⟨by first | rfl | (simp [errW_none, errW_some] <;> rfl) | (simp [*, errW_none, errW_some] <;> rfl), kH HB⟩
   replace c13 := Bool.eq_false_iff.mpr c13; subst c13
   have H1 : (some (q0, q3, 1)) = some (r1, r2, r3) := by rw [if_neg (show ¬ (false = true) by decide)] at H; exact H
   clear H; have H := H1; clear H1
   simp only [Option.some.injEq, Prod.mk.injEq] at H
   obtain ⟨rfl, rfl, rfl⟩ := H
   go_wp2_with (first | ((with_reducible refine gate_callee (f := 37) rfl ?_); refine goesL_ (some 25) rfl rfl Try.func37 (by kernel_rfl) rfl #[.int .u64 a0] rfl LMq ?_; (with_reducible refine (r3_Finite.calls a0 false _ A12.out).mono ?_); rintro e w45 ⟨rfl, hb⟩; refine ⟨_, rfl, ?_⟩; replace HB := Aside0.mk (below_step (kH HB) hb); (try clear hb); (try clear hb2); (try clear hk); (try clear hi)))
   go_ret3
   exact ⟨by first | rfl | (simp [errW_none, errW_some] <;> rfl) | (simp [*, errW_none, errW_some] <;> rfl), kH HB⟩
end Go.Proofs.Ytbgefpeicmbgiaa.X
