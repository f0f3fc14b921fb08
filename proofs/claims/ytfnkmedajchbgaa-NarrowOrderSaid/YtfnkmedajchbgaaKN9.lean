import Derived.Test.YtfnkmedajchbgaaKN4
import Derived.Test.YtfnkmedajchbgaaKNXnarrowTo
import Derived.Test.YtfnkmedajchbgaaKN8
section
namespace Go.Proofs.Ytfnkmedajchbgaa.X
open Go.RowKit Go.Proofs.YtfnkmedajchbgaaW.PrintWords Go.Proofs.YtfnkmedajchbgaaW.PrintLast Go.Proofs.YtfnkmedajchbgaaW.PrintMore
attribute [local go_sem] max2_int min2_int max_two min_two max_three min_three max_four min_four   
set_option linter.unusedVariables false
set_option linter.unusedSimpArgs false
mutual
def tillerlaw12_NarrowOrder.j0 : Nat → Int → Int → Int → Int → Option (Bool)
 | 0, _, _, _, _ => none
 | k + 1, x7, x8, x9, x10 => if x9 = 4 then (tillerlaw12_NarrowOrder.j1 k x7 x8 x9 3) else (tillerlaw12_NarrowOrder.j1 k x7 x8 x9 x10)
def tillerlaw12_NarrowOrder.j1 : Nat → Int → Int → Int → Int → Option (Bool)
 | 0, _, _, _, _ => none
 | k + 1, x7, x8, x9, x10 => (narrow_To.f k x7 x9).bind fun qg => ((narrow_To.f k x8 x9).bind fun qf => ((narrow_To.f k (Go.bits .or .u64 x7 9223372036854775808) x10).bind fun q4 => (if x7 > 9218868437227405312 then (tillerlaw12_NarrowOrder.j2 k x7 x8 qg.1 qg.2 qf.1 q4.1 q4.2 true) else (tillerlaw12_NarrowOrder.j2 k x7 x8 qg.1 qg.2 qf.1 q4.1 q4.2 (decide (x8 > 9218868437227405312))))))
def tillerlaw12_NarrowOrder.j2 : Nat → Int → Int → Int → Int → Int → Int → Int → Bool → Option (Bool)
 | 0, _, _, _, _, _, _, _, _ => none
 | k + 1, x7, x8, x11, x12, x13, x15, x16, x51 => if x51 = true then (if x7 ≤ 9218868437227405312 then (if x12 = x16 then ((tillerlaw12_sure.f k).bind fun qa => (some qa)) else (some false)) else (if x11 = 2143289344 then (if x12 = x16 then ((tillerlaw12_sure.f k).bind fun qb => (some qb)) else (some false)) else (some false))) else (if x7 > x8 then (if x15 = (Go.bits .or .u32 x11 2147483648) then (if x12 = x16 then ((tillerlaw12_sure.f k).bind fun qc => (some qc)) else (some false)) else (some false)) else (if x11 ≤ x13 then (if x15 = (Go.bits .or .u32 x11 2147483648) then (if x12 = x16 then ((tillerlaw12_sure.f k).bind fun qd => (some qd)) else (some false)) else (some false)) else (some false)))
end
def tillerlaw12_NarrowOrder.f (k : Nat) (a0 : Int) (a1 : Int) (a2 : Int) : Option (Bool) := if a2 = 3 then (tillerlaw12_NarrowOrder.j0 k (Go.bits .andNot .u64 a0 9223372036854775808) (Go.bits .andNot .u64 a1 9223372036854775808) a2 4) else (tillerlaw12_NarrowOrder.j0 k (Go.bits .andNot .u64 a0 9223372036854775808) (Go.bits .andNot .u64 a1 9223372036854775808) a2 a2)
theorem tillerlaw12_NarrowOrder.mono_l : ∀ k, (∀ y0 y1 y2 y3, LeO (tillerlaw12_NarrowOrder.j0 k y0 y1 y2 y3) (tillerlaw12_NarrowOrder.j0 (k + 1) y0 y1 y2 y3)) ∧ (∀ y0 y1 y2 y3, LeO (tillerlaw12_NarrowOrder.j1 k y0 y1 y2 y3) (tillerlaw12_NarrowOrder.j1 (k + 1) y0 y1 y2 y3)) ∧ (∀ y0 y1 y2 y3 y4 y5 y6 y7, LeO (tillerlaw12_NarrowOrder.j2 k y0 y1 y2 y3 y4 y5 y6 y7) (tillerlaw12_NarrowOrder.j2 (k + 1) y0 y1 y2 y3 y4 y5 y6 y7))
 | 0 => ⟨fun _ _ _ _ r h => by simp [tillerlaw12_NarrowOrder.j0] at h, fun _ _ _ _ r h => by simp [tillerlaw12_NarrowOrder.j1] at h, fun _ _ _ _ _ _ _ _ r h => by simp [tillerlaw12_NarrowOrder.j2] at h⟩
 | k + 1 => by
  obtain ⟨ih0, ih1, ih2⟩ := tillerlaw12_NarrowOrder.mono_l k; refine ⟨?_, ?_, ?_⟩
  · intro y0 y1 y2 y3
    unfold tillerlaw12_NarrowOrder.j0
    repeat' first
    | (with_reducible exact ih0 _ _ _ _)
    | (with_reducible exact ih1 _ _ _ _)
    | (with_reducible exact ih2 _ _ _ _ _ _ _ _)
    | (with_reducible exact narrow_To.mono _ _ _)
    | (with_reducible exact tillerlaw12_sure.mono _)
    | (with_reducible exact LeO.refl _)
    | (with_reducible exact LeO.none _)
    | (with_reducible refine LeO.ite ?_ ?_)
    | (with_reducible refine LeO.bind ?_ (fun _ => ?_))
    | exact ih0 _ _ _ _
    | exact ih1 _ _ _ _
    | exact ih2 _ _ _ _ _ _ _ _
    | exact narrow_To.mono _ _ _
    | exact tillerlaw12_sure.mono _
    | exact LeO.none _
    | refine LeO.ite ?_ ?_
    | refine LeO.bind ?_ (fun _ => ?_)
  · intro y0 y1 y2 y3
    unfold tillerlaw12_NarrowOrder.j1
    repeat' first
    | (with_reducible exact ih0 _ _ _ _)
    | (with_reducible exact ih1 _ _ _ _)
    | (with_reducible exact ih2 _ _ _ _ _ _ _ _)
    | (with_reducible exact narrow_To.mono _ _ _)
    | (with_reducible exact tillerlaw12_sure.mono _)
    | (with_reducible exact LeO.refl _)
    | (with_reducible exact LeO.none _)
    | (with_reducible refine LeO.ite ?_ ?_)
    | (with_reducible refine LeO.bind ?_ (fun _ => ?_))
    | exact ih0 _ _ _ _
    | exact ih1 _ _ _ _
    | exact ih2 _ _ _ _ _ _ _ _
    | exact narrow_To.mono _ _ _
    | exact tillerlaw12_sure.mono _
    | exact LeO.none _
    | refine LeO.ite ?_ ?_
    | refine LeO.bind ?_ (fun _ => ?_)
  intro y0 y1 y2 y3 y4 y5 y6 y7
  unfold tillerlaw12_NarrowOrder.j2
  repeat' first
  | (with_reducible exact ih0 _ _ _ _)
  | (with_reducible exact ih1 _ _ _ _)
  | (with_reducible exact ih2 _ _ _ _ _ _ _ _)
  | (with_reducible exact narrow_To.mono _ _ _)
  | (with_reducible exact tillerlaw12_sure.mono _)
  | (with_reducible exact LeO.refl _)
  | (with_reducible exact LeO.none _)
  | (with_reducible refine LeO.ite ?_ ?_)
  | (with_reducible refine LeO.bind ?_ (fun _ => ?_))
  | exact ih0 _ _ _ _
  | exact ih1 _ _ _ _
  | exact ih2 _ _ _ _ _ _ _ _
  | exact narrow_To.mono _ _ _
  | exact tillerlaw12_sure.mono _
  | exact LeO.none _
  | refine LeO.ite ?_ ?_
  | refine LeO.bind ?_ (fun _ => ?_)
theorem tillerlaw12_NarrowOrder.mono : ∀ a0 a1 a2 k, LeO (tillerlaw12_NarrowOrder.f k a0 a1 a2) (tillerlaw12_NarrowOrder.f (k + 1) a0 a1 a2) := by
 intro a0 a1 a2 k; obtain ⟨ih0, ih1, ih2⟩ := tillerlaw12_NarrowOrder.mono_l k
 unfold tillerlaw12_NarrowOrder.f
 repeat' first
  | (with_reducible exact ih0 _ _ _ _)
  | (with_reducible exact ih1 _ _ _ _)
  | (with_reducible exact ih2 _ _ _ _ _ _ _ _)
  | (with_reducible exact narrow_To.mono _ _ _)
  | (with_reducible exact tillerlaw12_sure.mono _)
  | (with_reducible exact LeO.refl _)
  | (with_reducible exact LeO.none _)
  | (with_reducible refine LeO.ite ?_ ?_)
  | (with_reducible refine LeO.bind ?_ (fun _ => ?_))
  | exact ih0 _ _ _ _
  | exact ih1 _ _ _ _
  | exact ih2 _ _ _ _ _ _ _ _
  | exact narrow_To.mono _ _ _
  | exact tillerlaw12_sure.mono _
  | exact LeO.none _
  | refine LeO.ite ?_ ?_
  | refine LeO.bind ?_ (fun _ => ?_)
set_option maxHeartbeats 8000000 in
set_option maxRecDepth 100000 in
theorem tillerlaw12_NarrowOrder.calls (k : Nat) (a0 : Int) (a1 : Int) (a2 : Int) (r : Bool) (w : World) (h : tillerlaw12_NarrowOrder.f k a0 a1 a2 = some r) :
 Calls Try.prog 6 #[.int .u64 a0, .int .u64 a1, .int .i64 a2] w fun e w' => e = .returned (.bool r) ∧ Below w.heap.size w w' := by
 have HB := Aside0.mk (Below.refl w.heap.size w); have H : (if a2 = 3 then (tillerlaw12_NarrowOrder.j0 k (Go.bits .andNot .u64 a0 9223372036854775808) (Go.bits .andNot .u64 a1 9223372036854775808) a2 4) else (tillerlaw12_NarrowOrder.j0 k (Go.bits .andNot .u64 a0 9223372036854775808) (Go.bits .andNot .u64 a1 9223372036854775808) a2 a2)) = some r := h; clear h; have HC4 := Aside0.mk H; clear H
 go_enter Try.func6, Try.ntmps6
 go_upto_if 24 with (fail)
 go_cut [10] (fun v10 wc => ∃ (kq : Nat) (qh : Int), v10 = .int .i64 qh ∧ Aside0 (tillerlaw12_NarrowOrder.j0 kq (Go.bits .andNot .u64 a0 9223372036854775808) (Go.bits .andNot .u64 a1 9223372036854775808) a2 qh = some r) ∧ Aside0 (kq ≤ k) ∧ Aside0 (Below w.heap.size w wc))
 case first =>
  have H := HC4.out; clear HC4
  by_cases c5 : a2 = 3
  · rw [if_pos c5] at H
    have q6 : (a2 == 3) = true := beq_iff_eq.mpr c5; have qi : (a2 != 3) = false := bne_eq_false_iff_eq.mpr c5; clear c5
    (first | rw [q6] | (simp only [i64_w, i32_w]; rw [q6]) | skip)
    have H' := Aside0.mk H; clear H
    go_wp2
    go_meet
    case rel => exact ⟨_, (4), RSq, (by first | exact H' | (subst_vars; exact H')), ⟨by first | omega | exact Nat.le_refl _⟩, ⟨kH HB⟩⟩
  rw [if_neg c5] at H
  have q6 : (a2 == 3) = false := beq_eq_false_iff_ne.mpr c5; have qi : (a2 != 3) = true := bne_iff_ne.mpr c5
  (first | rw [q6] | (simp only [i64_w, i32_w]; rw [q6]) | skip)
  have H' := Aside0.mk H; clear H
  go_wp2
  go_meet
  case rel => exact ⟨_, (a2), RSq, (by first | exact H' | (subst_vars; exact H')), ⟨by first | omega | exact Nat.le_refl _⟩, ⟨kH HB⟩⟩
 case rest =>
  clear HC4; (try clear p2); (try clear c5); (try clear q6); (try clear qi); obtain ⟨kq, qh, rfl, HA, HJ3, HB⟩ := hcut
  cases kq with
  | zero => exact absurd HA.out (by simp [tillerlaw12_NarrowOrder.j0])
  | succ kj3 =>
   have H := HA.out; clear HA
   simp only [tillerlaw12_NarrowOrder.j0] at H
   have HC6 := Aside0.mk H; clear H
   go_upto_if 26 with (fail)
   go_cut [10] (fun v10 wc => ∃ (kq : Nat) (q8 : Int), v10 = .int .i64 q8 ∧ Aside0 (tillerlaw12_NarrowOrder.j1 kq (Go.bits .andNot .u64 a0 9223372036854775808) (Go.bits .andNot .u64 a1 9223372036854775808) a2 q8 = some r) ∧ Aside0 (kq ≤ kj3) ∧ Aside0 (Below w.heap.size w wc))
   case first =>
    have H := HC6.out; clear HC6
    by_cases c7 : a2 = 4
    · rw [if_pos c7] at H
      have q9 : (a2 == 4) = true := beq_iff_eq.mpr c7; have qk : (a2 != 4) = false := bne_eq_false_iff_eq.mpr c7; clear c7
      (first | rw [q9] | (simp only [i64_w, i32_w]; rw [q9]) | skip)
      have H' := Aside0.mk H; clear H
      go_wp2
      go_meet
      case rel => exact ⟨_, (3), RSq, (by first | exact H' | (subst_vars; exact H')), ⟨by have := HJ3.out; first | omega | exact Nat.le_refl _⟩, ⟨kH HB⟩⟩
    rw [if_neg c7] at H
    have q9 : (a2 == 4) = false := beq_eq_false_iff_ne.mpr c7; have qk : (a2 != 4) = true := bne_iff_ne.mpr c7
    (first | rw [q9] | (simp only [i64_w, i32_w]; rw [q9]) | skip)
    have H' := Aside0.mk H; clear H
    go_wp2
    go_meet
    case rel => exact ⟨_, (qh), RSq, (by first | exact H' | (subst_vars; exact H')), ⟨by have := HJ3.out; first | omega | exact Nat.le_refl _⟩, ⟨kH HB⟩⟩
   case rest =>
    clear HC6; (try clear p2); (try clear c5); (try clear q6); (try clear qi); (try clear c6); (try clear p6); (try clear c7); (try clear q9); (try clear qk); (try clear p2); obtain ⟨kq, q8, rfl, HA, HJ5, HB⟩ := hcut
    cases kq with
    | zero => exact absurd HA.out (by simp [tillerlaw12_NarrowOrder.j1])
    | succ kj5 =>
     have H := HA.out; clear HA
     simp only [tillerlaw12_NarrowOrder.j1] at H
     replace H := Option.bind_eq_some_iff.mp H; obtain ⟨⟨q1, q0⟩, A80, H⟩ := H; replace H : ((narrow_To.f kj5 (Go.bits .andNot .u64 a1 9223372036854775808) a2).bind fun qf => ((narrow_To.f kj5 (Go.bits .or .u64 (Go.bits .andNot .u64 a0 9223372036854775808) 9223372036854775808) q8).bind fun q4 => (if (Go.bits .andNot .u64 a0 9223372036854775808) > 9218868437227405312 then (tillerlaw12_NarrowOrder.j2 kj5 (Go.bits .andNot .u64 a0 9223372036854775808) (Go.bits .andNot .u64 a1 9223372036854775808) q1 q0 qf.1 q4.1 q4.2 true) else (tillerlaw12_NarrowOrder.j2 kj5 (Go.bits .andNot .u64 a0 9223372036854775808) (Go.bits .andNot .u64 a1 9223372036854775808) q1 q0 qf.1 q4.1 q4.2 (decide ((Go.bits .andNot .u64 a1 9223372036854775808) > 9218868437227405312)))))) = some r := H; have A8 := Aside0.mk A80; clear A80; replace H := Option.bind_eq_some_iff.mp H; obtain ⟨⟨q5, qr⟩, A90, H⟩ := H; replace H : ((narrow_To.f kj5 (Go.bits .or .u64 (Go.bits .andNot .u64 a0 9223372036854775808) 9223372036854775808) q8).bind fun q4 => (if (Go.bits .andNot .u64 a0 9223372036854775808) > 9218868437227405312 then (tillerlaw12_NarrowOrder.j2 kj5 (Go.bits .andNot .u64 a0 9223372036854775808) (Go.bits .andNot .u64 a1 9223372036854775808) q1 q0 q5 q4.1 q4.2 true) else (tillerlaw12_NarrowOrder.j2 kj5 (Go.bits .andNot .u64 a0 9223372036854775808) (Go.bits .andNot .u64 a1 9223372036854775808) q1 q0 q5 q4.1 q4.2 (decide ((Go.bits .andNot .u64 a1 9223372036854775808) > 9218868437227405312))))) = some r := H; have A9 := Aside0.mk A90; clear A90; replace H := Option.bind_eq_some_iff.mp H; obtain ⟨⟨q3, q2⟩, qm, H⟩ := H; replace H : (if (Go.bits .andNot .u64 a0 9223372036854775808) > 9218868437227405312 then (tillerlaw12_NarrowOrder.j2 kj5 (Go.bits .andNot .u64 a0 9223372036854775808) (Go.bits .andNot .u64 a1 9223372036854775808) q1 q0 q5 q3 q2 true) else (tillerlaw12_NarrowOrder.j2 kj5 (Go.bits .andNot .u64 a0 9223372036854775808) (Go.bits .andNot .u64 a1 9223372036854775808) q1 q0 q5 q3 q2 (decide ((Go.bits .andNot .u64 a1 9223372036854775808) > 9218868437227405312)))) = some r := H; have A10 := Aside0.mk qm; clear qm; have ql := Aside0.mk H; clear H
     go_upto_region 11 with (first | ((with_reducible refine gate_callee (f := 12) rfl ?_); refine goesL_ (some 30) rfl rfl Try.func12 (by kernel_rfl) rfl #[.int .u64 (Go.bits .andNot .u64 a0 9223372036854775808), .int .i64 a2] rfl LMq ?_; (with_reducible refine (narrow_To.calls kj5 (Go.bits .andNot .u64 a0 9223372036854775808) a2 q1 q0 _ A8.out).mono ?_); rintro e w12 ⟨rfl, hb⟩; refine ⟨_, rfl, ?_⟩; replace HB := Aside0.mk (below_step (kH HB) hb); (try clear hb); (try clear hb2); (try clear hk); (try clear hi)) | ((with_reducible refine gate_callee (f := 12) rfl ?_); refine goesL_ (some 36) rfl rfl Try.func12 (by kernel_rfl) rfl #[.int .u64 (Go.bits .andNot .u64 a1 9223372036854775808), .int .i64 a2] rfl LMq ?_; (with_reducible refine (narrow_To.calls kj5 (Go.bits .andNot .u64 a1 9223372036854775808) a2 q5 qr _ A9.out).mono ?_); rintro e w13 ⟨rfl, hb⟩; refine ⟨_, rfl, ?_⟩; replace HB := Aside0.mk (below_step (kH HB) hb); (try clear hb); (try clear hb2); (try clear hk); (try clear hi)) | ((with_reducible refine gate_callee (f := 12) rfl ?_); refine goesL_ (some 43) rfl rfl Try.func12 (by kernel_rfl) rfl #[.int .u64 (Go.bits .or .u64 (Go.bits .andNot .u64 a0 9223372036854775808) 9223372036854775808), .int .i64 q8] rfl LMq ?_; (with_reducible refine (narrow_To.calls kj5 (Go.bits .or .u64 (Go.bits .andNot .u64 a0 9223372036854775808) 9223372036854775808) q8 q3 q2 _ A10.out).mono ?_); rintro e w14 ⟨rfl, hb⟩; refine ⟨_, rfl, ?_⟩; replace HB := Aside0.mk (below_step (kH HB) hb); (try clear hb); (try clear hb2); (try clear hk); (try clear hi)))
     (try simp only [Act.put, List.setIfInBounds_toArray, List.set_cons_zero, List.set_cons_succ])
     go_cut [51] (fun v51 wc => ∃ (kq : Nat) (qj : Bool), v51 = .bool qj ∧ Aside0 (tillerlaw12_NarrowOrder.j2 kq (Go.bits .andNot .u64 a0 9223372036854775808) (Go.bits .andNot .u64 a1 9223372036854775808) q1 q0 q5 q3 q2 qj = some r) ∧ Aside0 (kq ≤ kj5) ∧ Aside0 (Below w.heap.size w wc))
     case first =>
      have H := ql.out; clear ql
      by_cases c15 : (Go.bits .andNot .u64 a0 9223372036854775808) > 9218868437227405312
      · rw [if_pos c15] at H
        have qe : decide (9218868437227405312 < (Go.bits .andNot .u64 a0 9223372036854775808)) = true := decide_eq_true c15; clear c15
        (first | rw [qe] | (simp only [i64_w, i32_w]; rw [qe]) | skip)
        have H' := Aside0.mk H; clear H
        go_wp2
        go_meet
        case rel => exact ⟨_, (true), RSq, (by first | exact H' | (subst_vars; exact H')), ⟨by have := HJ3.out; have := HJ5.out; first | omega | exact Nat.le_refl _⟩, ⟨kH HB⟩⟩
      rw [if_neg c15] at H
      have qe : decide (9218868437227405312 < (Go.bits .andNot .u64 a0 9223372036854775808)) = false := decide_eq_false c15; clear c15
      (first | rw [qe] | (simp only [i64_w, i32_w]; rw [qe]) | skip)
      have H' := Aside0.mk H; clear H
      go_wp2
      go_meet
      case rel => exact ⟨_, (decide ((Go.bits .andNot .u64 a1 9223372036854775808) > 9218868437227405312)), RSq, (by first | exact H' | (subst_vars; exact H')), ⟨by have := HJ3.out; have := HJ5.out; first | omega | exact Nat.le_refl _⟩, ⟨kH HB⟩⟩
     case rest =>
      clear ql; (try clear c1); (try clear p2); (try clear c5); (try clear q6); (try clear qi); (try clear c6); (try clear p6); (try clear c7); (try clear q9); (try clear qk); (try clear c12); (try clear c15); (try clear qe); (try clear p2); (try clear p6); obtain ⟨kq, qj, rfl, HA, HJ10, HB⟩ := hcut
      cases kq with
      | zero => exact absurd HA.out (by simp [tillerlaw12_NarrowOrder.j2])
      | succ q7 =>
       have H := HA.out; clear HA
       simp only [tillerlaw12_NarrowOrder.j2] at H
       by_cases c16 : qj = true
       · subst c16
         have H1 : (if (Go.bits .andNot .u64 a0 9223372036854775808) ≤ 9218868437227405312 then (if q0 = q2 then ((tillerlaw12_sure.f q7).bind fun qa => (some qa)) else (some false)) else (if q1 = 2143289344 then (if q0 = q2 then ((tillerlaw12_sure.f q7).bind fun qb => (some qb)) else (some false)) else (some false))) = some r := by rw [if_pos rfl] at H; exact H
         clear H; have H := H1; clear H1
         by_cases c17 : (Go.bits .andNot .u64 a0 9223372036854775808) ≤ 9218868437227405312
         · rw [if_pos c17] at H
           have qs : decide ((Go.bits .andNot .u64 a0 9223372036854775808) ≤ 9218868437227405312) = true := decide_eq_true c17; clear c17
           by_cases c18 : q0 = q2
           · rw [if_pos c18] at H
             have qt : (q0 == q2) = true := beq_iff_eq.mpr c18; have qu : (q0 != q2) = false := bne_eq_false_iff_eq.mpr c18; clear c18; replace H := Option.bind_eq_some_iff.mp H; obtain ⟨qa, qn, H⟩ := H; replace H : (some qa) = some r := H; have A19 := Aside0.mk qn; clear qn; obtain rfl := Option.some.inj H
             go_wp2_with (first | (go_at_call 14; (with_reducible refine (tillerlaw12_sure.calls q7  qa _ A19.out).mono ?_); rintro e w20 ⟨rfl, hb⟩; replace HB := Aside0.mk (below_step (kH HB) hb); (try clear hb); (try clear hb2); (try clear hk); (try clear hi)))
             go_ret
             exact ⟨by first | rfl | (simp [errW_none, errW_some] <;> rfl) | (simp [*, errW_none, errW_some] <;> rfl), kH HB⟩
           rw [if_neg c18] at H
           have qt : (q0 == q2) = false := beq_eq_false_iff_ne.mpr c18; have qu : (q0 != q2) = true := bne_iff_ne.mpr c18; obtain rfl := Option.some.inj H
           go_wp2
           go_ret
           exact ⟨by first | rfl | (simp [errW_none, errW_some] <;> rfl) | (simp [*, errW_none, errW_some] <;> rfl), kH HB⟩
         rw [if_neg c17] at H
         have qs : decide ((Go.bits .andNot .u64 a0 9223372036854775808) ≤ 9218868437227405312) = false := decide_eq_false c17; clear c17
         by_cases c21 : q1 = 2143289344
         · rw [if_pos c21] at H
           have qv : (q1 == 2143289344) = true := beq_iff_eq.mpr c21; have qw : (q1 != 2143289344) = false := bne_eq_false_iff_eq.mpr c21; clear c21
           by_cases c22 : q0 = q2
           · rw [if_pos c22] at H
             have qx : (q0 == q2) = true := beq_iff_eq.mpr c22; have qy : (q0 != q2) = false := bne_eq_false_iff_eq.mpr c22; clear c22; replace H := Option.bind_eq_some_iff.mp H; obtain ⟨qb, qo, H⟩ := H; replace H : (some qb) = some r := H; have A23 := Aside0.mk qo; clear qo; obtain rfl := Option.some.inj H
             go_wp2_with (first | (go_at_call 14; (with_reducible refine (tillerlaw12_sure.calls q7  qb _ A23.out).mono ?_); rintro e w24 ⟨rfl, hb⟩; replace HB := Aside0.mk (below_step (kH HB) hb); (try clear hb); (try clear hb2); (try clear hk); (try clear hi)))
             go_ret
             exact ⟨by first | rfl | (simp [errW_none, errW_some] <;> rfl) | (simp [*, errW_none, errW_some] <;> rfl), kH HB⟩
           rw [if_neg c22] at H
           have qx : (q0 == q2) = false := beq_eq_false_iff_ne.mpr c22; have qy : (q0 != q2) = true := bne_iff_ne.mpr c22; obtain rfl := Option.some.inj H
           go_wp2
           go_ret
           exact ⟨by first | rfl | (simp [errW_none, errW_some] <;> rfl) | (simp [*, errW_none, errW_some] <;> rfl), kH HB⟩
         rw [if_neg c21] at H
         have qv : (q1 == 2143289344) = false := beq_eq_false_iff_ne.mpr c21; have qw : (q1 != 2143289344) = true := bne_iff_ne.mpr c21; obtain rfl := Option.some.inj H
         go_wp2
         go_ret
         exact ⟨by first | rfl | (simp [errW_none, errW_some] <;> rfl) | (simp [*, errW_none, errW_some] <;> rfl), kH HB⟩
       replace c16 := Bool.eq_false_iff.mpr c16; subst c16
       have H1 : (if (Go.bits .andNot .u64 a0 9223372036854775808) > (Go.bits .andNot .u64 a1 9223372036854775808) then (if q3 = (Go.bits .or .u32 q1 2147483648) then (if q0 = q2 then ((tillerlaw12_sure.f q7).bind fun qc => (some qc)) else (some false)) else (some false)) else (if q1 ≤ q5 then (if q3 = (Go.bits .or .u32 q1 2147483648) then (if q0 = q2 then ((tillerlaw12_sure.f q7).bind fun qd => (some qd)) else (some false)) else (some false)) else (some false))) = some r := by rw [if_neg (show ¬ (false = true) by decide)] at H; exact H
       clear H; have H := H1; clear H1
       by_cases c25 : (Go.bits .andNot .u64 a0 9223372036854775808) > (Go.bits .andNot .u64 a1 9223372036854775808)
       · rw [if_pos c25] at H
         have qz : decide ((Go.bits .andNot .u64 a1 9223372036854775808) < (Go.bits .andNot .u64 a0 9223372036854775808)) = true := decide_eq_true c25; clear c25
         by_cases c26 : q3 = (Go.bits .or .u32 q1 2147483648)
         · rw [if_pos c26] at H
           have q00 : (q3 == (Go.bits .or .u32 q1 2147483648)) = true := beq_iff_eq.mpr c26; have q01 : (q3 != (Go.bits .or .u32 q1 2147483648)) = false := bne_eq_false_iff_eq.mpr c26; clear c26
           by_cases c27 : q0 = q2
           · rw [if_pos c27] at H
             have q02 : (q0 == q2) = true := beq_iff_eq.mpr c27; have q03 : (q0 != q2) = false := bne_eq_false_iff_eq.mpr c27; clear c27; replace H := Option.bind_eq_some_iff.mp H; obtain ⟨qc, qp, H⟩ := H; replace H : (some qc) = some r := H; have A28 := Aside0.mk qp; clear qp; obtain rfl := Option.some.inj H
             go_wp2_with (first | (go_at_call 14; (with_reducible refine (tillerlaw12_sure.calls q7  qc _ A28.out).mono ?_); rintro e w29 ⟨rfl, hb⟩; replace HB := Aside0.mk (below_step (kH HB) hb); (try clear hb); (try clear hb2); (try clear hk); (try clear hi)))
             go_ret
             exact ⟨by first | rfl | (simp [errW_none, errW_some] <;> rfl) | (simp [*, errW_none, errW_some] <;> rfl), kH HB⟩
           rw [if_neg c27] at H
           have q02 : (q0 == q2) = false := beq_eq_false_iff_ne.mpr c27; have q03 : (q0 != q2) = true := bne_iff_ne.mpr c27; obtain rfl := Option.some.inj H
           go_wp2
           go_ret
           exact ⟨by first | rfl | (simp [errW_none, errW_some] <;> rfl) | (simp [*, errW_none, errW_some] <;> rfl), kH HB⟩
         rw [if_neg c26] at H
         have q00 : (q3 == (Go.bits .or .u32 q1 2147483648)) = false := beq_eq_false_iff_ne.mpr c26; have q01 : (q3 != (Go.bits .or .u32 q1 2147483648)) = true := bne_iff_ne.mpr c26; obtain rfl := Option.some.inj H
         go_wp2
         go_ret
         exact ⟨by first | rfl | (simp [errW_none, errW_some] <;> rfl) | (simp [*, errW_none, errW_some] <;> rfl), kH HB⟩
       rw [if_neg c25] at H
       have qz : decide ((Go.bits .andNot .u64 a1 9223372036854775808) < (Go.bits .andNot .u64 a0 9223372036854775808)) = false := decide_eq_false c25; clear c25
       by_cases c30 : q1 ≤ q5
       · rw [if_pos c30] at H
         have q04 : decide (q1 ≤ q5) = true := decide_eq_true c30; clear c30
         by_cases c31 : q3 = (Go.bits .or .u32 q1 2147483648)
         · rw [if_pos c31] at H
           have q05 : (q3 == (Go.bits .or .u32 q1 2147483648)) = true := beq_iff_eq.mpr c31; have q06 : (q3 != (Go.bits .or .u32 q1 2147483648)) = false := bne_eq_false_iff_eq.mpr c31; clear c31
           by_cases c32 : q0 = q2
           · rw [if_pos c32] at H
             have q07 : (q0 == q2) = true := beq_iff_eq.mpr c32; have q08 : (q0 != q2) = false := bne_eq_false_iff_eq.mpr c32; clear c32; replace H := Option.bind_eq_some_iff.mp H; obtain ⟨qd, qq, H⟩ := H; replace H : (some qd) = some r := H; have A33 := Aside0.mk qq; clear qq; obtain rfl := Option.some.inj H
             go_wp2_with (first | (go_at_call 14; (with_reducible refine (tillerlaw12_sure.calls q7  qd _ A33.out).mono ?_); rintro e w34 ⟨rfl, hb⟩; replace HB := Aside0.mk (below_step (kH HB) hb); (try clear hb); (try clear hb2); (try clear hk); (try clear hi)))
             go_ret
             exact ⟨by first | rfl | (simp [errW_none, errW_some] <;> rfl) | (simp [*, errW_none, errW_some] <;> rfl), kH HB⟩
           rw [if_neg c32] at H
           have q07 : (q0 == q2) = false := beq_eq_false_iff_ne.mpr c32; have q08 : (q0 != q2) = true := bne_iff_ne.mpr c32; obtain rfl := Option.some.inj H
           go_wp2
           go_ret
           exact ⟨by first | rfl | (simp [errW_none, errW_some] <;> rfl) | (simp [*, errW_none, errW_some] <;> rfl), kH HB⟩
         rw [if_neg c31] at H
         have q05 : (q3 == (Go.bits .or .u32 q1 2147483648)) = false := beq_eq_false_iff_ne.mpr c31; have q06 : (q3 != (Go.bits .or .u32 q1 2147483648)) = true := bne_iff_ne.mpr c31; obtain rfl := Option.some.inj H
         go_wp2
         go_ret
         exact ⟨by first | rfl | (simp [errW_none, errW_some] <;> rfl) | (simp [*, errW_none, errW_some] <;> rfl), kH HB⟩
       rw [if_neg c30] at H
       have q04 : decide (q1 ≤ q5) = false := decide_eq_false c30; clear c30; obtain rfl := Option.some.inj H
       go_wp2
       go_ret
       exact ⟨by first | rfl | (simp [errW_none, errW_some] <;> rfl) | (simp [*, errW_none, errW_some] <;> rfl), kH HB⟩
def tillerlaw12_NarrowOrder.Pure : Prop := ∀ (a0 : Int) (a1 : Int) (a2 : Int), (Lit.int .u64 a0).wf = true → (Lit.int .u64 a1).wf = true → (Lit.int .i64 a2).wf = true → ∃ k, tillerlaw12_NarrowOrder.f k a0 a1 a2 = some true
theorem tillerlaw12_NarrowOrder.walk (P : tillerlaw12_NarrowOrder.Pure) (a0 : Int) (a1 : Int) (a2 : Int) (w : World) (w0 : (Lit.int .u64 a0).wf = true) (w1 : (Lit.int .u64 a1).wf = true) (w2 : (Lit.int .i64 a2).wf = true) :
 Calls Try.prog 6 #[.int .u64 a0, .int .u64 a1, .int .i64 a2] w fun e w' => e = .returned (.bool true) ∧ Below w.heap.size w w' := by
 obtain ⟨k, h⟩ := P a0 a1 a2 w0 w1 w2; refine (tillerlaw12_NarrowOrder.calls k a0 a1 a2 true w h).mono ?_; rintro e w' ⟨rfl, hd⟩; exact ⟨rfl, hd⟩
end Go.Proofs.Ytfnkmedajchbgaa.X
end
section
namespace Go.Proofs.Ytfnkmedajchbgaa
set_option linter.unusedVariables false
set_option linter.unusedSimpArgs false
open Go.RowKit X
theorem nTo_neg {x m : Int} (h0 : 0 ≤ x) (h1 : x < 9223372036854775808) : (nTo (x + sg true) (swM m)).2 = (nTo x m).2 ∧ (x ≤ 9218868437227405312 → (nTo (x + sg true) (swM m)).1 = (nTo x m).1 + 2147483648) := by
  obtain ⟨c1, c2, c3⟩ := C_same (sgAA x true)
  have m1 := sgM h0 h1 true
  have m0 := pM_pos h1
  have hc := pC_bd x
  unfold nTo
  rw [c1, c2, c3, m1, m0]
  by_cases c : 3 < pC x
  · rw [if_pos c, if_pos c]
    refine ⟨by unfold qNone; rw [c1], fun h => ?_⟩
    rcases le_inf_cases h0 h with g | g | g <;> omega
  · rw [if_neg c, if_neg c]
    by_cases c3 : pC x = 3
    · rw [if_pos c3, if_pos c3]
      exact ⟨rfl, fun _ => rfl⟩
    · rw [if_neg c3, if_neg c3]
      by_cases c0 : pC x = 0
      · rw [if_pos c0, if_pos c0]
        exact ⟨rfl, fun _ => rfl⟩
      · rw [if_neg c0, if_neg c0, nRound_sw]
        exact ⟨rfl, fun _ => rfl⟩
theorem nTo_bd {x : Int} (m : Int) (h0 : 0 ≤ x) (h1 : x ≤ 9218868437227405312) : 0 ≤ (nTo x m).1 ∧ (nTo x m).1 ≤ 2139095040 := by
  rw [nTo_pos m h0 h1]
  split
  · decide
  · split
    · decide
    · exact nRound_bd _ _ _
theorem order_j2 (k : Nat) (x y m : Int) (h0 : 0 ≤ x) (h1 : x < 9223372036854775808) (g0 : 0 ≤ y) (g1 : y < 9223372036854775808) (b : Bool) (hb : b = (decide (x > 9218868437227405312) || decide (y > 9218868437227405312))) :
    tillerlaw12_NarrowOrder.j2 (k + 6) x y (nTo x m).1 (nTo x m).2 (nTo y m).1 (nTo (x + sg true) (swM m)).1 (nTo (x + sg true) (swM m)).2 b = some true := by
  obtain ⟨n1, n2⟩ := nTo_neg (m := m) h0 h1
  have hs := sure12 k
  simp only [tillerlaw12_NarrowOrder.j2]
  rw [n1, hs]
  by_cases c : x > 9218868437227405312
  · have hx : nTo x m = (2143289344, (qNone x x).2) := by
      have := (nan_iff x (by unfold U; omega)).1 (by rw [pA_self h0 h1]; exact c)
      unfold nTo
      rw [if_pos this]
    rw [decide_eq_true c, Bool.true_or] at hb
    subst hb
    rw [if_pos rfl, if_neg (by omega), hx, if_pos rfl, if_pos rfl]
    rfl
  · have n2 := n2 (by omega)
    have hbx := nTo_bd m h0 (show x ≤ 9218868437227405312 by omega)
    rw [decide_eq_false c, Bool.false_or] at hb
    subst hb
    by_cases d : y > 9218868437227405312
    · rw [decide_eq_true d, if_pos rfl, if_pos (by omega), if_pos rfl]
      rfl
    · rw [decide_eq_false d, if_neg (by decide), or_31 _ hbx.1 (by omega), n2, if_pos rfl, if_pos rfl]
      by_cases e : x > y
      · rw [if_pos e]; rfl
      · rw [if_neg e, if_pos (nTo_mono m h0 (by omega) (by omega))]; rfl
theorem order_j1 (k : Nat) (x y m : Int) (h0 : 0 ≤ x) (h1 : x < 9223372036854775808) (g0 : 0 ≤ y) (g1 : y < 9223372036854775808) :
    tillerlaw12_NarrowOrder.j1 (k + 7) x y m (swM m) = some true := by
  have hr : bits .or .u64 x 9223372036854775808 = x + sg true := bor_sg x h0 h1 true
  simp only [tillerlaw12_NarrowOrder.j1]
  rw [hr, nto_spec (k + 1) m (by unfold U; omega), Option.bind_some, nto_spec (k + 1) m (by unfold U; omega), Option.bind_some, nto_spec (k + 1) (swM m) (sgU h0 h1 true), Option.bind_some]
  by_cases c : x > 9218868437227405312
  · rw [if_pos c]
    exact order_j2 k x y m h0 h1 g0 g1 true (by rw [decide_eq_true c]; rfl)
  · rw [if_neg c]
    exact order_j2 k x y m h0 h1 g0 g1 _ (by rw [decide_eq_false c]; rfl)
theorem order_j0 (k : Nat) (x y m : Int) (h0 : 0 ≤ x) (h1 : x < 9223372036854775808) (g0 : 0 ≤ y) (g1 : y < 9223372036854775808) :
    tillerlaw12_NarrowOrder.j0 (k + 8) x y m (if m = 3 then 4 else m) = some true := by
  have := order_j1 k x y m h0 h1 g0 g1
  simp only [tillerlaw12_NarrowOrder.j0]
  by_cases c : m = 4
  · subst c
    rw [if_pos rfl]
    exact this
  · rw [if_neg c]
    unfold swM at this
    by_cases d : m = 3
    · rw [if_pos d] at this ⊢
      exact this
    · rw [if_neg d, if_neg c] at this
      rw [if_neg d]
      exact this
theorem NarrowOrder : tillerlaw12_NarrowOrder.Pure := by
  intro a b m w0 w1 w2
  have ha := U_wf w0
  have hb := U_wf w1
  have ba := pA_bd a
  have bb := pA_bd b
  refine ⟨8, ?_⟩
  have := order_j0 0 (pA a) (pA b) m ba.1 ba.2 bb.1 bb.2
  unfold tillerlaw12_NarrowOrder.f
  rw [bandnot_M a ha, bandnot_M b hb]
  by_cases d : m = 3
  · rw [if_pos d] at this ⊢
    exact this
  · rw [if_neg d] at this ⊢
    exact this
end Go.Proofs.Ytfnkmedajchbgaa
end
section
namespace Go.Proofs.Ytfnkmedajchbgaa.Pure
set_option linter.unusedVariables false
set_option linter.unusedSimpArgs false
theorem NarrowOrder : Go.Proofs.Ytfnkmedajchbgaa.X.tillerlaw12_NarrowOrder.Pure := Go.Proofs.Ytfnkmedajchbgaa.NarrowOrder
end Go.Proofs.Ytfnkmedajchbgaa.Pure
end
