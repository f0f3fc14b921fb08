import Derived.Test.YtfnkmedajchbgaaKN4
import Derived.Test.YtfnkmedajchbgaaKNXnarrowTo
import Derived.Test.YtfnkmedajchbgaaKN8
namespace Go.Proofs.Ytfnkmedajchbgaa.X
open Go.RowKit Go.Proofs.YtfnkmedajchbgaaW.PrintWords Go.Proofs.YtfnkmedajchbgaaW.PrintLast Go.Proofs.YtfnkmedajchbgaaW.PrintMore
attribute [local go_sem] max2_int min2_int max_two min_two max_three min_three max_four min_four   
set_option linter.unusedVariables false
set_option linter.unusedSimpArgs false
def tillerlaw12_NarrowBack.j0 : Nat → Int → Int → Int → Int → Int → Bool → Option (Bool)
 | 0, _, _, _, _, _, _ => none
 | k + 1, x0, x1, x8, x9, x10, x57 => if x57 = true then (if x8 = 0 then (if x10 = 0 then (if x9 = x0 then ((tillerlaw12_sure.f k).bind fun qi => (some qi)) else (some false)) else (some false)) else (some false)) else ((narrow_To.f k x1 4).bind fun qb => ((narrow_To.f k x1 3).bind fun q8 => (if q8.1 = qb.1 then (if qb.2 = 0 then (if q8.2 = 0 then ((tillerlaw12_sure.f k).bind fun qd => (some qd)) else (if q8.1 = ((qb.1 + 1) % 4294967296) then (if (Go.bits .and .u8 qb.2 16) = 0 then (some false) else (if (Go.bits .and .u8 q8.2 16) = 0 then (some false) else ((tillerlaw12_sure.f k).bind fun qe => (some qe)))) else (some false))) else (if q8.1 = ((qb.1 + 1) % 4294967296) then (if (Go.bits .and .u8 qb.2 16) = 0 then (some false) else (if (Go.bits .and .u8 q8.2 16) = 0 then (some false) else ((tillerlaw12_sure.f k).bind fun qf => (some qf)))) else (some false))) else (if q8.1 = ((qb.1 + 1) % 4294967296) then (if (Go.bits .and .u8 qb.2 16) = 0 then (some false) else (if (Go.bits .and .u8 q8.2 16) = 0 then (some false) else ((tillerlaw12_sure.f k).bind fun qg => (some qg)))) else (some false)))))
def tillerlaw12_NarrowBack.f (k : Nat) (a0 : Int) (a1 : Int) (a2 : Int) : Option (Bool) := (narrow_From.f k a0).bind fun qc => ((narrow_To.f k qc.1 a2).bind fun q1 => (if (Go.bits .and .u32 a0 2147483647) > 2139095040 then (if qc.1 = 9221120237041090560 then (if q1.1 = 2143289344 then ((tillerlaw12_sure.f k).bind fun qh => (some qh)) else (some false)) else (some false)) else (if qc.2 = 0 then (if q1.2 = 0 then (if q1.1 = a0 then (if (Go.bits .andNot .u64 a1 9223372036854775808) > 9218868437227405312 then (tillerlaw12_NarrowBack.j0 k a0 a1 qc.2 q1.1 q1.2 true) else (tillerlaw12_NarrowBack.j0 k a0 a1 qc.2 q1.1 q1.2 (decide (a1 ≥ 9223372036854775808)))) else (tillerlaw12_NarrowBack.j0 k a0 a1 qc.2 q1.1 q1.2 true)) else (tillerlaw12_NarrowBack.j0 k a0 a1 qc.2 q1.1 q1.2 true)) else (tillerlaw12_NarrowBack.j0 k a0 a1 qc.2 q1.1 q1.2 true))))
theorem tillerlaw12_NarrowBack.mono_l : ∀ k, (∀ y0 y1 y2 y3 y4 y5, LeO (tillerlaw12_NarrowBack.j0 k y0 y1 y2 y3 y4 y5) (tillerlaw12_NarrowBack.j0 (k + 1) y0 y1 y2 y3 y4 y5))
 | 0 => fun _ _ _ _ _ _ r h => by simp [tillerlaw12_NarrowBack.j0] at h
 | k + 1 => by
  have ih0 := tillerlaw12_NarrowBack.mono_l k
  · intro y0 y1 y2 y3 y4 y5
    unfold tillerlaw12_NarrowBack.j0
    repeat' first
    | (with_reducible exact ih0 _ _ _ _ _ _)
    | (with_reducible exact narrow_From.mono _ _)
    | (with_reducible exact narrow_To.mono _ _ _)
    | (with_reducible exact tillerlaw12_sure.mono _)
    | (with_reducible exact LeO.refl _)
    | (with_reducible exact LeO.none _)
    | (with_reducible refine LeO.ite ?_ ?_)
    | (with_reducible refine LeO.bind ?_ (fun _ => ?_))
    | exact ih0 _ _ _ _ _ _
    | exact narrow_From.mono _ _
    | exact narrow_To.mono _ _ _
    | exact tillerlaw12_sure.mono _
    | exact LeO.none _
    | refine LeO.ite ?_ ?_
    | refine LeO.bind ?_ (fun _ => ?_)
theorem tillerlaw12_NarrowBack.mono : ∀ a0 a1 a2 k, LeO (tillerlaw12_NarrowBack.f k a0 a1 a2) (tillerlaw12_NarrowBack.f (k + 1) a0 a1 a2) := by
 intro a0 a1 a2 k; have ih0 := tillerlaw12_NarrowBack.mono_l k
 unfold tillerlaw12_NarrowBack.f
 repeat' first
  | (with_reducible exact ih0 _ _ _ _ _ _)
  | (with_reducible exact narrow_From.mono _ _)
  | (with_reducible exact narrow_To.mono _ _ _)
  | (with_reducible exact tillerlaw12_sure.mono _)
  | (with_reducible exact LeO.refl _)
  | (with_reducible exact LeO.none _)
  | (with_reducible refine LeO.ite ?_ ?_)
  | (with_reducible refine LeO.bind ?_ (fun _ => ?_))
  | exact ih0 _ _ _ _ _ _
  | exact narrow_From.mono _ _
  | exact narrow_To.mono _ _ _
  | exact tillerlaw12_sure.mono _
  | exact LeO.none _
  | refine LeO.ite ?_ ?_
  | refine LeO.bind ?_ (fun _ => ?_)
set_option maxHeartbeats 8000000 in
set_option maxRecDepth 100000 in
theorem tillerlaw12_NarrowBack.calls (k : Nat) (a0 : Int) (a1 : Int) (a2 : Int) (r : Bool) (w : World) (h : tillerlaw12_NarrowBack.f k a0 a1 a2 = some r) :
 Calls Try.prog 5 #[.int .u32 a0, .int .u64 a1, .int .i64 a2] w fun e w' => e = .returned (.bool r) ∧ Below w.heap.size w w' := by
 have HB := Aside0.mk (Below.refl w.heap.size w); have H : ((narrow_From.f k a0).bind fun qc => ((narrow_To.f k qc.1 a2).bind fun q1 => (if (Go.bits .and .u32 a0 2147483647) > 2139095040 then (if qc.1 = 9221120237041090560 then (if q1.1 = 2143289344 then ((tillerlaw12_sure.f k).bind fun qh => (some qh)) else (some false)) else (some false)) else (if qc.2 = 0 then (if q1.2 = 0 then (if q1.1 = a0 then (if (Go.bits .andNot .u64 a1 9223372036854775808) > 9218868437227405312 then (tillerlaw12_NarrowBack.j0 k a0 a1 qc.2 q1.1 q1.2 true) else (tillerlaw12_NarrowBack.j0 k a0 a1 qc.2 q1.1 q1.2 (decide (a1 ≥ 9223372036854775808)))) else (tillerlaw12_NarrowBack.j0 k a0 a1 qc.2 q1.1 q1.2 true)) else (tillerlaw12_NarrowBack.j0 k a0 a1 qc.2 q1.1 q1.2 true)) else (tillerlaw12_NarrowBack.j0 k a0 a1 qc.2 q1.1 q1.2 true))))) = some r := h; clear h; replace H := Option.bind_eq_some_iff.mp H; obtain ⟨⟨qa, q6⟩, A40, H⟩ := H; replace H : ((narrow_To.f k qa a2).bind fun q1 => (if (Go.bits .and .u32 a0 2147483647) > 2139095040 then (if qa = 9221120237041090560 then (if q1.1 = 2143289344 then ((tillerlaw12_sure.f k).bind fun qh => (some qh)) else (some false)) else (some false)) else (if q6 = 0 then (if q1.2 = 0 then (if q1.1 = a0 then (if (Go.bits .andNot .u64 a1 9223372036854775808) > 9218868437227405312 then (tillerlaw12_NarrowBack.j0 k a0 a1 q6 q1.1 q1.2 true) else (tillerlaw12_NarrowBack.j0 k a0 a1 q6 q1.1 q1.2 (decide (a1 ≥ 9223372036854775808)))) else (tillerlaw12_NarrowBack.j0 k a0 a1 q6 q1.1 q1.2 true)) else (tillerlaw12_NarrowBack.j0 k a0 a1 q6 q1.1 q1.2 true)) else (tillerlaw12_NarrowBack.j0 k a0 a1 q6 q1.1 q1.2 true)))) = some r := H; have A4 := Aside0.mk A40; clear A40; replace H := Option.bind_eq_some_iff.mp H; obtain ⟨⟨q7, q9⟩, A50, H⟩ := H; replace H : (if (Go.bits .and .u32 a0 2147483647) > 2139095040 then (if qa = 9221120237041090560 then (if q7 = 2143289344 then ((tillerlaw12_sure.f k).bind fun qh => (some qh)) else (some false)) else (some false)) else (if q6 = 0 then (if q9 = 0 then (if q7 = a0 then (if (Go.bits .andNot .u64 a1 9223372036854775808) > 9218868437227405312 then (tillerlaw12_NarrowBack.j0 k a0 a1 q6 q7 q9 true) else (tillerlaw12_NarrowBack.j0 k a0 a1 q6 q7 q9 (decide (a1 ≥ 9223372036854775808)))) else (tillerlaw12_NarrowBack.j0 k a0 a1 q6 q7 q9 true)) else (tillerlaw12_NarrowBack.j0 k a0 a1 q6 q7 q9 true)) else (tillerlaw12_NarrowBack.j0 k a0 a1 q6 q7 q9 true))) = some r := H; have A5 := Aside0.mk A50; clear A50
 by_cases c6 : (Go.bits .and .u32 a0 2147483647) > 2139095040
 · rw [if_pos c6] at H
   have qm : decide (2139095040 < (Go.bits .and .u32 a0 2147483647)) = true := decide_eq_true c6; clear c6
   by_cases c7 : qa = 9221120237041090560
   · rw [if_pos c7] at H
     have qn : (qa == 9221120237041090560) = true := beq_iff_eq.mpr c7; have qo : (qa != 9221120237041090560) = false := bne_eq_false_iff_eq.mpr c7; clear c7
     by_cases c8 : q7 = 2143289344
     · rw [if_pos c8] at H
       have qp : (q7 == 2143289344) = true := beq_iff_eq.mpr c8; have qq : (q7 != 2143289344) = false := bne_eq_false_iff_eq.mpr c8; clear c8; replace H := Option.bind_eq_some_iff.mp H; obtain ⟨qh, A90, H⟩ := H; replace H : (some qh) = some r := H; have A9 := Aside0.mk A90; clear A90; obtain rfl := Option.some.inj H
       go_enter Try.func5, Try.ntmps5
       go_wp2_with (first | ((with_reducible refine gate_callee (f := 15) rfl ?_); refine goesL_ (some 17) rfl rfl Try.func15 (by kernel_rfl) rfl #[.int .u32 a0] rfl LMq ?_; (with_reducible refine (narrow_From.calls k a0 qa q6 _ A4.out).mono ?_); rintro e w10 ⟨rfl, hb⟩; refine ⟨_, rfl, ?_⟩; replace HB := Aside0.mk (below_step (kH HB) hb); (try clear hb); (try clear hb2); (try clear hk); (try clear hi)) | ((with_reducible refine gate_callee (f := 12) rfl ?_); refine goesL_ (some 23) rfl rfl Try.func12 (by kernel_rfl) rfl #[.int .u64 qa, .int .i64 a2] rfl LMq ?_; (with_reducible refine (narrow_To.calls k qa a2 q7 q9 _ A5.out).mono ?_); rintro e w11 ⟨rfl, hb⟩; refine ⟨_, rfl, ?_⟩; replace HB := Aside0.mk (below_step (kH HB) hb); (try clear hb); (try clear hb2); (try clear hk); (try clear hi)) | (go_at_call 14; (with_reducible refine (tillerlaw12_sure.calls k  qh _ A9.out).mono ?_); rintro e w12 ⟨rfl, hb⟩; replace HB := Aside0.mk (below_step (kH HB) hb); (try clear hb); (try clear hb2); (try clear hk); (try clear hi)))
       go_ret
       exact ⟨by first | rfl | (simp [errW_none, errW_some] <;> rfl) | (simp [*, errW_none, errW_some] <;> rfl), kH HB⟩
     rw [if_neg c8] at H
     have qp : (q7 == 2143289344) = false := beq_eq_false_iff_ne.mpr c8; have qq : (q7 != 2143289344) = true := bne_iff_ne.mpr c8; obtain rfl := Option.some.inj H
     go_enter Try.func5, Try.ntmps5
     go_wp2_with (first | ((with_reducible refine gate_callee (f := 15) rfl ?_); refine goesL_ (some 17) rfl rfl Try.func15 (by kernel_rfl) rfl #[.int .u32 a0] rfl LMq ?_; (with_reducible refine (narrow_From.calls k a0 qa q6 _ A4.out).mono ?_); rintro e w13 ⟨rfl, hb⟩; refine ⟨_, rfl, ?_⟩; replace HB := Aside0.mk (below_step (kH HB) hb); (try clear hb); (try clear hb2); (try clear hk); (try clear hi)) | ((with_reducible refine gate_callee (f := 12) rfl ?_); refine goesL_ (some 23) rfl rfl Try.func12 (by kernel_rfl) rfl #[.int .u64 qa, .int .i64 a2] rfl LMq ?_; (with_reducible refine (narrow_To.calls k qa a2 q7 q9 _ A5.out).mono ?_); rintro e w14 ⟨rfl, hb⟩; refine ⟨_, rfl, ?_⟩; replace HB := Aside0.mk (below_step (kH HB) hb); (try clear hb); (try clear hb2); (try clear hk); (try clear hi)))
     go_ret
     exact ⟨by first | rfl | (simp [errW_none, errW_some] <;> rfl) | (simp [*, errW_none, errW_some] <;> rfl), kH HB⟩
   rw [if_neg c7] at H
   have qn : (qa == 9221120237041090560) = false := beq_eq_false_iff_ne.mpr c7; have qo : (qa != 9221120237041090560) = true := bne_iff_ne.mpr c7; obtain rfl := Option.some.inj H
   go_enter Try.func5, Try.ntmps5
   go_wp2_with (first | ((with_reducible refine gate_callee (f := 15) rfl ?_); refine goesL_ (some 17) rfl rfl Try.func15 (by kernel_rfl) rfl #[.int .u32 a0] rfl LMq ?_; (with_reducible refine (narrow_From.calls k a0 qa q6 _ A4.out).mono ?_); rintro e w15 ⟨rfl, hb⟩; refine ⟨_, rfl, ?_⟩; replace HB := Aside0.mk (below_step (kH HB) hb); (try clear hb); (try clear hb2); (try clear hk); (try clear hi)) | ((with_reducible refine gate_callee (f := 12) rfl ?_); refine goesL_ (some 23) rfl rfl Try.func12 (by kernel_rfl) rfl #[.int .u64 qa, .int .i64 a2] rfl LMq ?_; (with_reducible refine (narrow_To.calls k qa a2 q7 q9 _ A5.out).mono ?_); rintro e w16 ⟨rfl, hb⟩; refine ⟨_, rfl, ?_⟩; replace HB := Aside0.mk (below_step (kH HB) hb); (try clear hb); (try clear hb2); (try clear hk); (try clear hi)))
   go_ret
   exact ⟨by first | rfl | (simp [errW_none, errW_some] <;> rfl) | (simp [*, errW_none, errW_some] <;> rfl), kH HB⟩
 rw [if_neg c6] at H
 have qm : decide (2139095040 < (Go.bits .and .u32 a0 2147483647)) = false := decide_eq_false c6; clear c6; have ql := Aside0.mk H; clear H
 go_enter Try.func5, Try.ntmps5
 go_upto_region 5 with (first | ((with_reducible refine gate_callee (f := 15) rfl ?_); refine goesL_ (some 17) rfl rfl Try.func15 (by kernel_rfl) rfl #[.int .u32 a0] rfl LMq ?_; (with_reducible refine (narrow_From.calls k a0 qa q6 _ A4.out).mono ?_); rintro e w18 ⟨rfl, hb⟩; refine ⟨_, rfl, ?_⟩; replace HB := Aside0.mk (below_step (kH HB) hb); (try clear hb); (try clear hb2); (try clear hk); (try clear hi)) | ((with_reducible refine gate_callee (f := 12) rfl ?_); refine goesL_ (some 23) rfl rfl Try.func12 (by kernel_rfl) rfl #[.int .u64 qa, .int .i64 a2] rfl LMq ?_; (with_reducible refine (narrow_To.calls k qa a2 q7 q9 _ A5.out).mono ?_); rintro e w19 ⟨rfl, hb⟩; refine ⟨_, rfl, ?_⟩; replace HB := Aside0.mk (below_step (kH HB) hb); (try clear hb); (try clear hb2); (try clear hk); (try clear hi)))
 (try simp only [Act.put, List.setIfInBounds_toArray, List.set_cons_zero, List.set_cons_succ])
 go_cut [57] (fun v57 wc => ∃ (kq : Nat) (qk : Bool), v57 = .bool qk ∧ Aside0 (tillerlaw12_NarrowBack.j0 kq a0 a1 q6 q7 q9 qk = some r) ∧ Aside0 (kq ≤ k) ∧ Aside0 (Below w.heap.size w wc))
 case first =>
  have H := ql.out; clear ql
  by_cases c20 : q6 = 0
  · rw [if_pos c20] at H
    have qj : (q6 == 0) = true := beq_iff_eq.mpr c20; have qr : (q6 != 0) = false := bne_eq_false_iff_eq.mpr c20; clear c20
    (first | rw [qj] | (simp only [i64_w, i32_w]; rw [qj]) | skip)
    by_cases c21 : q9 = 0
    · rw [if_pos c21] at H
      have qs : (q9 == 0) = true := beq_iff_eq.mpr c21; have qt : (q9 != 0) = false := bne_eq_false_iff_eq.mpr c21; clear c21
      by_cases c22 : q7 = a0
      · rw [if_pos c22] at H
        have qu : (q7 == a0) = true := beq_iff_eq.mpr c22; have qv : (q7 != a0) = false := bne_eq_false_iff_eq.mpr c22; clear c22
        by_cases c23 : (Go.bits .andNot .u64 a1 9223372036854775808) > 9218868437227405312
        · rw [if_pos c23] at H
          have qw : decide (9218868437227405312 < (Go.bits .andNot .u64 a1 9223372036854775808)) = true := decide_eq_true c23; clear c23; have H' := Aside0.mk H; clear H
          go_wp2
          go_meet
          case rel => exact ⟨_, (true), RSq, (by first | exact H' | (subst_vars; exact H')), ⟨by first | omega | exact Nat.le_refl _⟩, ⟨kH HB⟩⟩
        rw [if_neg c23] at H
        have qw : decide (9218868437227405312 < (Go.bits .andNot .u64 a1 9223372036854775808)) = false := decide_eq_false c23; clear c23; have H' := Aside0.mk H; clear H
        go_wp2
        go_meet
        case rel => exact ⟨_, (decide (a1 ≥ 9223372036854775808)), RSq, (by first | exact H' | (subst_vars; exact H')), ⟨by first | omega | exact Nat.le_refl _⟩, ⟨kH HB⟩⟩
      rw [if_neg c22] at H
      have qu : (q7 == a0) = false := beq_eq_false_iff_ne.mpr c22; have qv : (q7 != a0) = true := bne_iff_ne.mpr c22; have H' := Aside0.mk H; clear H
      go_wp2
      go_meet
      case rel => exact ⟨_, (true), RSq, (by first | exact H' | (subst_vars; exact H')), ⟨by first | omega | exact Nat.le_refl _⟩, ⟨kH HB⟩⟩
    rw [if_neg c21] at H
    have qs : (q9 == 0) = false := beq_eq_false_iff_ne.mpr c21; have qt : (q9 != 0) = true := bne_iff_ne.mpr c21; have H' := Aside0.mk H; clear H
    go_wp2
    go_meet
    case rel => exact ⟨_, (true), RSq, (by first | exact H' | (subst_vars; exact H')), ⟨by first | omega | exact Nat.le_refl _⟩, ⟨kH HB⟩⟩
  rw [if_neg c20] at H
  have qj : (q6 == 0) = false := beq_eq_false_iff_ne.mpr c20; have qr : (q6 != 0) = true := bne_iff_ne.mpr c20
  (first | rw [qj] | (simp only [i64_w, i32_w]; rw [qj]) | skip)
  have H' := Aside0.mk H; clear H
  go_wp2
  go_meet
  case rel => exact ⟨_, (true), RSq, (by first | exact H' | (subst_vars; exact H')), ⟨by first | omega | exact Nat.le_refl _⟩, ⟨kH HB⟩⟩
 case rest =>
  clear ql; (try clear c1); (try clear c2); (try clear p2); (try clear c5); (try clear c6); (try clear qm); (try clear p6); (try clear c7); (try clear qn); (try clear qo); (try clear c8); (try clear qp); (try clear qq); (try clear c12); (try clear c15); (try clear c20); (try clear qj); (try clear qr); (try clear c21); (try clear qs); (try clear qt); (try clear c22); (try clear qu); (try clear qv); (try clear c23); (try clear qw); obtain ⟨kq, qk, rfl, HA, HJ16, HB⟩ := hcut
  cases kq with
  | zero => exact absurd HA.out (by simp [tillerlaw12_NarrowBack.j0])
  | succ q0 =>
   have H := HA.out; clear HA
   simp only [tillerlaw12_NarrowBack.j0] at H
   by_cases c24 : qk = true
   · subst c24
     have H1 : (if q6 = 0 then (if q9 = 0 then (if q7 = a0 then ((tillerlaw12_sure.f q0).bind fun qi => (some qi)) else (some false)) else (some false)) else (some false)) = some r := by rw [if_pos rfl] at H; exact H
     clear H; have H := H1; clear H1
     by_cases c25 : q6 = 0
     · rw [if_pos c25] at H
       have q04 : (q6 == 0) = true := beq_iff_eq.mpr c25; have q05 : (q6 != 0) = false := bne_eq_false_iff_eq.mpr c25; clear c25
       by_cases c26 : q9 = 0
       · rw [if_pos c26] at H
         have q06 : (q9 == 0) = true := beq_iff_eq.mpr c26; have q07 : (q9 != 0) = false := bne_eq_false_iff_eq.mpr c26; clear c26
         by_cases c27 : q7 = a0
         · rw [if_pos c27] at H
           have q08 : (q7 == a0) = true := beq_iff_eq.mpr c27; have q09 : (q7 != a0) = false := bne_eq_false_iff_eq.mpr c27; clear c27; replace H := Option.bind_eq_some_iff.mp H; obtain ⟨qi, qx, H⟩ := H; replace H : (some qi) = some r := H; have A28 := Aside0.mk qx; clear qx; obtain rfl := Option.some.inj H
           go_wp2_with (first | (go_at_call 14; (with_reducible refine (tillerlaw12_sure.calls q0  qi _ A28.out).mono ?_); rintro e w29 ⟨rfl, hb⟩; replace HB := Aside0.mk (below_step (kH HB) hb); (try clear hb); (try clear hb2); (try clear hk); (try clear hi)))
           go_ret
           exact ⟨by first | rfl | (simp [errW_none, errW_some] <;> rfl) | (simp [*, errW_none, errW_some] <;> rfl), kH HB⟩
         rw [if_neg c27] at H
         have q08 : (q7 == a0) = false := beq_eq_false_iff_ne.mpr c27; have q09 : (q7 != a0) = true := bne_iff_ne.mpr c27; obtain rfl := Option.some.inj H
         go_wp2
         go_ret
         exact ⟨by first | rfl | (simp [errW_none, errW_some] <;> rfl) | (simp [*, errW_none, errW_some] <;> rfl), kH HB⟩
       rw [if_neg c26] at H
       have q06 : (q9 == 0) = false := beq_eq_false_iff_ne.mpr c26; have q07 : (q9 != 0) = true := bne_iff_ne.mpr c26; obtain rfl := Option.some.inj H
       go_wp2
       go_ret
       exact ⟨by first | rfl | (simp [errW_none, errW_some] <;> rfl) | (simp [*, errW_none, errW_some] <;> rfl), kH HB⟩
     rw [if_neg c25] at H
     have q04 : (q6 == 0) = false := beq_eq_false_iff_ne.mpr c25; have q05 : (q6 != 0) = true := bne_iff_ne.mpr c25; obtain rfl := Option.some.inj H
     go_wp2
     go_ret
     exact ⟨by first | rfl | (simp [errW_none, errW_some] <;> rfl) | (simp [*, errW_none, errW_some] <;> rfl), kH HB⟩
   replace c24 := Bool.eq_false_iff.mpr c24; subst c24
   have H1 : ((narrow_To.f q0 a1 4).bind fun qb => ((narrow_To.f q0 a1 3).bind fun q8 => (if q8.1 = qb.1 then (if qb.2 = 0 then (if q8.2 = 0 then ((tillerlaw12_sure.f q0).bind fun qd => (some qd)) else (if q8.1 = ((qb.1 + 1) % 4294967296) then (if (Go.bits .and .u8 qb.2 16) = 0 then (some false) else (if (Go.bits .and .u8 q8.2 16) = 0 then (some false) else ((tillerlaw12_sure.f q0).bind fun qe => (some qe)))) else (some false))) else (if q8.1 = ((qb.1 + 1) % 4294967296) then (if (Go.bits .and .u8 qb.2 16) = 0 then (some false) else (if (Go.bits .and .u8 q8.2 16) = 0 then (some false) else ((tillerlaw12_sure.f q0).bind fun qf => (some qf)))) else (some false))) else (if q8.1 = ((qb.1 + 1) % 4294967296) then (if (Go.bits .and .u8 qb.2 16) = 0 then (some false) else (if (Go.bits .and .u8 q8.2 16) = 0 then (some false) else ((tillerlaw12_sure.f q0).bind fun qg => (some qg)))) else (some false))))) = some r := by rw [if_neg (show ¬ (false = true) by decide)] at H; exact H
   clear H; have H := H1; clear H1; replace H := Option.bind_eq_some_iff.mp H; obtain ⟨⟨q2, q3⟩, qy, H⟩ := H; replace H : ((narrow_To.f q0 a1 3).bind fun q8 => (if q8.1 = q2 then (if q3 = 0 then (if q8.2 = 0 then ((tillerlaw12_sure.f q0).bind fun qd => (some qd)) else (if q8.1 = ((q2 + 1) % 4294967296) then (if (Go.bits .and .u8 q3 16) = 0 then (some false) else (if (Go.bits .and .u8 q8.2 16) = 0 then (some false) else ((tillerlaw12_sure.f q0).bind fun qe => (some qe)))) else (some false))) else (if q8.1 = ((q2 + 1) % 4294967296) then (if (Go.bits .and .u8 q3 16) = 0 then (some false) else (if (Go.bits .and .u8 q8.2 16) = 0 then (some false) else ((tillerlaw12_sure.f q0).bind fun qf => (some qf)))) else (some false))) else (if q8.1 = ((q2 + 1) % 4294967296) then (if (Go.bits .and .u8 q3 16) = 0 then (some false) else (if (Go.bits .and .u8 q8.2 16) = 0 then (some false) else ((tillerlaw12_sure.f q0).bind fun qg => (some qg)))) else (some false)))) = some r := H; have A30 := Aside0.mk qy; clear qy; replace H := Option.bind_eq_some_iff.mp H; obtain ⟨⟨q4, q5⟩, qz, H⟩ := H; replace H : (if q4 = q2 then (if q3 = 0 then (if q5 = 0 then ((tillerlaw12_sure.f q0).bind fun qd => (some qd)) else (if q4 = ((q2 + 1) % 4294967296) then (if (Go.bits .and .u8 q3 16) = 0 then (some false) else (if (Go.bits .and .u8 q5 16) = 0 then (some false) else ((tillerlaw12_sure.f q0).bind fun qe => (some qe)))) else (some false))) else (if q4 = ((q2 + 1) % 4294967296) then (if (Go.bits .and .u8 q3 16) = 0 then (some false) else (if (Go.bits .and .u8 q5 16) = 0 then (some false) else ((tillerlaw12_sure.f q0).bind fun qf => (some qf)))) else (some false))) else (if q4 = ((q2 + 1) % 4294967296) then (if (Go.bits .and .u8 q3 16) = 0 then (some false) else (if (Go.bits .and .u8 q5 16) = 0 then (some false) else ((tillerlaw12_sure.f q0).bind fun qg => (some qg)))) else (some false))) = some r := H; have A31 := Aside0.mk qz; clear qz
   by_cases c32 : q4 = q2
   · rw [if_pos c32] at H
     have q0a : (q4 == q2) = true := beq_iff_eq.mpr c32; have q0b : (q4 != q2) = false := bne_eq_false_iff_eq.mpr c32; clear c32
     by_cases c33 : q3 = 0
     · rw [if_pos c33] at H
       have q0c : (q3 == 0) = true := beq_iff_eq.mpr c33; have q0d : (q3 != 0) = false := bne_eq_false_iff_eq.mpr c33; clear c33
       by_cases c34 : q5 = 0
       · rw [if_pos c34] at H
         have q0e : (q5 == 0) = true := beq_iff_eq.mpr c34; have q0f : (q5 != 0) = false := bne_eq_false_iff_eq.mpr c34; clear c34; replace H := Option.bind_eq_some_iff.mp H; obtain ⟨qd, q00, H⟩ := H; replace H : (some qd) = some r := H; have A35 := Aside0.mk q00; clear q00; obtain rfl := Option.some.inj H
         go_wp2_with (first | ((with_reducible refine gate_callee (f := 12) rfl ?_); refine goesL_ (some 74) rfl rfl Try.func12 (by kernel_rfl) rfl #[.int .u64 a1, .int .i64 4] rfl LMq ?_; (with_reducible refine (narrow_To.calls q0 a1 4 q2 q3 _ A30.out).mono ?_); rintro e w36 ⟨rfl, hb⟩; refine ⟨_, rfl, ?_⟩; replace HB := Aside0.mk (below_step (kH HB) hb); (try clear hb); (try clear hb2); (try clear hk); (try clear hi)) | ((with_reducible refine gate_callee (f := 12) rfl ?_); refine goesL_ (some 79) rfl rfl Try.func12 (by kernel_rfl) rfl #[.int .u64 a1, .int .i64 3] rfl LMq ?_; (with_reducible refine (narrow_To.calls q0 a1 3 q4 q5 _ A31.out).mono ?_); rintro e w37 ⟨rfl, hb⟩; refine ⟨_, rfl, ?_⟩; replace HB := Aside0.mk (below_step (kH HB) hb); (try clear hb); (try clear hb2); (try clear hk); (try clear hi)) | (go_at_call 14; (with_reducible refine (tillerlaw12_sure.calls q0  qd _ A35.out).mono ?_); rintro e w38 ⟨rfl, hb⟩; replace HB := Aside0.mk (below_step (kH HB) hb); (try clear hb); (try clear hb2); (try clear hk); (try clear hi)))
         go_ret
         exact ⟨by first | rfl | (simp [errW_none, errW_some] <;> rfl) | (simp [*, errW_none, errW_some] <;> rfl), kH HB⟩
       rw [if_neg c34] at H
       have q0e : (q5 == 0) = false := beq_eq_false_iff_ne.mpr c34; have q0f : (q5 != 0) = true := bne_iff_ne.mpr c34
       by_cases c39 : q4 = ((q2 + 1) % 4294967296)
       · rw [if_pos c39] at H
         have q0g : (q4 == ((q2 + 1) % 4294967296)) = true := beq_iff_eq.mpr c39; have q0h : (q4 != ((q2 + 1) % 4294967296)) = false := bne_eq_false_iff_eq.mpr c39; clear c39
         by_cases c40 : (Go.bits .and .u8 q3 16) = 0
         · rw [if_pos c40] at H
           have q0i : ((Go.bits .and .u8 q3 16) == 0) = true := beq_iff_eq.mpr c40; have q0j : ((Go.bits .and .u8 q3 16) != 0) = false := bne_eq_false_iff_eq.mpr c40; clear c40; obtain rfl := Option.some.inj H
           go_wp2_with (first | ((with_reducible refine gate_callee (f := 12) rfl ?_); refine goesL_ (some 74) rfl rfl Try.func12 (by kernel_rfl) rfl #[.int .u64 a1, .int .i64 4] rfl LMq ?_; (with_reducible refine (narrow_To.calls q0 a1 4 q2 q3 _ A30.out).mono ?_); rintro e w41 ⟨rfl, hb⟩; refine ⟨_, rfl, ?_⟩; replace HB := Aside0.mk (below_step (kH HB) hb); (try clear hb); (try clear hb2); (try clear hk); (try clear hi)) | ((with_reducible refine gate_callee (f := 12) rfl ?_); refine goesL_ (some 79) rfl rfl Try.func12 (by kernel_rfl) rfl #[.int .u64 a1, .int .i64 3] rfl LMq ?_; (with_reducible refine (narrow_To.calls q0 a1 3 q4 q5 _ A31.out).mono ?_); rintro e w42 ⟨rfl, hb⟩; refine ⟨_, rfl, ?_⟩; replace HB := Aside0.mk (below_step (kH HB) hb); (try clear hb); (try clear hb2); (try clear hk); (try clear hi)))
           go_ret
           exact ⟨by first | rfl | (simp [errW_none, errW_some] <;> rfl) | (simp [*, errW_none, errW_some] <;> rfl), kH HB⟩
         rw [if_neg c40] at H
         have q0i : ((Go.bits .and .u8 q3 16) == 0) = false := beq_eq_false_iff_ne.mpr c40; have q0j : ((Go.bits .and .u8 q3 16) != 0) = true := bne_iff_ne.mpr c40
         by_cases c43 : (Go.bits .and .u8 q5 16) = 0
         · rw [if_pos c43] at H
           have q0k : ((Go.bits .and .u8 q5 16) == 0) = true := beq_iff_eq.mpr c43; have q0l : ((Go.bits .and .u8 q5 16) != 0) = false := bne_eq_false_iff_eq.mpr c43; clear c43; obtain rfl := Option.some.inj H
           go_wp2_with (first | ((with_reducible refine gate_callee (f := 12) rfl ?_); refine goesL_ (some 74) rfl rfl Try.func12 (by kernel_rfl) rfl #[.int .u64 a1, .int .i64 4] rfl LMq ?_; (with_reducible refine (narrow_To.calls q0 a1 4 q2 q3 _ A30.out).mono ?_); rintro e w44 ⟨rfl, hb⟩; refine ⟨_, rfl, ?_⟩; replace HB := Aside0.mk (below_step (kH HB) hb); (try clear hb); (try clear hb2); (try clear hk); (try clear hi)) | ((with_reducible refine gate_callee (f := 12) rfl ?_); refine goesL_ (some 79) rfl rfl Try.func12 (by kernel_rfl) rfl #[.int .u64 a1, .int .i64 3] rfl LMq ?_; (with_reducible refine (narrow_To.calls q0 a1 3 q4 q5 _ A31.out).mono ?_); rintro e w45 ⟨rfl, hb⟩; refine ⟨_, rfl, ?_⟩; replace HB := Aside0.mk (below_step (kH HB) hb); (try clear hb); (try clear hb2); (try clear hk); (try clear hi)))
           go_ret
           exact ⟨by first | rfl | (simp [errW_none, errW_some] <;> rfl) | (simp [*, errW_none, errW_some] <;> rfl), kH HB⟩
         rw [if_neg c43] at H
         have q0k : ((Go.bits .and .u8 q5 16) == 0) = false := beq_eq_false_iff_ne.mpr c43; have q0l : ((Go.bits .and .u8 q5 16) != 0) = true := bne_iff_ne.mpr c43; replace H := Option.bind_eq_some_iff.mp H; obtain ⟨qe, q01, H⟩ := H; replace H : (some qe) = some r := H; have A46 := Aside0.mk q01; clear q01; obtain rfl := Option.some.inj H
         go_wp2_with (first | ((with_reducible refine gate_callee (f := 12) rfl ?_); refine goesL_ (some 74) rfl rfl Try.func12 (by kernel_rfl) rfl #[.int .u64 a1, .int .i64 4] rfl LMq ?_; (with_reducible refine (narrow_To.calls q0 a1 4 q2 q3 _ A30.out).mono ?_); rintro e w47 ⟨rfl, hb⟩; refine ⟨_, rfl, ?_⟩; replace HB := Aside0.mk (below_step (kH HB) hb); (try clear hb); (try clear hb2); (try clear hk); (try clear hi)) | ((with_reducible refine gate_callee (f := 12) rfl ?_); refine goesL_ (some 79) rfl rfl Try.func12 (by kernel_rfl) rfl #[.int .u64 a1, .int .i64 3] rfl LMq ?_; (with_reducible refine (narrow_To.calls q0 a1 3 q4 q5 _ A31.out).mono ?_); rintro e w48 ⟨rfl, hb⟩; refine ⟨_, rfl, ?_⟩; replace HB := Aside0.mk (below_step (kH HB) hb); (try clear hb); (try clear hb2); (try clear hk); (try clear hi)) | (go_at_call 14; (with_reducible refine (tillerlaw12_sure.calls q0  qe _ A46.out).mono ?_); rintro e w49 ⟨rfl, hb⟩; replace HB := Aside0.mk (below_step (kH HB) hb); (try clear hb); (try clear hb2); (try clear hk); (try clear hi)))
         go_ret
         exact ⟨by first | rfl | (simp [errW_none, errW_some] <;> rfl) | (simp [*, errW_none, errW_some] <;> rfl), kH HB⟩
       rw [if_neg c39] at H
       have q0g : (q4 == ((q2 + 1) % 4294967296)) = false := beq_eq_false_iff_ne.mpr c39; have q0h : (q4 != ((q2 + 1) % 4294967296)) = true := bne_iff_ne.mpr c39; obtain rfl := Option.some.inj H
       go_wp2_with (first | ((with_reducible refine gate_callee (f := 12) rfl ?_); refine goesL_ (some 74) rfl rfl Try.func12 (by kernel_rfl) rfl #[.int .u64 a1, .int .i64 4] rfl LMq ?_; (with_reducible refine (narrow_To.calls q0 a1 4 q2 q3 _ A30.out).mono ?_); rintro e w50 ⟨rfl, hb⟩; refine ⟨_, rfl, ?_⟩; replace HB := Aside0.mk (below_step (kH HB) hb); (try clear hb); (try clear hb2); (try clear hk); (try clear hi)) | ((with_reducible refine gate_callee (f := 12) rfl ?_); refine goesL_ (some 79) rfl rfl Try.func12 (by kernel_rfl) rfl #[.int .u64 a1, .int .i64 3] rfl LMq ?_; (with_reducible refine (narrow_To.calls q0 a1 3 q4 q5 _ A31.out).mono ?_); rintro e w51 ⟨rfl, hb⟩; refine ⟨_, rfl, ?_⟩; replace HB := Aside0.mk (below_step (kH HB) hb); (try clear hb); (try clear hb2); (try clear hk); (try clear hi)))
       go_ret
       exact ⟨by first | rfl | (simp [errW_none, errW_some] <;> rfl) | (simp [*, errW_none, errW_some] <;> rfl), kH HB⟩
     rw [if_neg c33] at H
     have q0c : (q3 == 0) = false := beq_eq_false_iff_ne.mpr c33; have q0d : (q3 != 0) = true := bne_iff_ne.mpr c33
     by_cases c52 : q4 = ((q2 + 1) % 4294967296)
     · rw [if_pos c52] at H
       have q0m : (q4 == ((q2 + 1) % 4294967296)) = true := beq_iff_eq.mpr c52; have q0n : (q4 != ((q2 + 1) % 4294967296)) = false := bne_eq_false_iff_eq.mpr c52; clear c52
       by_cases c53 : (Go.bits .and .u8 q3 16) = 0
       · rw [if_pos c53] at H
         have q0o : ((Go.bits .and .u8 q3 16) == 0) = true := beq_iff_eq.mpr c53; have q0p : ((Go.bits .and .u8 q3 16) != 0) = false := bne_eq_false_iff_eq.mpr c53; clear c53; obtain rfl := Option.some.inj H
         go_wp2_with (first | ((with_reducible refine gate_callee (f := 12) rfl ?_); refine goesL_ (some 74) rfl rfl Try.func12 (by kernel_rfl) rfl #[.int .u64 a1, .int .i64 4] rfl LMq ?_; (with_reducible refine (narrow_To.calls q0 a1 4 q2 q3 _ A30.out).mono ?_); rintro e w54 ⟨rfl, hb⟩; refine ⟨_, rfl, ?_⟩; replace HB := Aside0.mk (below_step (kH HB) hb); (try clear hb); (try clear hb2); (try clear hk); (try clear hi)) | ((with_reducible refine gate_callee (f := 12) rfl ?_); refine goesL_ (some 79) rfl rfl Try.func12 (by kernel_rfl) rfl #[.int .u64 a1, .int .i64 3] rfl LMq ?_; (with_reducible refine (narrow_To.calls q0 a1 3 q4 q5 _ A31.out).mono ?_); rintro e w55 ⟨rfl, hb⟩; refine ⟨_, rfl, ?_⟩; replace HB := Aside0.mk (below_step (kH HB) hb); (try clear hb); (try clear hb2); (try clear hk); (try clear hi)))
         go_ret
         exact ⟨by first | rfl | (simp [errW_none, errW_some] <;> rfl) | (simp [*, errW_none, errW_some] <;> rfl), kH HB⟩
       rw [if_neg c53] at H
       have q0o : ((Go.bits .and .u8 q3 16) == 0) = false := beq_eq_false_iff_ne.mpr c53; have q0p : ((Go.bits .and .u8 q3 16) != 0) = true := bne_iff_ne.mpr c53
       by_cases c56 : (Go.bits .and .u8 q5 16) = 0
       · rw [if_pos c56] at H
         have q0q : ((Go.bits .and .u8 q5 16) == 0) = true := beq_iff_eq.mpr c56; have q0r : ((Go.bits .and .u8 q5 16) != 0) = false := bne_eq_false_iff_eq.mpr c56; clear c56; obtain rfl := Option.some.inj H
         go_wp2_with (first | ((with_reducible refine gate_callee (f := 12) rfl ?_); refine goesL_ (some 74) rfl rfl Try.func12 (by kernel_rfl) rfl #[.int .u64 a1, .int .i64 4] rfl LMq ?_; (with_reducible refine (narrow_To.calls q0 a1 4 q2 q3 _ A30.out).mono ?_); rintro e w57 ⟨rfl, hb⟩; refine ⟨_, rfl, ?_⟩; replace HB := Aside0.mk (below_step (kH HB) hb); (try clear hb); (try clear hb2); (try clear hk); (try clear hi)) | ((with_reducible refine gate_callee (f := 12) rfl ?_); refine goesL_ (some 79) rfl rfl Try.func12 (by kernel_rfl) rfl #[.int .u64 a1, .int .i64 3] rfl LMq ?_; (with_reducible refine (narrow_To.calls q0 a1 3 q4 q5 _ A31.out).mono ?_); rintro e w58 ⟨rfl, hb⟩; refine ⟨_, rfl, ?_⟩; replace HB := Aside0.mk (below_step (kH HB) hb); (try clear hb); (try clear hb2); (try clear hk); (try clear hi)))
         go_ret
         exact ⟨by first | rfl | (simp [errW_none, errW_some] <;> rfl) | (simp [*, errW_none, errW_some] <;> rfl), kH HB⟩
       rw [if_neg c56] at H
       have q0q : ((Go.bits .and .u8 q5 16) == 0) = false := beq_eq_false_iff_ne.mpr c56; have q0r : ((Go.bits .and .u8 q5 16) != 0) = true := bne_iff_ne.mpr c56; replace H := Option.bind_eq_some_iff.mp H; obtain ⟨qf, q02, H⟩ := H; replace H : (some qf) = some r := H; have A59 := Aside0.mk q02; clear q02; obtain rfl := Option.some.inj H
       go_wp2_with (first | ((with_reducible refine gate_callee (f := 12) rfl ?_); refine goesL_ (some 74) rfl rfl Try.func12 (by kernel_rfl) rfl #[.int .u64 a1, .int .i64 4] rfl LMq ?_; (with_reducible refine (narrow_To.calls q0 a1 4 q2 q3 _ A30.out).mono ?_); rintro e w60 ⟨rfl, hb⟩; refine ⟨_, rfl, ?_⟩; replace HB := Aside0.mk (below_step (kH HB) hb); (try clear hb); (try clear hb2); (try clear hk); (try clear hi)) | ((with_reducible refine gate_callee (f := 12) rfl ?_); refine goesL_ (some 79) rfl rfl Try.func12 (by kernel_rfl) rfl #[.int .u64 a1, .int .i64 3] rfl LMq ?_; (with_reducible refine (narrow_To.calls q0 a1 3 q4 q5 _ A31.out).mono ?_); rintro e w61 ⟨rfl, hb⟩; refine ⟨_, rfl, ?_⟩; replace HB := Aside0.mk (below_step (kH HB) hb); (try clear hb); (try clear hb2); (try clear hk); (try clear hi)) | (go_at_call 14; (with_reducible refine (tillerlaw12_sure.calls q0  qf _ A59.out).mono ?_); rintro e w62 ⟨rfl, hb⟩; replace HB := Aside0.mk (below_step (kH HB) hb); (try clear hb); (try clear hb2); (try clear hk); (try clear hi)))
       go_ret
       exact ⟨by first | rfl | (simp [errW_none, errW_some] <;> rfl) | (simp [*, errW_none, errW_some] <;> rfl), kH HB⟩
     rw [if_neg c52] at H
     have q0m : (q4 == ((q2 + 1) % 4294967296)) = false := beq_eq_false_iff_ne.mpr c52; have q0n : (q4 != ((q2 + 1) % 4294967296)) = true := bne_iff_ne.mpr c52; obtain rfl := Option.some.inj H
     go_wp2_with (first | ((with_reducible refine gate_callee (f := 12) rfl ?_); refine goesL_ (some 74) rfl rfl Try.func12 (by kernel_rfl) rfl #[.int .u64 a1, .int .i64 4] rfl LMq ?_; (with_reducible refine (narrow_To.calls q0 a1 4 q2 q3 _ A30.out).mono ?_); rintro e w63 ⟨rfl, hb⟩; refine ⟨_, rfl, ?_⟩; replace HB := Aside0.mk (below_step (kH HB) hb); (try clear hb); (try clear hb2); (try clear hk); (try clear hi)) | ((with_reducible refine gate_callee (f := 12) rfl ?_); refine goesL_ (some 79) rfl rfl Try.func12 (by kernel_rfl) rfl #[.int .u64 a1, .int .i64 3] rfl LMq ?_; (with_reducible refine (narrow_To.calls q0 a1 3 q4 q5 _ A31.out).mono ?_); rintro e w64 ⟨rfl, hb⟩; refine ⟨_, rfl, ?_⟩; replace HB := Aside0.mk (below_step (kH HB) hb); (try clear hb); (try clear hb2); (try clear hk); (try clear hi)))
     go_ret
     exact ⟨by first | rfl | (simp [errW_none, errW_some] <;> rfl) | (simp [*, errW_none, errW_some] <;> rfl), kH HB⟩
   rw [if_neg c32] at H
   have q0a : (q4 == q2) = false := beq_eq_false_iff_ne.mpr c32; have q0b : (q4 != q2) = true := bne_iff_ne.mpr c32
   by_cases c65 : q4 = ((q2 + 1) % 4294967296)
   · rw [if_pos c65] at H
     have q0s : (q4 == ((q2 + 1) % 4294967296)) = true := beq_iff_eq.mpr c65; have q0t : (q4 != ((q2 + 1) % 4294967296)) = false := bne_eq_false_iff_eq.mpr c65; clear c65
     by_cases c66 : (Go.bits .and .u8 q3 16) = 0
     · rw [if_pos c66] at H
       have q0u : ((Go.bits .and .u8 q3 16) == 0) = true := beq_iff_eq.mpr c66; have q0v : ((Go.bits .and .u8 q3 16) != 0) = false := bne_eq_false_iff_eq.mpr c66; clear c66; obtain rfl := Option.some.inj H
       go_wp2_with (first | ((with_reducible refine gate_callee (f := 12) rfl ?_); refine goesL_ (some 74) rfl rfl Try.func12 (by kernel_rfl) rfl #[.int .u64 a1, .int .i64 4] rfl LMq ?_; (with_reducible refine (narrow_To.calls q0 a1 4 q2 q3 _ A30.out).mono ?_); rintro e w67 ⟨rfl, hb⟩; refine ⟨_, rfl, ?_⟩; replace HB := Aside0.mk (below_step (kH HB) hb); (try clear hb); (try clear hb2); (try clear hk); (try clear hi)) | ((with_reducible refine gate_callee (f := 12) rfl ?_); refine goesL_ (some 79) rfl rfl Try.func12 (by kernel_rfl) rfl #[.int .u64 a1, .int .i64 3] rfl LMq ?_; (with_reducible refine (narrow_To.calls q0 a1 3 q4 q5 _ A31.out).mono ?_); rintro e w68 ⟨rfl, hb⟩; refine ⟨_, rfl, ?_⟩; replace HB := Aside0.mk (below_step (kH HB) hb); (try clear hb); (try clear hb2); (try clear hk); (try clear hi)))
       go_ret
       exact ⟨by first | rfl | (simp [errW_none, errW_some] <;> rfl) | (simp [*, errW_none, errW_some] <;> rfl), kH HB⟩
     rw [if_neg c66] at H
     have q0u : ((Go.bits .and .u8 q3 16) == 0) = false := beq_eq_false_iff_ne.mpr c66; have q0v : ((Go.bits .and .u8 q3 16) != 0) = true := bne_iff_ne.mpr c66
     by_cases c69 : (Go.bits .and .u8 q5 16) = 0
     · rw [if_pos c69] at H
       have q0w : ((Go.bits .and .u8 q5 16) == 0) = true := beq_iff_eq.mpr c69; have q0x : ((Go.bits .and .u8 q5 16) != 0) = false := bne_eq_false_iff_eq.mpr c69; clear c69; obtain rfl := Option.some.inj H
       go_wp2_with (first | ((with_reducible refine gate_callee (f := 12) rfl ?_); refine goesL_ (some 74) rfl rfl Try.func12 (by kernel_rfl) rfl #[.int .u64 a1, .int .i64 4] rfl LMq ?_; (with_reducible refine (narrow_To.calls q0 a1 4 q2 q3 _ A30.out).mono ?_); rintro e w70 ⟨rfl, hb⟩; refine ⟨_, rfl, ?_⟩; replace HB := Aside0.mk (below_step (kH HB) hb); (try clear hb); (try clear hb2); (try clear hk); (try clear hi)) | ((with_reducible refine gate_callee (f := 12) rfl ?_); refine goesL_ (some 79) rfl rfl Try.func12 (by kernel_rfl) rfl #[.int .u64 a1, .int .i64 3] rfl LMq ?_; (with_reducible refine (narrow_To.calls q0 a1 3 q4 q5 _ A31.out).mono ?_); rintro e w71 ⟨rfl, hb⟩; refine ⟨_, rfl, ?_⟩; replace HB := Aside0.mk (below_step (kH HB) hb); (try clear hb); (try clear hb2); (try clear hk); (try clear hi)))
       go_ret
       exact ⟨by first | rfl | (simp [errW_none, errW_some] <;> rfl) | (simp [*, errW_none, errW_some] <;> rfl), kH HB⟩
     rw [if_neg c69] at H
     have q0w : ((Go.bits .and .u8 q5 16) == 0) = false := beq_eq_false_iff_ne.mpr c69; have q0x : ((Go.bits .and .u8 q5 16) != 0) = true := bne_iff_ne.mpr c69; replace H := Option.bind_eq_some_iff.mp H; obtain ⟨qg, q03, H⟩ := H; replace H : (some qg) = some r := H; have A72 := Aside0.mk q03; clear q03; obtain rfl := Option.some.inj H
     go_wp2_with (first | ((with_reducible refine gate_callee (f := 12) rfl ?_); refine goesL_ (some 74) rfl rfl Try.func12 (by kernel_rfl) rfl #[.int .u64 a1, .int .i64 4] rfl LMq ?_; (with_reducible refine (narrow_To.calls q0 a1 4 q2 q3 _ A30.out).mono ?_); rintro e w73 ⟨rfl, hb⟩; refine ⟨_, rfl, ?_⟩; replace HB := Aside0.mk (below_step (kH HB) hb); (try clear hb); (try clear hb2); (try clear hk); (try clear hi)) | ((with_reducible refine gate_callee (f := 12) rfl ?_); refine goesL_ (some 79) rfl rfl Try.func12 (by kernel_rfl) rfl #[.int .u64 a1, .int .i64 3] rfl LMq ?_; (with_reducible refine (narrow_To.calls q0 a1 3 q4 q5 _ A31.out).mono ?_); rintro e w74 ⟨rfl, hb⟩; refine ⟨_, rfl, ?_⟩; replace HB := Aside0.mk (below_step (kH HB) hb); (try clear hb); (try clear hb2); (try clear hk); (try clear hi)) | (go_at_call 14; (with_reducible refine (tillerlaw12_sure.calls q0  qg _ A72.out).mono ?_); rintro e w75 ⟨rfl, hb⟩; replace HB := Aside0.mk (below_step (kH HB) hb); (try clear hb); (try clear hb2); (try clear hk); (try clear hi)))
     go_ret
     exact ⟨by first | rfl | (simp [errW_none, errW_some] <;> rfl) | (simp [*, errW_none, errW_some] <;> rfl), kH HB⟩
   rw [if_neg c65] at H
   have q0s : (q4 == ((q2 + 1) % 4294967296)) = false := beq_eq_false_iff_ne.mpr c65; have q0t : (q4 != ((q2 + 1) % 4294967296)) = true := bne_iff_ne.mpr c65; obtain rfl := Option.some.inj H
   go_wp2_with (first | ((with_reducible refine gate_callee (f := 12) rfl ?_); refine goesL_ (some 74) rfl rfl Try.func12 (by kernel_rfl) rfl #[.int .u64 a1, .int .i64 4] rfl LMq ?_; (with_reducible refine (narrow_To.calls q0 a1 4 q2 q3 _ A30.out).mono ?_); rintro e w76 ⟨rfl, hb⟩; refine ⟨_, rfl, ?_⟩; replace HB := Aside0.mk (below_step (kH HB) hb); (try clear hb); (try clear hb2); (try clear hk); (try clear hi)) | ((with_reducible refine gate_callee (f := 12) rfl ?_); refine goesL_ (some 79) rfl rfl Try.func12 (by kernel_rfl) rfl #[.int .u64 a1, .int .i64 3] rfl LMq ?_; (with_reducible refine (narrow_To.calls q0 a1 3 q4 q5 _ A31.out).mono ?_); rintro e w77 ⟨rfl, hb⟩; refine ⟨_, rfl, ?_⟩; replace HB := Aside0.mk (below_step (kH HB) hb); (try clear hb); (try clear hb2); (try clear hk); (try clear hi)))
   go_ret
   exact ⟨by first | rfl | (simp [errW_none, errW_some] <;> rfl) | (simp [*, errW_none, errW_some] <;> rfl), kH HB⟩
def tillerlaw12_NarrowBack.Pure : Prop := ∀ (a0 : Int) (a1 : Int) (a2 : Int), (Lit.int .u32 a0).wf = true → (Lit.int .u64 a1).wf = true → (Lit.int .i64 a2).wf = true → ∃ k, tillerlaw12_NarrowBack.f k a0 a1 a2 = some true
theorem tillerlaw12_NarrowBack.walk (P : tillerlaw12_NarrowBack.Pure) (a0 : Int) (a1 : Int) (a2 : Int) (w : World) (w0 : (Lit.int .u32 a0).wf = true) (w1 : (Lit.int .u64 a1).wf = true) (w2 : (Lit.int .i64 a2).wf = true) :
 Calls Try.prog 5 #[.int .u32 a0, .int .u64 a1, .int .i64 a2] w fun e w' => e = .returned (.bool true) ∧ Below w.heap.size w w' := by
 obtain ⟨k, h⟩ := P a0 a1 a2 w0 w1 w2; refine (tillerlaw12_NarrowBack.calls k a0 a1 a2 true w h).mono ?_; rintro e w' ⟨rfl, hd⟩; exact ⟨rfl, hd⟩
end Go.Proofs.Ytfnkmedajchbgaa.X
