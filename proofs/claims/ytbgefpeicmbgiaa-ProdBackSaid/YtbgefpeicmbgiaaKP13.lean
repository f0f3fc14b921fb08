import Derived.Test.YtbgefpeicmbgiaaKP4
import Derived.Test.YtbgefpeicmbgiaaKP10
import Derived.Test.YtbgefpeicmbgiaaKPXprodFma
import Derived.Test.YtbgefpeicmbgiaaKP12
section
namespace Go.Proofs.Ytbgefpeicmbgiaa.X
open Go.RowKit Go.Proofs.YtbgefpeicmbgiaaW.PrintWords Go.Proofs.YtbgefpeicmbgiaaW.PrintLast Go.Proofs.YtbgefpeicmbgiaaW.PrintMore
attribute [local go_sem] max2_int min2_int max_two min_two max_three min_three max_four min_four   
set_option linter.unusedVariables false
set_option linter.unusedSimpArgs false
def tillerlaw06_ProdBack.j0 : Nat → Int → Int → Bool → Option (Bool)
 | 0, _, _, _ => none
 | k + 1, x0, x7, x82 => if x82 = true then (some false) else ((prod_Mul.f k x0 4607182418800017408 x7).bind fun qg => (if (Go.bits .andNot .u64 x0 9223372036854775808) > 9218868437227405312 then ((tillerlaw06_sure.f k).bind fun q9 => (some q9)) else (if qg.1 = x0 then (if qg.2 = 0 then ((tillerlaw06_sure.f k).bind fun qa => (some qa)) else (some false)) else (some false))))
def tillerlaw06_ProdBack.f (k : Nat) (a0 : Int) (a1 : Int) (a2 : Int) : Option (Bool) := (prod_Mul.f k a0 a1 a2).bind fun q3 => ((prod_Mul.f k a1 a0 a2).bind fun qb => ((prod_Fma.f k a0 a1 (Go.bits .and .u64 (Go.bits .xor .u64 a0 a1) 9223372036854775808) a2).bind fun q4 => ((prod_Fma.f k a1 a0 (Go.bits .and .u64 (Go.bits .xor .u64 a0 a1) 9223372036854775808) a2).bind fun q2 => (if q3.1 = qb.1 then (if q3.2 = qb.2 then (if q4.1 = q3.1 then (if q4.2 = q3.2 then (if q2.1 = q3.1 then (tillerlaw06_ProdBack.j0 k a0 a2 (q2.2 != q3.2)) else (tillerlaw06_ProdBack.j0 k a0 a2 true)) else (tillerlaw06_ProdBack.j0 k a0 a2 true)) else (tillerlaw06_ProdBack.j0 k a0 a2 true)) else (tillerlaw06_ProdBack.j0 k a0 a2 true)) else (tillerlaw06_ProdBack.j0 k a0 a2 true)))))
theorem tillerlaw06_ProdBack.mono_l : ∀ k, (∀ y0 y1 y2, LeO (tillerlaw06_ProdBack.j0 k y0 y1 y2) (tillerlaw06_ProdBack.j0 (k + 1) y0 y1 y2))
 | 0 => fun _ _ _ r h => by simp [tillerlaw06_ProdBack.j0] at h
 | k + 1 => by
  have ih0 := tillerlaw06_ProdBack.mono_l k
  · intro y0 y1 y2
    unfold tillerlaw06_ProdBack.j0
    repeat' first
    | (with_reducible exact ih0 _ _ _)
    | (with_reducible exact prod_Fma.mono _ _ _ _ _)
    | (with_reducible exact prod_Mul.mono _ _ _ _)
    | (with_reducible exact tillerlaw06_sure.mono _)
    | (with_reducible exact LeO.refl _)
    | (with_reducible exact LeO.none _)
    | (with_reducible refine LeO.ite ?_ ?_)
    | (with_reducible refine LeO.bind ?_ (fun _ => ?_))
    | exact ih0 _ _ _
    | exact prod_Fma.mono _ _ _ _ _
    | exact prod_Mul.mono _ _ _ _
    | exact tillerlaw06_sure.mono _
    | exact LeO.none _
    | refine LeO.ite ?_ ?_
    | refine LeO.bind ?_ (fun _ => ?_)
theorem tillerlaw06_ProdBack.mono : ∀ a0 a1 a2 k, LeO (tillerlaw06_ProdBack.f k a0 a1 a2) (tillerlaw06_ProdBack.f (k + 1) a0 a1 a2) := by
 intro a0 a1 a2 k; have ih0 := tillerlaw06_ProdBack.mono_l k
 unfold tillerlaw06_ProdBack.f
 repeat' first
  | (with_reducible exact ih0 _ _ _)
  | (with_reducible exact prod_Fma.mono _ _ _ _ _)
  | (with_reducible exact prod_Mul.mono _ _ _ _)
  | (with_reducible exact tillerlaw06_sure.mono _)
  | (with_reducible exact LeO.refl _)
  | (with_reducible exact LeO.none _)
  | (with_reducible refine LeO.ite ?_ ?_)
  | (with_reducible refine LeO.bind ?_ (fun _ => ?_))
  | exact ih0 _ _ _
  | exact prod_Fma.mono _ _ _ _ _
  | exact prod_Mul.mono _ _ _ _
  | exact tillerlaw06_sure.mono _
  | exact LeO.none _
  | refine LeO.ite ?_ ?_
  | refine LeO.bind ?_ (fun _ => ?_)
set_option maxHeartbeats 8000000 in
set_option maxRecDepth 100000 in
theorem tillerlaw06_ProdBack.calls (k : Nat) (a0 : Int) (a1 : Int) (a2 : Int) (r : Bool) (w : World) (h : tillerlaw06_ProdBack.f k a0 a1 a2 = some r) :
 Calls Try.prog 10 #[.int .u64 a0, .int .u64 a1, .int .i64 a2] w fun e w' => e = .returned (.bool r) ∧ Below w.heap.size w w' := by
 have HB := Aside0.mk (Below.refl w.heap.size w); have H : ((prod_Mul.f k a0 a1 a2).bind fun q3 => ((prod_Mul.f k a1 a0 a2).bind fun qb => ((prod_Fma.f k a0 a1 (Go.bits .and .u64 (Go.bits .xor .u64 a0 a1) 9223372036854775808) a2).bind fun q4 => ((prod_Fma.f k a1 a0 (Go.bits .and .u64 (Go.bits .xor .u64 a0 a1) 9223372036854775808) a2).bind fun q2 => (if q3.1 = qb.1 then (if q3.2 = qb.2 then (if q4.1 = q3.1 then (if q4.2 = q3.2 then (if q2.1 = q3.1 then (tillerlaw06_ProdBack.j0 k a0 a2 (q2.2 != q3.2)) else (tillerlaw06_ProdBack.j0 k a0 a2 true)) else (tillerlaw06_ProdBack.j0 k a0 a2 true)) else (tillerlaw06_ProdBack.j0 k a0 a2 true)) else (tillerlaw06_ProdBack.j0 k a0 a2 true)) else (tillerlaw06_ProdBack.j0 k a0 a2 true)))))) = some r := h; clear h; replace H := Option.bind_eq_some_iff.mp H; obtain ⟨⟨q0, q1⟩, A40, H⟩ := H; replace H : ((prod_Mul.f k a1 a0 a2).bind fun qb => ((prod_Fma.f k a0 a1 (Go.bits .and .u64 (Go.bits .xor .u64 a0 a1) 9223372036854775808) a2).bind fun q4 => ((prod_Fma.f k a1 a0 (Go.bits .and .u64 (Go.bits .xor .u64 a0 a1) 9223372036854775808) a2).bind fun q2 => (if q0 = qb.1 then (if q1 = qb.2 then (if q4.1 = q0 then (if q4.2 = q1 then (if q2.1 = q0 then (tillerlaw06_ProdBack.j0 k a0 a2 (q2.2 != q1)) else (tillerlaw06_ProdBack.j0 k a0 a2 true)) else (tillerlaw06_ProdBack.j0 k a0 a2 true)) else (tillerlaw06_ProdBack.j0 k a0 a2 true)) else (tillerlaw06_ProdBack.j0 k a0 a2 true)) else (tillerlaw06_ProdBack.j0 k a0 a2 true))))) = some r := H; have A4 := Aside0.mk A40; clear A40; replace H := Option.bind_eq_some_iff.mp H; obtain ⟨⟨q7, q8⟩, A50, H⟩ := H; replace H : ((prod_Fma.f k a0 a1 (Go.bits .and .u64 (Go.bits .xor .u64 a0 a1) 9223372036854775808) a2).bind fun q4 => ((prod_Fma.f k a1 a0 (Go.bits .and .u64 (Go.bits .xor .u64 a0 a1) 9223372036854775808) a2).bind fun q2 => (if q0 = q7 then (if q1 = q8 then (if q4.1 = q0 then (if q4.2 = q1 then (if q2.1 = q0 then (tillerlaw06_ProdBack.j0 k a0 a2 (q2.2 != q1)) else (tillerlaw06_ProdBack.j0 k a0 a2 true)) else (tillerlaw06_ProdBack.j0 k a0 a2 true)) else (tillerlaw06_ProdBack.j0 k a0 a2 true)) else (tillerlaw06_ProdBack.j0 k a0 a2 true)) else (tillerlaw06_ProdBack.j0 k a0 a2 true)))) = some r := H; have A5 := Aside0.mk A50; clear A50; replace H := Option.bind_eq_some_iff.mp H; obtain ⟨⟨qc, qd⟩, A60, H⟩ := H; replace H : ((prod_Fma.f k a1 a0 (Go.bits .and .u64 (Go.bits .xor .u64 a0 a1) 9223372036854775808) a2).bind fun q2 => (if q0 = q7 then (if q1 = q8 then (if qc = q0 then (if qd = q1 then (if q2.1 = q0 then (tillerlaw06_ProdBack.j0 k a0 a2 (q2.2 != q1)) else (tillerlaw06_ProdBack.j0 k a0 a2 true)) else (tillerlaw06_ProdBack.j0 k a0 a2 true)) else (tillerlaw06_ProdBack.j0 k a0 a2 true)) else (tillerlaw06_ProdBack.j0 k a0 a2 true)) else (tillerlaw06_ProdBack.j0 k a0 a2 true))) = some r := H; have A6 := Aside0.mk A60; clear A60; replace H := Option.bind_eq_some_iff.mp H; obtain ⟨⟨qe, qi⟩, A70, H⟩ := H; replace H : (if q0 = q7 then (if q1 = q8 then (if qc = q0 then (if qd = q1 then (if qe = q0 then (tillerlaw06_ProdBack.j0 k a0 a2 (qi != q1)) else (tillerlaw06_ProdBack.j0 k a0 a2 true)) else (tillerlaw06_ProdBack.j0 k a0 a2 true)) else (tillerlaw06_ProdBack.j0 k a0 a2 true)) else (tillerlaw06_ProdBack.j0 k a0 a2 true)) else (tillerlaw06_ProdBack.j0 k a0 a2 true)) = some r := H; have A7 := Aside0.mk A70; clear A70; have HC8 := Aside0.mk H; clear H
 go_enter Try.func10, Try.ntmps10
 go_upto_region 6 with (first | ((with_reducible refine gate_callee (f := 26) rfl ?_); refine goesL_ (some 23) rfl rfl Try.func26 (by kernel_rfl) rfl #[.int .u64 a0, .int .u64 a1, .int .i64 a2] rfl LMq ?_; (with_reducible refine (prod_Mul.calls k a0 a1 a2 q0 q1 _ A4.out).mono ?_); rintro e w9 ⟨rfl, hb⟩; refine ⟨_, rfl, ?_⟩; replace HB := Aside0.mk (below_step (kH HB) hb); (try clear hb); (try clear hb2); (try clear hk); (try clear hi)) | ((with_reducible refine gate_callee (f := 26) rfl ?_); refine goesL_ (some 30) rfl rfl Try.func26 (by kernel_rfl) rfl #[.int .u64 a1, .int .u64 a0, .int .i64 a2] rfl LMq ?_; (with_reducible refine (prod_Mul.calls k a1 a0 a2 q7 q8 _ A5.out).mono ?_); rintro e w10 ⟨rfl, hb⟩; refine ⟨_, rfl, ?_⟩; replace HB := Aside0.mk (below_step (kH HB) hb); (try clear hb); (try clear hb2); (try clear hk); (try clear hi)) | ((with_reducible refine gate_callee (f := 23) rfl ?_); refine goesL_ (some 41) rfl rfl Try.func23 (by kernel_rfl) rfl #[.int .u64 a0, .int .u64 a1, .int .u64 (Go.bits .and .u64 (Go.bits .xor .u64 a0 a1) 9223372036854775808), .int .i64 a2] rfl LMq ?_; (with_reducible refine (prod_Fma.calls k a0 a1 (Go.bits .and .u64 (Go.bits .xor .u64 a0 a1) 9223372036854775808) a2 qc qd _ A6.out).mono ?_); rintro e w11 ⟨rfl, hb⟩; refine ⟨_, rfl, ?_⟩; replace HB := Aside0.mk (below_step (kH HB) hb); (try clear hb); (try clear hb2); (try clear hk); (try clear hi)) | ((with_reducible refine gate_callee (f := 23) rfl ?_); refine goesL_ (some 52) rfl rfl Try.func23 (by kernel_rfl) rfl #[.int .u64 a1, .int .u64 a0, .int .u64 (Go.bits .and .u64 (Go.bits .xor .u64 a0 a1) 9223372036854775808), .int .i64 a2] rfl LMq ?_; (with_reducible refine (prod_Fma.calls k a1 a0 (Go.bits .and .u64 (Go.bits .xor .u64 a0 a1) 9223372036854775808) a2 qe qi _ A7.out).mono ?_); rintro e w12 ⟨rfl, hb⟩; refine ⟨_, rfl, ?_⟩; replace HB := Aside0.mk (below_step (kH HB) hb); (try clear hb); (try clear hb2); (try clear hk); (try clear hi)))
 (try simp only [Act.put, List.setIfInBounds_toArray, List.set_cons_zero, List.set_cons_succ])
 go_cut [82] (fun v82 wc => ∃ (kq : Nat) (qh : Bool), v82 = .bool qh ∧ Aside0 (tillerlaw06_ProdBack.j0 kq a0 a2 qh = some r) ∧ Aside0 (kq ≤ k) ∧ Aside0 (Below w.heap.size w wc))
 case first =>
  have H := HC8.out; clear HC8
  by_cases c13 : q0 = q7
  · rw [if_pos c13] at H
    have qf : (q0 == q7) = true := beq_iff_eq.mpr c13; have qj : (q0 != q7) = false := bne_eq_false_iff_eq.mpr c13; clear c13
    (first | rw [qf] | (simp only [i64_w, i32_w]; rw [qf]) | skip)
    by_cases c14 : q1 = q8
    · rw [if_pos c14] at H
      have qk : (q1 == q8) = true := beq_iff_eq.mpr c14; have ql : (q1 != q8) = false := bne_eq_false_iff_eq.mpr c14; clear c14
      by_cases c15 : qc = q0
      · rw [if_pos c15] at H
        have qm : (qc == q0) = true := beq_iff_eq.mpr c15; have qn : (qc != q0) = false := bne_eq_false_iff_eq.mpr c15; clear c15
        by_cases c16 : qd = q1
        · rw [if_pos c16] at H
          have qo : (qd == q1) = true := beq_iff_eq.mpr c16; have qp : (qd != q1) = false := bne_eq_false_iff_eq.mpr c16; clear c16
          by_cases c17 : qe = q0
          · rw [if_pos c17] at H
            have qq : (qe == q0) = true := beq_iff_eq.mpr c17; have qr : (qe != q0) = false := bne_eq_false_iff_eq.mpr c17; clear c17; have H' := Aside0.mk H; clear H
            go_wp2
            go_meet
            case rel => exact ⟨_, ((qi != q1)), RSq, (by first | exact H' | (subst_vars; exact H')), ⟨by first | omega | exact Nat.le_refl _⟩, ⟨kH HB⟩⟩
          rw [if_neg c17] at H
          have qq : (qe == q0) = false := beq_eq_false_iff_ne.mpr c17; have qr : (qe != q0) = true := bne_iff_ne.mpr c17; have H' := Aside0.mk H; clear H
          go_wp2
          go_meet
          case rel => exact ⟨_, (true), RSq, (by first | exact H' | (subst_vars; exact H')), ⟨by first | omega | exact Nat.le_refl _⟩, ⟨kH HB⟩⟩
        rw [if_neg c16] at H
        have qo : (qd == q1) = false := beq_eq_false_iff_ne.mpr c16; have qp : (qd != q1) = true := bne_iff_ne.mpr c16; have H' := Aside0.mk H; clear H
        go_wp2
        go_meet
        case rel => exact ⟨_, (true), RSq, (by first | exact H' | (subst_vars; exact H')), ⟨by first | omega | exact Nat.le_refl _⟩, ⟨kH HB⟩⟩
      rw [if_neg c15] at H
      have qm : (qc == q0) = false := beq_eq_false_iff_ne.mpr c15; have qn : (qc != q0) = true := bne_iff_ne.mpr c15; have H' := Aside0.mk H; clear H
      go_wp2
      go_meet
      case rel => exact ⟨_, (true), RSq, (by first | exact H' | (subst_vars; exact H')), ⟨by first | omega | exact Nat.le_refl _⟩, ⟨kH HB⟩⟩
    rw [if_neg c14] at H
    have qk : (q1 == q8) = false := beq_eq_false_iff_ne.mpr c14; have ql : (q1 != q8) = true := bne_iff_ne.mpr c14; have H' := Aside0.mk H; clear H
    go_wp2
    go_meet
    case rel => exact ⟨_, (true), RSq, (by first | exact H' | (subst_vars; exact H')), ⟨by first | omega | exact Nat.le_refl _⟩, ⟨kH HB⟩⟩
  rw [if_neg c13] at H
  have qf : (q0 == q7) = false := beq_eq_false_iff_ne.mpr c13; have qj : (q0 != q7) = true := bne_iff_ne.mpr c13
  (first | rw [qf] | (simp only [i64_w, i32_w]; rw [qf]) | skip)
  have H' := Aside0.mk H; clear H
  go_wp2
  go_meet
  case rel => exact ⟨_, (true), RSq, (by first | exact H' | (subst_vars; exact H')), ⟨by first | omega | exact Nat.le_refl _⟩, ⟨kH HB⟩⟩
 case rest =>
  clear HC8; (try clear c1); (try clear c2); (try clear p2); (try clear p6); (try clear c10); (try clear c13); (try clear qf); (try clear qj); (try clear c14); (try clear qk); (try clear ql); (try clear c15); (try clear qm); (try clear qn); (try clear c16); (try clear qo); (try clear qp); (try clear c17); (try clear qq); (try clear qr); obtain ⟨kq, qh, rfl, HA, HJ7, HB⟩ := hcut
  cases kq with
  | zero => exact absurd HA.out (by simp [tillerlaw06_ProdBack.j0])
  | succ kj7 =>
   have H := HA.out; clear HA
   simp only [tillerlaw06_ProdBack.j0] at H
   by_cases c18 : qh = true
   · subst c18
     have H1 : (some false) = some r := by rw [if_pos rfl] at H; exact H
     clear H; have H := H1; clear H1; obtain rfl := Option.some.inj H
     go_wp2
     go_ret
     exact ⟨by first | rfl | (simp [errW_none, errW_some] <;> rfl) | (simp [*, errW_none, errW_some] <;> rfl), kH HB⟩
   replace c18 := Bool.eq_false_iff.mpr c18; subst c18
   have H1 : ((prod_Mul.f kj7 a0 4607182418800017408 a2).bind fun qg => (if (Go.bits .andNot .u64 a0 9223372036854775808) > 9218868437227405312 then ((tillerlaw06_sure.f kj7).bind fun q9 => (some q9)) else (if qg.1 = a0 then (if qg.2 = 0 then ((tillerlaw06_sure.f kj7).bind fun qa => (some qa)) else (some false)) else (some false)))) = some r := by rw [if_neg (show ¬ (false = true) by decide)] at H; exact H
   clear H; have H := H1; clear H1; replace H := Option.bind_eq_some_iff.mp H; obtain ⟨⟨q5, q6⟩, qs, H⟩ := H; replace H : (if (Go.bits .andNot .u64 a0 9223372036854775808) > 9218868437227405312 then ((tillerlaw06_sure.f kj7).bind fun q9 => (some q9)) else (if q5 = a0 then (if q6 = 0 then ((tillerlaw06_sure.f kj7).bind fun qa => (some qa)) else (some false)) else (some false))) = some r := H; have A19 := Aside0.mk qs; clear qs
   by_cases c20 : (Go.bits .andNot .u64 a0 9223372036854775808) > 9218868437227405312
   · rw [if_pos c20] at H
     have qv : decide (9218868437227405312 < (Go.bits .andNot .u64 a0 9223372036854775808)) = true := decide_eq_true c20; clear c20; replace H := Option.bind_eq_some_iff.mp H; obtain ⟨q9, qt, H⟩ := H; replace H : (some q9) = some r := H; have A21 := Aside0.mk qt; clear qt; obtain rfl := Option.some.inj H
     go_wp2_with (first | ((with_reducible refine gate_callee (f := 26) rfl ?_); refine goesL_ (some 86) rfl rfl Try.func26 (by kernel_rfl) rfl #[.int .u64 a0, .int .u64 4607182418800017408, .int .i64 a2] rfl LMq ?_; (with_reducible refine (prod_Mul.calls kj7 a0 4607182418800017408 a2 q5 q6 _ A19.out).mono ?_); rintro e w22 ⟨rfl, hb⟩; refine ⟨_, rfl, ?_⟩; replace HB := Aside0.mk (below_step (kH HB) hb); (try clear hb); (try clear hb2); (try clear hk); (try clear hi)) | (go_at_call 25; (with_reducible refine (tillerlaw06_sure.calls kj7  q9 _ A21.out).mono ?_); rintro e w23 ⟨rfl, hb⟩; replace HB := Aside0.mk (below_step (kH HB) hb); (try clear hb); (try clear hb2); (try clear hk); (try clear hi)))
     go_ret
     exact ⟨by first | rfl | (simp [errW_none, errW_some] <;> rfl) | (simp [*, errW_none, errW_some] <;> rfl), kH HB⟩
   rw [if_neg c20] at H
   have qv : decide (9218868437227405312 < (Go.bits .andNot .u64 a0 9223372036854775808)) = false := decide_eq_false c20; clear c20
   by_cases c24 : q5 = a0
   · rw [if_pos c24] at H
     have qw : (q5 == a0) = true := beq_iff_eq.mpr c24; have qx : (q5 != a0) = false := bne_eq_false_iff_eq.mpr c24; clear c24
     by_cases c25 : q6 = 0
     · rw [if_pos c25] at H
       have qy : (q6 == 0) = true := beq_iff_eq.mpr c25; have qz : (q6 != 0) = false := bne_eq_false_iff_eq.mpr c25; clear c25; replace H := Option.bind_eq_some_iff.mp H; obtain ⟨qa, qu, H⟩ := H; replace H : (some qa) = some r := H; have A26 := Aside0.mk qu; clear qu; obtain rfl := Option.some.inj H
       go_wp2_with (first | ((with_reducible refine gate_callee (f := 26) rfl ?_); refine goesL_ (some 86) rfl rfl Try.func26 (by kernel_rfl) rfl #[.int .u64 a0, .int .u64 4607182418800017408, .int .i64 a2] rfl LMq ?_; (with_reducible refine (prod_Mul.calls kj7 a0 4607182418800017408 a2 q5 q6 _ A19.out).mono ?_); rintro e w27 ⟨rfl, hb⟩; refine ⟨_, rfl, ?_⟩; replace HB := Aside0.mk (below_step (kH HB) hb); (try clear hb); (try clear hb2); (try clear hk); (try clear hi)) | (go_at_call 25; (with_reducible refine (tillerlaw06_sure.calls kj7  qa _ A26.out).mono ?_); rintro e w28 ⟨rfl, hb⟩; replace HB := Aside0.mk (below_step (kH HB) hb); (try clear hb); (try clear hb2); (try clear hk); (try clear hi)))
       go_ret
       exact ⟨by first | rfl | (simp [errW_none, errW_some] <;> rfl) | (simp [*, errW_none, errW_some] <;> rfl), kH HB⟩
     rw [if_neg c25] at H
     have qy : (q6 == 0) = false := beq_eq_false_iff_ne.mpr c25; have qz : (q6 != 0) = true := bne_iff_ne.mpr c25; obtain rfl := Option.some.inj H
     go_wp2_with (first | ((with_reducible refine gate_callee (f := 26) rfl ?_); refine goesL_ (some 86) rfl rfl Try.func26 (by kernel_rfl) rfl #[.int .u64 a0, .int .u64 4607182418800017408, .int .i64 a2] rfl LMq ?_; (with_reducible refine (prod_Mul.calls kj7 a0 4607182418800017408 a2 q5 q6 _ A19.out).mono ?_); rintro e w29 ⟨rfl, hb⟩; refine ⟨_, rfl, ?_⟩; replace HB := Aside0.mk (below_step (kH HB) hb); (try clear hb); (try clear hb2); (try clear hk); (try clear hi)))
     go_ret
     exact ⟨by first | rfl | (simp [errW_none, errW_some] <;> rfl) | (simp [*, errW_none, errW_some] <;> rfl), kH HB⟩
   rw [if_neg c24] at H
   have qw : (q5 == a0) = false := beq_eq_false_iff_ne.mpr c24; have qx : (q5 != a0) = true := bne_iff_ne.mpr c24; obtain rfl := Option.some.inj H
   go_wp2_with (first | ((with_reducible refine gate_callee (f := 26) rfl ?_); refine goesL_ (some 86) rfl rfl Try.func26 (by kernel_rfl) rfl #[.int .u64 a0, .int .u64 4607182418800017408, .int .i64 a2] rfl LMq ?_; (with_reducible refine (prod_Mul.calls kj7 a0 4607182418800017408 a2 q5 q6 _ A19.out).mono ?_); rintro e w30 ⟨rfl, hb⟩; refine ⟨_, rfl, ?_⟩; replace HB := Aside0.mk (below_step (kH HB) hb); (try clear hb); (try clear hb2); (try clear hk); (try clear hi)))
   go_ret
   exact ⟨by first | rfl | (simp [errW_none, errW_some] <;> rfl) | (simp [*, errW_none, errW_some] <;> rfl), kH HB⟩
def tillerlaw06_ProdBack.Pure : Prop := ∀ (a0 : Int) (a1 : Int) (a2 : Int), (Lit.int .u64 a0).wf = true → (Lit.int .u64 a1).wf = true → (Lit.int .i64 a2).wf = true → ∃ k, tillerlaw06_ProdBack.f k a0 a1 a2 = some true
theorem tillerlaw06_ProdBack.walk (P : tillerlaw06_ProdBack.Pure) (a0 : Int) (a1 : Int) (a2 : Int) (w : World) (w0 : (Lit.int .u64 a0).wf = true) (w1 : (Lit.int .u64 a1).wf = true) (w2 : (Lit.int .i64 a2).wf = true) :
 Calls Try.prog 10 #[.int .u64 a0, .int .u64 a1, .int .i64 a2] w fun e w' => e = .returned (.bool true) ∧ Below w.heap.size w w' := by
 obtain ⟨k, h⟩ := P a0 a1 a2 w0 w1 w2; refine (tillerlaw06_ProdBack.calls k a0 a1 a2 true w h).mono ?_; rintro e w' ⟨rfl, hd⟩; exact ⟨rfl, hd⟩
end Go.Proofs.Ytbgefpeicmbgiaa.X
end
section
namespace Go.Proofs.Ytbgefpeicmbgiaa
set_option linter.unusedVariables false
set_option linter.unusedSimpArgs false
open Go.RowKit X
theorem qMi_comm (a b : Int) : qMi a b = qMi b a := by unfold qMi; cases pM a <;> cases pM b <;> rfl
theorem bad_comm (a b : Int) : bad a b = bad b a := by
  unfold bad
  rw [Bool.eq_iff_iff, decide_eq_true_iff, decide_eq_true_iff]
  omega
theorem qMul_comm (a b m : Int) : qMul b a m = qMul a b m := by
  unfold qMul qNone
  rw [bad_comm b a, qMi_comm b a, Int.add_comm (pX b), Nat.mul_comm (pS b).toNat]
  have e1 : (3 < pC b ∨ 3 < pC a) = (3 < pC a ∨ 3 < pC b) := propext Or.comm
  have e2 : (pC b = 3 ∨ pC a = 3) = (pC a = 3 ∨ pC b = 3) := propext Or.comm
  have e3 : (pC b = 5 ∨ pC a = 5) = (pC a = 5 ∨ pC b = 5) := propext Or.comm
  simp only [e1, e2, e3]
theorem zero_words (b : Bool) : pC (sg b) = 0 ∧ U (sg b) ∧ pM (sg b) = b ∧ (pS (sg b)).toNat = 0 := by
  refine ⟨by cases b <;> decide, U_sg b, pM_sg b, by cases b <;> decide⟩
theorem qFma_zero (a b m : Int) (c : Bool) (hc : c = qMi a b) : qFma a b (sg c) m = qMul a b m := by
  obtain ⟨z1, _, z3, z4⟩ := zero_words c
  unfold qFma qMul
  rw [z1, z3, z4]
  by_cases n : 3 < pC a ∨ 3 < pC b
  · have nb : ¬ bad a b = true := fun h => by have := (bad_iff a b).1 h; omega
    rw [if_neg nb, if_pos (by omega), if_pos n]
    unfold qNone
    congr 1
    by_cases g : pC a = 5 ∨ pC b = 5
    · rw [if_pos (by omega), if_pos g]
    · rw [if_neg (by omega), if_neg g]
  · rw [if_neg n]
    by_cases nb : bad a b = true
    · rw [if_pos nb, if_pos nb]
    · rw [if_neg nb, if_neg nb, if_neg (by omega)]
      by_cases i : pC a = 3 ∨ pC b = 3
      · rw [if_pos i, if_pos i, if_neg (by omega)]
      · rw [if_neg i, if_neg i, if_neg (by omega)]
        unfold qSumR sSum
        by_cases z : (pS a).toNat * (pS b).toNat = 0
        · rw [if_pos z, if_pos rfl, if_pos hc.symm, z]
        · rw [if_neg z, if_pos rfl]
theorem qMul_one {a : Int} (m : Int) (ha : U a) (h : pC a ≤ 3) : qMul a 4607182418800017408 m = (a, 0) := by
  obtain ⟨o1, o2, o3, o4⟩ := one_parts
  have hm : qMi a 4607182418800017408 = pM a := by unfold qMi; rw [o4]; cases pM a <;> rfl
  have nb : ¬ bad a 4607182418800017408 = true := fun h => by have := (bad_iff a 4607182418800017408).1 h; omega
  unfold qMul
  rw [hm, if_neg (by omega), if_neg nb, o1]
  by_cases i : pC a = 3
  · have e := pA_sg ha
    rw [inf_iff.2 i] at e
    rw [if_pos (.inl i), ← e]
  · have := round_exact ha (by omega) 52 m
    rw [if_neg (by omega), o2, o3, show (4503599627370496 : Int).toNat = 2 ^ 52 from rfl, show pX a + -52 = pX a - ((52 : Nat) : Int) by omega]
    exact this
theorem ProdBack : tillerlaw06_ProdBack.Pure := by
  intro a b m w0 w1 w2
  have ha := U_wf w0
  have hb := U_wf w1
  have hx := bits_xor_U a b ha hb
  have eZ : bits .and .u64 (bits .xor .u64 a b) 9223372036854775808 = sg (qMi a b) := by rw [band_sg _ hx.1, hx.2]; rfl
  have hz := (zero_words (qMi a b)).2.1
  have e1 := qFma_zero a b m (qMi a b) rfl
  have e2 := qFma_zero b a m (qMi a b) (qMi_comm a b)
  rw [qMul_comm a b m] at e2
  refine ⟨13, ?_⟩
  unfold tillerlaw06_ProdBack.f
  rw [eZ, mul_spec 8 m ha hb, Option.bind_some, mul_spec 8 m hb ha, Option.bind_some, fma_spec 5 m ha hb hz, Option.bind_some, fma_spec 5 m hb ha hz, Option.bind_some, qMul_comm a b m, e1, e2, if_pos rfl, if_pos rfl, if_pos rfl, if_pos rfl, if_pos rfl]
  rw [show ((qMul a b m).2 != (qMul a b m).2) = false by simp]
  simp only [tillerlaw06_ProdBack.j0]
  rw [if_neg (by decide), mul_spec 7 m ha (by unfold U; omega), Option.bind_some, bandnot_M a ha, sure06 0]
  by_cases n : pA a > 9218868437227405312
  · rw [if_pos n]
    rfl
  · have hc : pC a ≤ 3 := by have := mt (nan_iff a ha).2 n; omega
    rw [if_neg n, qMul_one m ha hc, if_pos rfl, if_pos rfl]
    rfl
end Go.Proofs.Ytbgefpeicmbgiaa
end
section
namespace Go.Proofs.Ytbgefpeicmbgiaa.Pure
set_option linter.unusedVariables false
set_option linter.unusedSimpArgs false
theorem ProdBack : Go.Proofs.Ytbgefpeicmbgiaa.X.tillerlaw06_ProdBack.Pure := Go.Proofs.Ytbgefpeicmbgiaa.ProdBack
end Go.Proofs.Ytbgefpeicmbgiaa.Pure
end
