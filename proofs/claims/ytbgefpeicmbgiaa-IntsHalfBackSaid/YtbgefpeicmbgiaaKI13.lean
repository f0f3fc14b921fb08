import Derived.Test.YtbgefpeicmbgiaaKI4
import Derived.Test.YtbgefpeicmbgiaaKI5
import Derived.Test.YtbgefpeicmbgiaaKI10
import Derived.Test.YtbgefpeicmbgiaaKI11
section
namespace Go.Proofs.Ytbgefpeicmbgiaa.X
open Go.RowKit Go.Proofs.YtbgefpeicmbgiaaW.PrintWords Go.Proofs.YtbgefpeicmbgiaaW.PrintLast Go.Proofs.YtbgefpeicmbgiaaW.PrintMore
attribute [local go_sem] max2_int min2_int max_two min_two max_three min_three max_four min_four   
set_option linter.unusedVariables false
set_option linter.unusedSimpArgs false
def tillerlaw11_IntsHalfBack.j0 : Nat → Int → Int → Int → Bool → Option (Bool)
 | 0, _, _, _, _ => none
 | k + 1, x0, x5, x6, x54 => if x54 = true then (some false) else ((ints_ToPlainHalf.f k x6 x5 true).bind fun q5 => (if x0 < 0 then (if q5.1 = 0 then (if q5.2 = 1 then ((tillerlaw11_sure.f k).bind fun q7 => (some q7)) else (some false)) else (some false)) else (if q5.1 = ((x0) % 4294967296) then (if q5.2 = 0 then ((tillerlaw11_sure.f k).bind fun q8 => (some q8)) else (some false)) else (some false))))
def tillerlaw11_IntsHalfBack.f (k : Nat) (a0 : Int) (a1 : Int) : Option (Bool) := (ints_Of.f (wrap64 (a0)) a1).bind fun q3 => ((ints_ToHalf.f k q3.1 a1 true).bind fun q9 => ((ints_To.f k q3.1 a1 true).bind fun q4 => (if q3.2 = 0 then (if q9.2 = 0 then (if q4.2 = 0 then (if q9.1 = a0 then (tillerlaw11_IntsHalfBack.j0 k a0 a1 q3.1 (q4.1 != (wrap64 (a0)))) else (tillerlaw11_IntsHalfBack.j0 k a0 a1 q3.1 true)) else (tillerlaw11_IntsHalfBack.j0 k a0 a1 q3.1 true)) else (tillerlaw11_IntsHalfBack.j0 k a0 a1 q3.1 true)) else (tillerlaw11_IntsHalfBack.j0 k a0 a1 q3.1 true))))
theorem tillerlaw11_IntsHalfBack.mono_l : ∀ k, (∀ y0 y1 y2 y3, LeO (tillerlaw11_IntsHalfBack.j0 k y0 y1 y2 y3) (tillerlaw11_IntsHalfBack.j0 (k + 1) y0 y1 y2 y3))
 | 0 => fun _ _ _ _ r h => by simp [tillerlaw11_IntsHalfBack.j0] at h
 | k + 1 => by
  have ih0 := tillerlaw11_IntsHalfBack.mono_l k
  · intro y0 y1 y2 y3
    unfold tillerlaw11_IntsHalfBack.j0
    repeat' first
    | (with_reducible exact ih0 _ _ _ _)
    | (with_reducible exact ints_To.mono _ _ _ _)
    | (with_reducible exact ints_ToHalf.mono _ _ _ _)
    | (with_reducible exact ints_ToPlainHalf.mono _ _ _ _)
    | (with_reducible exact tillerlaw11_sure.mono _)
    | (with_reducible exact LeO.refl _)
    | (with_reducible exact LeO.none _)
    | (with_reducible refine LeO.ite ?_ ?_)
    | (with_reducible refine LeO.bind ?_ (fun _ => ?_))
    | exact ih0 _ _ _ _
    | exact ints_To.mono _ _ _ _
    | exact ints_ToHalf.mono _ _ _ _
    | exact ints_ToPlainHalf.mono _ _ _ _
    | exact tillerlaw11_sure.mono _
    | exact LeO.none _
    | refine LeO.ite ?_ ?_
    | refine LeO.bind ?_ (fun _ => ?_)
theorem tillerlaw11_IntsHalfBack.mono : ∀ a0 a1 k, LeO (tillerlaw11_IntsHalfBack.f k a0 a1) (tillerlaw11_IntsHalfBack.f (k + 1) a0 a1) := by
 intro a0 a1 k; have ih0 := tillerlaw11_IntsHalfBack.mono_l k
 unfold tillerlaw11_IntsHalfBack.f
 repeat' first
  | (with_reducible exact ih0 _ _ _ _)
  | (with_reducible exact ints_To.mono _ _ _ _)
  | (with_reducible exact ints_ToHalf.mono _ _ _ _)
  | (with_reducible exact ints_ToPlainHalf.mono _ _ _ _)
  | (with_reducible exact tillerlaw11_sure.mono _)
  | (with_reducible exact LeO.refl _)
  | (with_reducible exact LeO.none _)
  | (with_reducible refine LeO.ite ?_ ?_)
  | (with_reducible refine LeO.bind ?_ (fun _ => ?_))
  | exact ih0 _ _ _ _
  | exact ints_To.mono _ _ _ _
  | exact ints_ToHalf.mono _ _ _ _
  | exact ints_ToPlainHalf.mono _ _ _ _
  | exact tillerlaw11_sure.mono _
  | exact LeO.none _
  | refine LeO.ite ?_ ?_
  | refine LeO.bind ?_ (fun _ => ?_)
set_option maxHeartbeats 8000000 in
set_option maxRecDepth 100000 in
theorem tillerlaw11_IntsHalfBack.calls (k : Nat) (a0 : Int) (a1 : Int) (r : Bool) (w : World) (h : tillerlaw11_IntsHalfBack.f k a0 a1 = some r) :
 Calls Try.prog 7 #[.int .i32 a0, .int .i64 a1] w fun e w' => e = .returned (.bool r) ∧ Below w.heap.size w w' := by
 have HB := Aside0.mk (Below.refl w.heap.size w); have H : ((ints_Of.f (wrap64 (a0)) a1).bind fun q3 => ((ints_ToHalf.f k q3.1 a1 true).bind fun q9 => ((ints_To.f k q3.1 a1 true).bind fun q4 => (if q3.2 = 0 then (if q9.2 = 0 then (if q4.2 = 0 then (if q9.1 = a0 then (tillerlaw11_IntsHalfBack.j0 k a0 a1 q3.1 (q4.1 != (wrap64 (a0)))) else (tillerlaw11_IntsHalfBack.j0 k a0 a1 q3.1 true)) else (tillerlaw11_IntsHalfBack.j0 k a0 a1 q3.1 true)) else (tillerlaw11_IntsHalfBack.j0 k a0 a1 q3.1 true)) else (tillerlaw11_IntsHalfBack.j0 k a0 a1 q3.1 true))))) = some r := h; clear h; replace H := Option.bind_eq_some_iff.mp H; obtain ⟨⟨q0, q6⟩, A30, H⟩ := H; replace H : ((ints_ToHalf.f k q0 a1 true).bind fun q9 => ((ints_To.f k q0 a1 true).bind fun q4 => (if q6 = 0 then (if q9.2 = 0 then (if q4.2 = 0 then (if q9.1 = a0 then (tillerlaw11_IntsHalfBack.j0 k a0 a1 q0 (q4.1 != (wrap64 (a0)))) else (tillerlaw11_IntsHalfBack.j0 k a0 a1 q0 true)) else (tillerlaw11_IntsHalfBack.j0 k a0 a1 q0 true)) else (tillerlaw11_IntsHalfBack.j0 k a0 a1 q0 true)) else (tillerlaw11_IntsHalfBack.j0 k a0 a1 q0 true)))) = some r := H; have A3 := Aside0.mk A30; clear A30; replace H := Option.bind_eq_some_iff.mp H; obtain ⟨⟨qa, qb⟩, A40, H⟩ := H; replace H : ((ints_To.f k q0 a1 true).bind fun q4 => (if q6 = 0 then (if qb = 0 then (if q4.2 = 0 then (if qa = a0 then (tillerlaw11_IntsHalfBack.j0 k a0 a1 q0 (q4.1 != (wrap64 (a0)))) else (tillerlaw11_IntsHalfBack.j0 k a0 a1 q0 true)) else (tillerlaw11_IntsHalfBack.j0 k a0 a1 q0 true)) else (tillerlaw11_IntsHalfBack.j0 k a0 a1 q0 true)) else (tillerlaw11_IntsHalfBack.j0 k a0 a1 q0 true))) = some r := H; have A4 := Aside0.mk A40; clear A40; replace H := Option.bind_eq_some_iff.mp H; obtain ⟨⟨qf, qc⟩, A50, H⟩ := H; replace H : (if q6 = 0 then (if qb = 0 then (if qc = 0 then (if qa = a0 then (tillerlaw11_IntsHalfBack.j0 k a0 a1 q0 (qf != (wrap64 (a0)))) else (tillerlaw11_IntsHalfBack.j0 k a0 a1 q0 true)) else (tillerlaw11_IntsHalfBack.j0 k a0 a1 q0 true)) else (tillerlaw11_IntsHalfBack.j0 k a0 a1 q0 true)) else (tillerlaw11_IntsHalfBack.j0 k a0 a1 q0 true)) = some r := H; have A5 := Aside0.mk A50; clear A50; have HC6 := Aside0.mk H; clear H
 go_enter Try.func7, Try.ntmps7
 go_upto_region 5 with (first | ((with_reducible refine gate_callee (f := 13) rfl ?_); refine goesL_ (some 19) rfl rfl Try.func13 (by kernel_rfl) rfl #[.int .i64 (wrap64 (a0)), .int .i64 a1] rfl LMq ?_; (with_reducible refine (ints_Of.calls (wrap64 (a0)) a1 q0 q6 _ A3.out).mono ?_); rintro e w7 ⟨rfl, hb⟩; refine ⟨_, rfl, ?_⟩; replace HB := Aside0.mk (below_step (kH HB) hb); (try clear hb); (try clear hb2); (try clear hk); (try clear hi)) | ((with_reducible refine gate_callee (f := 21) rfl ?_); refine goesL_ (some 25) rfl rfl Try.func21 (by kernel_rfl) rfl #[.int .u64 q0, .int .i64 a1, .bool true] rfl LMq ?_; (with_reducible refine (ints_ToHalf.calls k q0 a1 true qa qb _ A4.out).mono ?_); rintro e w8 ⟨rfl, hb⟩; refine ⟨_, rfl, ?_⟩; replace HB := Aside0.mk (below_step (kH HB) hb); (try clear hb); (try clear hb2); (try clear hk); (try clear hi)) | ((with_reducible refine gate_callee (f := 17) rfl ?_); refine goesL_ (some 31) rfl rfl Try.func17 (by kernel_rfl) rfl #[.int .u64 q0, .int .i64 a1, .bool true] rfl LMq ?_; (with_reducible refine (ints_To.calls k q0 a1 true qf qc _ A5.out).mono ?_); rintro e w9 ⟨rfl, hb⟩; refine ⟨_, rfl, ?_⟩; replace HB := Aside0.mk (below_step (kH HB) hb); (try clear hb); (try clear hb2); (try clear hk); (try clear hi)))
 (try simp only [Act.put, List.setIfInBounds_toArray, List.set_cons_zero, List.set_cons_succ])
 go_cut [54] (fun v54 wc => ∃ (kq : Nat) (qe : Bool), v54 = .bool qe ∧ Aside0 (tillerlaw11_IntsHalfBack.j0 kq a0 a1 q0 qe = some r) ∧ Aside0 (kq ≤ k) ∧ Aside0 (Below w.heap.size w wc))
 case first =>
  have H := HC6.out; clear HC6
  by_cases c10 : q6 = 0
  · rw [if_pos c10] at H
    have qd : (q6 == 0) = true := beq_iff_eq.mpr c10; have qg : (q6 != 0) = false := bne_eq_false_iff_eq.mpr c10; clear c10
    (first | rw [qd] | (simp only [i64_w, i32_w]; rw [qd]) | skip)
    by_cases c11 : qb = 0
    · rw [if_pos c11] at H
      have qh : (qb == 0) = true := beq_iff_eq.mpr c11; have qi : (qb != 0) = false := bne_eq_false_iff_eq.mpr c11; clear c11
      by_cases c12 : qc = 0
      · rw [if_pos c12] at H
        have qj : (qc == 0) = true := beq_iff_eq.mpr c12; have qk : (qc != 0) = false := bne_eq_false_iff_eq.mpr c12; clear c12
        by_cases c13 : qa = a0
        · rw [if_pos c13] at H
          have ql : (qa == a0) = true := beq_iff_eq.mpr c13; have qm : (qa != a0) = false := bne_eq_false_iff_eq.mpr c13; clear c13; have H' := Aside0.mk H; clear H
          go_wp2
          go_meet
          case rel => exact ⟨_, ((qf != (wrap64 (a0)))), RSq, (by first | exact H' | (subst_vars; exact H')), ⟨by first | omega | exact Nat.le_refl _⟩, ⟨kH HB⟩⟩
        rw [if_neg c13] at H
        have ql : (qa == a0) = false := beq_eq_false_iff_ne.mpr c13; have qm : (qa != a0) = true := bne_iff_ne.mpr c13; have H' := Aside0.mk H; clear H
        go_wp2
        go_meet
        case rel => exact ⟨_, (true), RSq, (by first | exact H' | (subst_vars; exact H')), ⟨by first | omega | exact Nat.le_refl _⟩, ⟨kH HB⟩⟩
      rw [if_neg c12] at H
      have qj : (qc == 0) = false := beq_eq_false_iff_ne.mpr c12; have qk : (qc != 0) = true := bne_iff_ne.mpr c12; have H' := Aside0.mk H; clear H
      go_wp2
      go_meet
      case rel => exact ⟨_, (true), RSq, (by first | exact H' | (subst_vars; exact H')), ⟨by first | omega | exact Nat.le_refl _⟩, ⟨kH HB⟩⟩
    rw [if_neg c11] at H
    have qh : (qb == 0) = false := beq_eq_false_iff_ne.mpr c11; have qi : (qb != 0) = true := bne_iff_ne.mpr c11; have H' := Aside0.mk H; clear H
    go_wp2
    go_meet
    case rel => exact ⟨_, (true), RSq, (by first | exact H' | (subst_vars; exact H')), ⟨by first | omega | exact Nat.le_refl _⟩, ⟨kH HB⟩⟩
  rw [if_neg c10] at H
  have qd : (q6 == 0) = false := beq_eq_false_iff_ne.mpr c10; have qg : (q6 != 0) = true := bne_iff_ne.mpr c10
  (first | rw [qd] | (simp only [i64_w, i32_w]; rw [qd]) | skip)
  have H' := Aside0.mk H; clear H
  go_wp2
  go_meet
  case rel => exact ⟨_, (true), RSq, (by first | exact H' | (subst_vars; exact H')), ⟨by first | omega | exact Nat.le_refl _⟩, ⟨kH HB⟩⟩
 case rest =>
  clear HC6; (try clear c1); (try clear c2); (try clear p2); (try clear p6); (try clear c7); (try clear c10); (try clear qd); (try clear qg); (try clear c11); (try clear qh); (try clear qi); (try clear c12); (try clear qj); (try clear qk); (try clear c13); (try clear ql); (try clear qm); obtain ⟨kq, qe, rfl, HA, HJ5, HB⟩ := hcut
  cases kq with
  | zero => exact absurd HA.out (by simp [tillerlaw11_IntsHalfBack.j0])
  | succ kj5 =>
   have H := HA.out; clear HA
   simp only [tillerlaw11_IntsHalfBack.j0] at H
   by_cases c14 : qe = true
   · subst c14
     have H1 : (some false) = some r := by rw [if_pos rfl] at H; exact H
     clear H; have H := H1; clear H1; obtain rfl := Option.some.inj H
     go_wp2
     go_ret
     exact ⟨by first | rfl | (simp [errW_none, errW_some] <;> rfl) | (simp [*, errW_none, errW_some] <;> rfl), kH HB⟩
   replace c14 := Bool.eq_false_iff.mpr c14; subst c14
   have H1 : ((ints_ToPlainHalf.f kj5 q0 a1 true).bind fun q5 => (if a0 < 0 then (if q5.1 = 0 then (if q5.2 = 1 then ((tillerlaw11_sure.f kj5).bind fun q7 => (some q7)) else (some false)) else (some false)) else (if q5.1 = ((a0) % 4294967296) then (if q5.2 = 0 then ((tillerlaw11_sure.f kj5).bind fun q8 => (some q8)) else (some false)) else (some false)))) = some r := by rw [if_neg (show ¬ (false = true) by decide)] at H; exact H
   clear H; have H := H1; clear H1; replace H := Option.bind_eq_some_iff.mp H; obtain ⟨⟨q1, q2⟩, qn, H⟩ := H; replace H : (if a0 < 0 then (if q1 = 0 then (if q2 = 1 then ((tillerlaw11_sure.f kj5).bind fun q7 => (some q7)) else (some false)) else (some false)) else (if q1 = ((a0) % 4294967296) then (if q2 = 0 then ((tillerlaw11_sure.f kj5).bind fun q8 => (some q8)) else (some false)) else (some false))) = some r := H; have A15 := Aside0.mk qn; clear qn
   by_cases c16 : a0 < 0
   · rw [if_pos c16] at H
     have qq : decide (a0 < 0) = true := decide_eq_true c16; clear c16
     by_cases c17 : q1 = 0
     · rw [if_pos c17] at H
       have qr : (q1 == 0) = true := beq_iff_eq.mpr c17; have qs : (q1 != 0) = false := bne_eq_false_iff_eq.mpr c17; clear c17
       by_cases c18 : q2 = 1
       · rw [if_pos c18] at H
         have qt : (q2 == 1) = true := beq_iff_eq.mpr c18; have qu : (q2 != 1) = false := bne_eq_false_iff_eq.mpr c18; clear c18; replace H := Option.bind_eq_some_iff.mp H; obtain ⟨q7, qo, H⟩ := H; replace H : (some q7) = some r := H; have A19 := Aside0.mk qo; clear qo; obtain rfl := Option.some.inj H
         go_wp2_with (first | ((with_reducible refine gate_callee (f := 22) rfl ?_); refine goesL_ (some 58) rfl rfl Try.func22 (by kernel_rfl) rfl #[.int .u64 q0, .int .i64 a1, .bool true] rfl LMq ?_; (with_reducible refine (ints_ToPlainHalf.calls kj5 q0 a1 true q1 q2 _ A15.out).mono ?_); rintro e w20 ⟨rfl, hb⟩; refine ⟨_, rfl, ?_⟩; replace HB := Aside0.mk (below_step (kH HB) hb); (try clear hb); (try clear hb2); (try clear hk); (try clear hi)) | (go_at_call 16; (with_reducible refine (tillerlaw11_sure.calls kj5  q7 _ A19.out).mono ?_); rintro e w21 ⟨rfl, hb⟩; replace HB := Aside0.mk (below_step (kH HB) hb); (try clear hb); (try clear hb2); (try clear hk); (try clear hi)))
         go_ret
         exact ⟨by first | rfl | (simp [errW_none, errW_some] <;> rfl) | (simp [*, errW_none, errW_some] <;> rfl), kH HB⟩
       rw [if_neg c18] at H
       have qt : (q2 == 1) = false := beq_eq_false_iff_ne.mpr c18; have qu : (q2 != 1) = true := bne_iff_ne.mpr c18; obtain rfl := Option.some.inj H
       go_wp2_with (first | ((with_reducible refine gate_callee (f := 22) rfl ?_); refine goesL_ (some 58) rfl rfl Try.func22 (by kernel_rfl) rfl #[.int .u64 q0, .int .i64 a1, .bool true] rfl LMq ?_; (with_reducible refine (ints_ToPlainHalf.calls kj5 q0 a1 true q1 q2 _ A15.out).mono ?_); rintro e w22 ⟨rfl, hb⟩; refine ⟨_, rfl, ?_⟩; replace HB := Aside0.mk (below_step (kH HB) hb); (try clear hb); (try clear hb2); (try clear hk); (try clear hi)))
       go_ret
       exact ⟨by first | rfl | (simp [errW_none, errW_some] <;> rfl) | (simp [*, errW_none, errW_some] <;> rfl), kH HB⟩
     rw [if_neg c17] at H
     have qr : (q1 == 0) = false := beq_eq_false_iff_ne.mpr c17; have qs : (q1 != 0) = true := bne_iff_ne.mpr c17; obtain rfl := Option.some.inj H
     go_wp2_with (first | ((with_reducible refine gate_callee (f := 22) rfl ?_); refine goesL_ (some 58) rfl rfl Try.func22 (by kernel_rfl) rfl #[.int .u64 q0, .int .i64 a1, .bool true] rfl LMq ?_; (with_reducible refine (ints_ToPlainHalf.calls kj5 q0 a1 true q1 q2 _ A15.out).mono ?_); rintro e w23 ⟨rfl, hb⟩; refine ⟨_, rfl, ?_⟩; replace HB := Aside0.mk (below_step (kH HB) hb); (try clear hb); (try clear hb2); (try clear hk); (try clear hi)))
     go_ret
     exact ⟨by first | rfl | (simp [errW_none, errW_some] <;> rfl) | (simp [*, errW_none, errW_some] <;> rfl), kH HB⟩
   rw [if_neg c16] at H
   have qq : decide (a0 < 0) = false := decide_eq_false c16; clear c16
   by_cases c24 : q1 = ((a0) % 4294967296)
   · rw [if_pos c24] at H
     have qv : (q1 == ((a0) % 4294967296)) = true := beq_iff_eq.mpr c24; have qw : (q1 != ((a0) % 4294967296)) = false := bne_eq_false_iff_eq.mpr c24; clear c24
     by_cases c25 : q2 = 0
     · rw [if_pos c25] at H
       have qx : (q2 == 0) = true := beq_iff_eq.mpr c25; have qy : (q2 != 0) = false := bne_eq_false_iff_eq.mpr c25; clear c25; replace H := Option.bind_eq_some_iff.mp H; obtain ⟨q8, qp, H⟩ := H; replace H : (some q8) = some r := H; have A26 := Aside0.mk qp; clear qp; obtain rfl := Option.some.inj H
       go_wp2_with (first | ((with_reducible refine gate_callee (f := 22) rfl ?_); refine goesL_ (some 58) rfl rfl Try.func22 (by kernel_rfl) rfl #[.int .u64 q0, .int .i64 a1, .bool true] rfl LMq ?_; (with_reducible refine (ints_ToPlainHalf.calls kj5 q0 a1 true q1 q2 _ A15.out).mono ?_); rintro e w27 ⟨rfl, hb⟩; refine ⟨_, rfl, ?_⟩; replace HB := Aside0.mk (below_step (kH HB) hb); (try clear hb); (try clear hb2); (try clear hk); (try clear hi)) | (go_at_call 16; (with_reducible refine (tillerlaw11_sure.calls kj5  q8 _ A26.out).mono ?_); rintro e w28 ⟨rfl, hb⟩; replace HB := Aside0.mk (below_step (kH HB) hb); (try clear hb); (try clear hb2); (try clear hk); (try clear hi)))
       go_ret
       exact ⟨by first | rfl | (simp [errW_none, errW_some] <;> rfl) | (simp [*, errW_none, errW_some] <;> rfl), kH HB⟩
     rw [if_neg c25] at H
     have qx : (q2 == 0) = false := beq_eq_false_iff_ne.mpr c25; have qy : (q2 != 0) = true := bne_iff_ne.mpr c25; obtain rfl := Option.some.inj H
     go_wp2_with (first | ((with_reducible refine gate_callee (f := 22) rfl ?_); refine goesL_ (some 58) rfl rfl Try.func22 (by kernel_rfl) rfl #[.int .u64 q0, .int .i64 a1, .bool true] rfl LMq ?_; (with_reducible refine (ints_ToPlainHalf.calls kj5 q0 a1 true q1 q2 _ A15.out).mono ?_); rintro e w29 ⟨rfl, hb⟩; refine ⟨_, rfl, ?_⟩; replace HB := Aside0.mk (below_step (kH HB) hb); (try clear hb); (try clear hb2); (try clear hk); (try clear hi)))
     go_ret
     exact ⟨by first | rfl | (simp [errW_none, errW_some] <;> rfl) | (simp [*, errW_none, errW_some] <;> rfl), kH HB⟩
   rw [if_neg c24] at H
   have qv : (q1 == ((a0) % 4294967296)) = false := beq_eq_false_iff_ne.mpr c24; have qw : (q1 != ((a0) % 4294967296)) = true := bne_iff_ne.mpr c24; obtain rfl := Option.some.inj H
   go_wp2_with (first | ((with_reducible refine gate_callee (f := 22) rfl ?_); refine goesL_ (some 58) rfl rfl Try.func22 (by kernel_rfl) rfl #[.int .u64 q0, .int .i64 a1, .bool true] rfl LMq ?_; (with_reducible refine (ints_ToPlainHalf.calls kj5 q0 a1 true q1 q2 _ A15.out).mono ?_); rintro e w30 ⟨rfl, hb⟩; refine ⟨_, rfl, ?_⟩; replace HB := Aside0.mk (below_step (kH HB) hb); (try clear hb); (try clear hb2); (try clear hk); (try clear hi)))
   go_ret
   exact ⟨by first | rfl | (simp [errW_none, errW_some] <;> rfl) | (simp [*, errW_none, errW_some] <;> rfl), kH HB⟩
def tillerlaw11_IntsHalfBack.Pure : Prop := ∀ (a0 : Int) (a1 : Int), (Lit.int .i32 a0).wf = true → (Lit.int .i64 a1).wf = true → ∃ k, tillerlaw11_IntsHalfBack.f k a0 a1 = some true
theorem tillerlaw11_IntsHalfBack.walk (P : tillerlaw11_IntsHalfBack.Pure) (a0 : Int) (a1 : Int) (w : World) (w0 : (Lit.int .i32 a0).wf = true) (w1 : (Lit.int .i64 a1).wf = true) :
 Calls Try.prog 7 #[.int .i32 a0, .int .i64 a1] w fun e w' => e = .returned (.bool true) ∧ Below w.heap.size w w' := by
 obtain ⟨k, h⟩ := P a0 a1 w0 w1; refine (tillerlaw11_IntsHalfBack.calls k a0 a1 true w h).mono ?_; rintro e w' ⟨rfl, hd⟩; exact ⟨rfl, hd⟩
end Go.Proofs.Ytbgefpeicmbgiaa.X
end
section
namespace Go.Proofs.Ytbgefpeicmbgiaa
set_option linter.unusedVariables false
set_option linter.unusedSimpArgs false
open Go.RowKit X Go.Proofs.YtbgefpeicmbgiaaW.PrintWords
theorem half_fits {p : Int} (m : Int) (p0 : 0 ≤ p) (p1 : p < 9218868437227405312) {N R : Nat} (hN : N = 1073) (hV : pV p = R * 2 ^ (N + 1)) (mi : Bool) (h : (R : Int) ≤ if mi = true then 2147483648 else 2147483647) (j : Nat) :
    ints_ToHalf.f (j + 5) (p + sg mi) m true = some (sgn mi R, 0) := by
  rw [toHalf_eq j m true (sgU p0 (by omega) _), nAm_whole p0 p1 hN hV, if_neg (by omega)]
theorem plainHalf_fits {p : Int} (m : Int) (p0 : 0 ≤ p) (p1 : p < 9218868437227405312) {N R : Nat} (hN : N = 1073) (hV : pV p = R * 2 ^ (N + 1)) (h : (R : Int) ≤ 4294967295) (j : Nat) :
    ints_ToPlainHalf.f (j + 5) (p + sg false) m true = some ((R : Int), 0) := by
  rw [toPlainHalf_eq j m true (sgU p0 (by omega) _), nAm_whole p0 p1 hN hV, if_neg (by rw [if_neg (by decide)]; omega)]
theorem plainHalf_minus {p : Int} (m : Int) (p0 : 0 ≤ p) (p1 : p < 9218868437227405312) {N R : Nat} (hN : N = 1073) (hV : pV p = R * 2 ^ (N + 1)) (h : 0 < (R : Int)) (j : Nat) :
    ints_ToPlainHalf.f (j + 5) (p + sg true) m true = some (0, 1) := by
  rw [toPlainHalf_eq j m true (sgU p0 (by omega) _), nAm_whole p0 p1 hN hV, if_pos (by rw [if_pos rfl]; omega), if_pos rfl]
theorem IntsHalfBack : tillerlaw11_IntsHalfBack.Pure := by
  intro n m w0 w1
  have hn : -2147483648 ≤ n ∧ n ≤ 2147483647 := by
    unfold Lit.wf at w0
    simp only [Bool.and_eq_true, decide_eq_true_eq] at w0
    exact w0
  obtain ⟨N, hN⟩ : ∃ N : Nat, N = 1073 := ⟨_, rfl⟩
  have hk : n.natAbs < 9007199254740992 := by omega
  have ew : wrap64 n = n := by unfold wrap64; omega
  obtain ⟨p, p0, p1, p2, p3⟩ := of_small m hk hN
  have hb : ((n.natAbs : Nat) : Int) ≤ if decide (n < 0) = true then 2147483648 else 2147483647 := by
    by_cases c : n < 0
    · rw [decide_eq_true c, if_pos rfl]; omega
    · rw [decide_eq_false c, if_neg (by decide)]; omega
  refine ⟨6, ?_⟩
  unfold tillerlaw11_IntsHalfBack.f
  rw [ew, of_eq m (by unfold I64; omega), Option.bind_some, p3]
  dsimp only
  rw [half_fits m p0 p1 hN p2 _ hb 1, Option.bind_some, to_small m hk p0 p1 hN p2 1, Option.bind_some, sgn_abs, if_pos rfl, if_pos rfl, if_pos rfl, if_pos rfl]
  dsimp only
  rw [show (n != n) = false by simp]
  simp only [tillerlaw11_IntsHalfBack.j0]
  rw [if_neg (by decide), sure11 0]
  by_cases c : n < 0
  · rw [decide_eq_true c, plainHalf_minus m p0 p1 hN p2 (by omega) 0, Option.bind_some, if_pos c, if_pos rfl, if_pos rfl]
    rfl
  · rw [decide_eq_false c, plainHalf_fits m p0 p1 hN p2 (by omega) 0, Option.bind_some, if_neg c, if_pos (show ((n.natAbs : Nat) : Int) = n % 4294967296 by omega), if_pos rfl]
    rfl
end Go.Proofs.Ytbgefpeicmbgiaa
end
section
namespace Go.Proofs.Ytbgefpeicmbgiaa.Pure
set_option linter.unusedVariables false
set_option linter.unusedSimpArgs false
theorem IntsHalfBack : Go.Proofs.Ytbgefpeicmbgiaa.X.tillerlaw11_IntsHalfBack.Pure := Go.Proofs.Ytbgefpeicmbgiaa.IntsHalfBack
end Go.Proofs.Ytbgefpeicmbgiaa.Pure
end
