import Derived.Test.YtbgefpeicmbgiaaKI4
import Derived.Test.YtbgefpeicmbgiaaKI5
import Derived.Test.YtbgefpeicmbgiaaKI10
section
namespace Go.Proofs.Ytbgefpeicmbgiaa.X
open Go.RowKit Go.Proofs.YtbgefpeicmbgiaaW.PrintWords Go.Proofs.YtbgefpeicmbgiaaW.PrintLast Go.Proofs.YtbgefpeicmbgiaaW.PrintMore
attribute [local go_sem] max2_int min2_int max_two min_two max_three min_three max_four min_four   
set_option linter.unusedVariables false
set_option linter.unusedSimpArgs false
mutual
def tillerlaw11_IntsBack.j0 : Nat → Int → Int → Int → Int → Bool → Option (Bool)
 | 0, _, _, _, _, _ => none
 | k + 1, x0, x5, x6, x7, x46 => if x46 = true then (some false) else (if x6 ≥ 0 then ((ints_ToPlain.f k x7 x5 true).bind fun qk => (if qk.2 = 0 then (if qk.1 = (IntKind.u64.wrap (x6)) then (tillerlaw11_IntsBack.j1 k x0) else (some false)) else (some false))) else (tillerlaw11_IntsBack.j1 k x0))
def tillerlaw11_IntsBack.j1 : Nat → Int → Option (Bool)
 | 0, _ => none
 | k + 1, x0 => (ints_Of.f x0 4).bind fun q05 => ((ints_Of.f x0 3).bind fun qo => ((ints_To.f k q05.1 0 true).bind fun qe => ((ints_To.f k qo.1 0 true).bind fun q7 => (if qe.2 = 0 then (if qe.1 ≤ x0 then (if q7.2 = 1 then ((tillerlaw11_sure.f k).bind fun q4 => (some q4)) else (if q7.1 ≥ x0 then ((tillerlaw11_sure.f k).bind fun q5 => (some q5)) else (some false))) else (some false)) else (some false)))))
end
def tillerlaw11_IntsBack.f (k : Nat) (a0 : Int) (a1 : Int) : Option (Bool) := (ints_Of.f (a0 / 2048) a1).bind fun q8 => ((ints_To.f k q8.1 a1 true).bind fun qf => (if q8.2 = 0 then (if qf.2 = 0 then (tillerlaw11_IntsBack.j0 k a0 a1 (a0 / 2048) q8.1 (qf.1 != (a0 / 2048))) else (tillerlaw11_IntsBack.j0 k a0 a1 (a0 / 2048) q8.1 true)) else (tillerlaw11_IntsBack.j0 k a0 a1 (a0 / 2048) q8.1 true)))
theorem tillerlaw11_IntsBack.mono_l : ∀ k, (∀ y0 y1 y2 y3 y4, LeO (tillerlaw11_IntsBack.j0 k y0 y1 y2 y3 y4) (tillerlaw11_IntsBack.j0 (k + 1) y0 y1 y2 y3 y4)) ∧ (∀ y0, LeO (tillerlaw11_IntsBack.j1 k y0) (tillerlaw11_IntsBack.j1 (k + 1) y0))
 | 0 => ⟨fun _ _ _ _ _ r h => by simp [tillerlaw11_IntsBack.j0] at h, fun _ r h => by simp [tillerlaw11_IntsBack.j1] at h⟩
 | k + 1 => by
  obtain ⟨ih0, ih1⟩ := tillerlaw11_IntsBack.mono_l k; refine ⟨?_, ?_⟩
  · intro y0 y1 y2 y3 y4
    unfold tillerlaw11_IntsBack.j0
    repeat' first
    | (with_reducible exact ih0 _ _ _ _ _)
    | (with_reducible exact ih1 _)
    | (with_reducible exact ints_To.mono _ _ _ _)
    | (with_reducible exact ints_ToPlain.mono _ _ _ _)
    | (with_reducible exact tillerlaw11_sure.mono _)
    | (with_reducible exact LeO.refl _)
    | (with_reducible exact LeO.none _)
    | (with_reducible refine LeO.ite ?_ ?_)
    | (with_reducible refine LeO.bind ?_ (fun _ => ?_))
    | exact ih0 _ _ _ _ _
    | exact ih1 _
    | exact ints_To.mono _ _ _ _
    | exact ints_ToPlain.mono _ _ _ _
    | exact tillerlaw11_sure.mono _
    | exact LeO.none _
    | refine LeO.ite ?_ ?_
    | refine LeO.bind ?_ (fun _ => ?_)
  intro y0
  unfold tillerlaw11_IntsBack.j1
  repeat' first
  | (with_reducible exact ih0 _ _ _ _ _)
  | (with_reducible exact ih1 _)
  | (with_reducible exact ints_To.mono _ _ _ _)
  | (with_reducible exact ints_ToPlain.mono _ _ _ _)
  | (with_reducible exact tillerlaw11_sure.mono _)
  | (with_reducible exact LeO.refl _)
  | (with_reducible exact LeO.none _)
  | (with_reducible refine LeO.ite ?_ ?_)
  | (with_reducible refine LeO.bind ?_ (fun _ => ?_))
  | exact ih0 _ _ _ _ _
  | exact ih1 _
  | exact ints_To.mono _ _ _ _
  | exact ints_ToPlain.mono _ _ _ _
  | exact tillerlaw11_sure.mono _
  | exact LeO.none _
  | refine LeO.ite ?_ ?_
  | refine LeO.bind ?_ (fun _ => ?_)
theorem tillerlaw11_IntsBack.mono : ∀ a0 a1 k, LeO (tillerlaw11_IntsBack.f k a0 a1) (tillerlaw11_IntsBack.f (k + 1) a0 a1) := by
 intro a0 a1 k; obtain ⟨ih0, ih1⟩ := tillerlaw11_IntsBack.mono_l k
 unfold tillerlaw11_IntsBack.f
 repeat' first
  | (with_reducible exact ih0 _ _ _ _ _)
  | (with_reducible exact ih1 _)
  | (with_reducible exact ints_To.mono _ _ _ _)
  | (with_reducible exact ints_ToPlain.mono _ _ _ _)
  | (with_reducible exact tillerlaw11_sure.mono _)
  | (with_reducible exact LeO.refl _)
  | (with_reducible exact LeO.none _)
  | (with_reducible refine LeO.ite ?_ ?_)
  | (with_reducible refine LeO.bind ?_ (fun _ => ?_))
  | exact ih0 _ _ _ _ _
  | exact ih1 _
  | exact ints_To.mono _ _ _ _
  | exact ints_ToPlain.mono _ _ _ _
  | exact tillerlaw11_sure.mono _
  | exact LeO.none _
  | refine LeO.ite ?_ ?_
  | refine LeO.bind ?_ (fun _ => ?_)
set_option maxHeartbeats 8000000 in
set_option maxRecDepth 100000 in
theorem tillerlaw11_IntsBack.calls (k : Nat) (a0 : Int) (a1 : Int) (r : Bool) (w : World) (h : tillerlaw11_IntsBack.f k a0 a1 = some r) :
 Calls Try.prog 6 #[.int .i64 a0, .int .i64 a1] w fun e w' => e = .returned (.bool r) ∧ Below w.heap.size w w' := by
 have HB := Aside0.mk (Below.refl w.heap.size w); have H : ((ints_Of.f (a0 / 2048) a1).bind fun q8 => ((ints_To.f k q8.1 a1 true).bind fun qf => (if q8.2 = 0 then (if qf.2 = 0 then (tillerlaw11_IntsBack.j0 k a0 a1 (a0 / 2048) q8.1 (qf.1 != (a0 / 2048))) else (tillerlaw11_IntsBack.j0 k a0 a1 (a0 / 2048) q8.1 true)) else (tillerlaw11_IntsBack.j0 k a0 a1 (a0 / 2048) q8.1 true)))) = some r := h; clear h; replace H := Option.bind_eq_some_iff.mp H; obtain ⟨⟨q1, qg⟩, A30, H⟩ := H; replace H : ((ints_To.f k q1 a1 true).bind fun qf => (if qg = 0 then (if qf.2 = 0 then (tillerlaw11_IntsBack.j0 k a0 a1 (a0 / 2048) q1 (qf.1 != (a0 / 2048))) else (tillerlaw11_IntsBack.j0 k a0 a1 (a0 / 2048) q1 true)) else (tillerlaw11_IntsBack.j0 k a0 a1 (a0 / 2048) q1 true))) = some r := H; have A3 := Aside0.mk A30; clear A30; replace H := Option.bind_eq_some_iff.mp H; obtain ⟨⟨qp, qh⟩, A40, H⟩ := H; replace H : (if qg = 0 then (if qh = 0 then (tillerlaw11_IntsBack.j0 k a0 a1 (a0 / 2048) q1 (qp != (a0 / 2048))) else (tillerlaw11_IntsBack.j0 k a0 a1 (a0 / 2048) q1 true)) else (tillerlaw11_IntsBack.j0 k a0 a1 (a0 / 2048) q1 true)) = some r := H; have A4 := Aside0.mk A40; clear A40; have HC5 := Aside0.mk H; clear H
 go_enter Try.func6, Try.ntmps6
 go_upto_region 5 with (first | ((with_reducible refine gate_callee (f := 13) rfl ?_); refine goesL_ (some 27) rfl rfl Try.func13 (by kernel_rfl) rfl #[.int .i64 (a0 / 2048), .int .i64 a1] rfl LMq ?_; (with_reducible refine (ints_Of.calls (a0 / 2048) a1 q1 qg _ A3.out).mono ?_); rintro e w6 ⟨rfl, hb⟩; refine ⟨_, rfl, ?_⟩; replace HB := Aside0.mk (below_step (kH HB) hb); (try clear hb); (try clear hb2); (try clear hk); (try clear hi)) | ((with_reducible refine gate_callee (f := 17) rfl ?_); refine goesL_ (some 33) rfl rfl Try.func17 (by kernel_rfl) rfl #[.int .u64 q1, .int .i64 a1, .bool true] rfl LMq ?_; (with_reducible refine (ints_To.calls k q1 a1 true qp qh _ A4.out).mono ?_); rintro e w7 ⟨rfl, hb⟩; refine ⟨_, rfl, ?_⟩; replace HB := Aside0.mk (below_step (kH HB) hb); (try clear hb); (try clear hb2); (try clear hk); (try clear hi)))
 (try simp only [Act.put, List.setIfInBounds_toArray, List.set_cons_zero, List.set_cons_succ])
 go_cut [46] (fun v46 wc => ∃ (kq : Nat) (qn : Bool), v46 = .bool qn ∧ Aside0 (tillerlaw11_IntsBack.j0 kq a0 a1 (a0 / 2048) q1 qn = some r) ∧ Aside0 (kq ≤ k) ∧ Aside0 (Below w.heap.size w wc))
 case first =>
  have H := HC5.out; clear HC5
  by_cases c8 : qg = 0
  · rw [if_pos c8] at H
    have qi : (qg == 0) = true := beq_iff_eq.mpr c8; have qq : (qg != 0) = false := bne_eq_false_iff_eq.mpr c8; clear c8
    (first | rw [qi] | (simp only [i64_w, i32_w]; rw [qi]) | skip)
    by_cases c9 : qh = 0
    · rw [if_pos c9] at H
      have qr : (qh == 0) = true := beq_iff_eq.mpr c9; have qs : (qh != 0) = false := bne_eq_false_iff_eq.mpr c9; clear c9; have H' := Aside0.mk H; clear H
      go_wp2
      go_meet
      case rel => exact ⟨_, ((qp != (a0 / 2048))), RSq, (by first | exact H' | (subst_vars; exact H')), ⟨by first | omega | exact Nat.le_refl _⟩, ⟨kH HB⟩⟩
    rw [if_neg c9] at H
    have qr : (qh == 0) = false := beq_eq_false_iff_ne.mpr c9; have qs : (qh != 0) = true := bne_iff_ne.mpr c9; have H' := Aside0.mk H; clear H
    go_wp2
    go_meet
    case rel => exact ⟨_, (true), RSq, (by first | exact H' | (subst_vars; exact H')), ⟨by first | omega | exact Nat.le_refl _⟩, ⟨kH HB⟩⟩
  rw [if_neg c8] at H
  have qi : (qg == 0) = false := beq_eq_false_iff_ne.mpr c8; have qq : (qg != 0) = true := bne_iff_ne.mpr c8
  (first | rw [qi] | (simp only [i64_w, i32_w]; rw [qi]) | skip)
  have H' := Aside0.mk H; clear H
  go_wp2
  go_meet
  case rel => exact ⟨_, (true), RSq, (by first | exact H' | (subst_vars; exact H')), ⟨by first | omega | exact Nat.le_refl _⟩, ⟨kH HB⟩⟩
 case rest =>
  clear HC5; (try clear c1); (try clear p2); (try clear c6); (try clear p6); (try clear c8); (try clear qi); (try clear qq); (try clear c9); (try clear qr); (try clear qs); obtain ⟨kq, qn, rfl, HA, HJ4, HB⟩ := hcut
  cases kq with
  | zero => exact absurd HA.out (by simp [tillerlaw11_IntsBack.j0])
  | succ kj4 =>
   have H := HA.out; clear HA
   simp only [tillerlaw11_IntsBack.j0] at H
   by_cases c10 : qn = true
   · subst c10
     have H1 : (some false) = some r := by rw [if_pos rfl] at H; exact H
     clear H; have H := H1; clear H1; obtain rfl := Option.some.inj H
     go_wp2
     go_ret
     exact ⟨by first | rfl | (simp [errW_none, errW_some] <;> rfl) | (simp [*, errW_none, errW_some] <;> rfl), kH HB⟩
   replace c10 := Bool.eq_false_iff.mpr c10; subst c10
   have H1 : (if (a0 / 2048) ≥ 0 then ((ints_ToPlain.f kj4 q1 a1 true).bind fun qk => (if qk.2 = 0 then (if qk.1 = (IntKind.u64.wrap ((a0 / 2048))) then (tillerlaw11_IntsBack.j1 kj4 a0) else (some false)) else (some false))) else (tillerlaw11_IntsBack.j1 kj4 a0)) = some r := by rw [if_neg (show ¬ (false = true) by decide)] at H; exact H
   clear H; have H := H1; clear H1; have qt := Aside0.mk H; clear H
   go_upto_if 48 with (fail)
   go_cut [] (fun wc => ∃ (kq : Nat), Aside0 (tillerlaw11_IntsBack.j1 kq a0 = some r) ∧ Aside0 (kq ≤ kj4) ∧ Aside0 (Below w.heap.size w wc))
   case first =>
    have H := qt.out; clear qt
    by_cases c12 : (a0 / 2048) ≥ 0
    · rw [if_pos c12] at H
      have qj : decide (0 ≤ (a0 / 2048)) = true := decide_eq_true c12; clear c12
      (first | rw [qj] | (simp only [i64_w, i32_w]; rw [qj]) | skip)
      replace H := Option.bind_eq_some_iff.mp H; obtain ⟨⟨qb, qc⟩, qu, H⟩ := H; replace H : (if qc = 0 then (if qb = (IntKind.u64.wrap ((a0 / 2048))) then (tillerlaw11_IntsBack.j1 kj4 a0) else (some false)) else (some false)) = some r := H; have A13 := Aside0.mk qu; clear qu
      by_cases c14 : qc = 0
      · rw [if_pos c14] at H
        have qv : (qc == 0) = true := beq_iff_eq.mpr c14; have qw : (qc != 0) = false := bne_eq_false_iff_eq.mpr c14; clear c14
        by_cases c15 : qb = (IntKind.u64.wrap ((a0 / 2048)))
        · rw [if_pos c15] at H
          have qx : (qb == (IntKind.u64.wrap ((a0 / 2048)))) = true := beq_iff_eq.mpr c15; have qy : (qb != (IntKind.u64.wrap ((a0 / 2048)))) = false := bne_eq_false_iff_eq.mpr c15; clear c15; have H' := Aside0.mk H; clear H
          go_wp2_with (first | ((with_reducible refine gate_callee (f := 19) rfl ?_); refine goesL_ (some 52) rfl rfl Try.func19 (by kernel_rfl) rfl #[.int .u64 q1, .int .i64 a1, .bool true] rfl LMq ?_; (with_reducible refine (ints_ToPlain.calls kj4 q1 a1 true qb qc _ A13.out).mono ?_); rintro e w16 ⟨rfl, hb⟩; refine ⟨_, rfl, ?_⟩; replace HB := Aside0.mk (below_step (kH HB) hb); (try clear hb); (try clear hb2); (try clear hk); (try clear hi)))
          go_meet
          case rel => exact ⟨_, (by first | exact H' | (subst_vars; exact H')), ⟨by have := HJ4.out; first | omega | exact Nat.le_refl _⟩, ⟨kH HB⟩⟩
        rw [if_neg c15] at H
        have qx : (qb == (IntKind.u64.wrap ((a0 / 2048)))) = false := beq_eq_false_iff_ne.mpr c15; have qy : (qb != (IntKind.u64.wrap ((a0 / 2048)))) = true := bne_iff_ne.mpr c15; obtain rfl := Option.some.inj H
        go_wp2_with (first | ((with_reducible refine gate_callee (f := 19) rfl ?_); refine goesL_ (some 52) rfl rfl Try.func19 (by kernel_rfl) rfl #[.int .u64 q1, .int .i64 a1, .bool true] rfl LMq ?_; (with_reducible refine (ints_ToPlain.calls kj4 q1 a1 true qb qc _ A13.out).mono ?_); rintro e w17 ⟨rfl, hb⟩; refine ⟨_, rfl, ?_⟩; replace HB := Aside0.mk (below_step (kH HB) hb); (try clear hb); (try clear hb2); (try clear hk); (try clear hi)))
        go_ret
        exact ⟨by first | rfl | (simp [errW_none, errW_some] <;> rfl) | (simp [*, errW_none, errW_some] <;> rfl), kH HB⟩
      rw [if_neg c14] at H
      have qv : (qc == 0) = false := beq_eq_false_iff_ne.mpr c14; have qw : (qc != 0) = true := bne_iff_ne.mpr c14; obtain rfl := Option.some.inj H
      go_wp2_with (first | ((with_reducible refine gate_callee (f := 19) rfl ?_); refine goesL_ (some 52) rfl rfl Try.func19 (by kernel_rfl) rfl #[.int .u64 q1, .int .i64 a1, .bool true] rfl LMq ?_; (with_reducible refine (ints_ToPlain.calls kj4 q1 a1 true qb qc _ A13.out).mono ?_); rintro e w18 ⟨rfl, hb⟩; refine ⟨_, rfl, ?_⟩; replace HB := Aside0.mk (below_step (kH HB) hb); (try clear hb); (try clear hb2); (try clear hk); (try clear hi)))
      go_ret
      exact ⟨by first | rfl | (simp [errW_none, errW_some] <;> rfl) | (simp [*, errW_none, errW_some] <;> rfl), kH HB⟩
    rw [if_neg c12] at H
    have qj : decide (0 ≤ (a0 / 2048)) = false := decide_eq_false c12; clear c12
    (first | rw [qj] | (simp only [i64_w, i32_w]; rw [qj]) | skip)
    have H' := Aside0.mk H; clear H
    go_wp2
    go_meet
    case rel => exact ⟨_, (by first | exact H' | (subst_vars; exact H')), ⟨by have := HJ4.out; first | omega | exact Nat.le_refl _⟩, ⟨kH HB⟩⟩
   case rest =>
    clear qt; (try clear c1); (try clear p2); (try clear c6); (try clear p6); (try clear c8); (try clear qi); (try clear qq); (try clear c9); (try clear qr); (try clear qs); (try clear c10); (try clear c12); (try clear qj); (try clear c13); (try clear c14); (try clear qv); (try clear qw); (try clear c15); (try clear qx); (try clear qy); (try clear c17); (try clear p2); (try clear p6); obtain ⟨kq, HA, HJ10, HB⟩ := hcut
    cases kq with
    | zero => exact absurd HA.out (by simp [tillerlaw11_IntsBack.j1])
    | succ q0 =>
     have H := HA.out; clear HA
     simp only [tillerlaw11_IntsBack.j1] at H
     replace H := Option.bind_eq_some_iff.mp H; obtain ⟨⟨q2, ql⟩, qz, H⟩ := H; replace H : ((ints_Of.f a0 3).bind fun qo => ((ints_To.f q0 q2 0 true).bind fun qe => ((ints_To.f q0 qo.1 0 true).bind fun q7 => (if qe.2 = 0 then (if qe.1 ≤ a0 then (if q7.2 = 1 then ((tillerlaw11_sure.f q0).bind fun q4 => (some q4)) else (if q7.1 ≥ a0 then ((tillerlaw11_sure.f q0).bind fun q5 => (some q5)) else (some false))) else (some false)) else (some false))))) = some r := H; have A19 := Aside0.mk qz; clear qz; replace H := Option.bind_eq_some_iff.mp H; obtain ⟨⟨q3, qm⟩, q00, H⟩ := H; replace H : ((ints_To.f q0 q2 0 true).bind fun qe => ((ints_To.f q0 q3 0 true).bind fun q7 => (if qe.2 = 0 then (if qe.1 ≤ a0 then (if q7.2 = 1 then ((tillerlaw11_sure.f q0).bind fun q4 => (some q4)) else (if q7.1 ≥ a0 then ((tillerlaw11_sure.f q0).bind fun q5 => (some q5)) else (some false))) else (some false)) else (some false)))) = some r := H; have A20 := Aside0.mk q00; clear q00; replace H := Option.bind_eq_some_iff.mp H; obtain ⟨⟨qa, q6⟩, q01, H⟩ := H; replace H : ((ints_To.f q0 q3 0 true).bind fun q7 => (if q6 = 0 then (if qa ≤ a0 then (if q7.2 = 1 then ((tillerlaw11_sure.f q0).bind fun q4 => (some q4)) else (if q7.1 ≥ a0 then ((tillerlaw11_sure.f q0).bind fun q5 => (some q5)) else (some false))) else (some false)) else (some false))) = some r := H; have A21 := Aside0.mk q01; clear q01; replace H := Option.bind_eq_some_iff.mp H; obtain ⟨⟨qd, q9⟩, q02, H⟩ := H; replace H : (if q6 = 0 then (if qa ≤ a0 then (if q9 = 1 then ((tillerlaw11_sure.f q0).bind fun q4 => (some q4)) else (if qd ≥ a0 then ((tillerlaw11_sure.f q0).bind fun q5 => (some q5)) else (some false))) else (some false)) else (some false)) = some r := H; have A22 := Aside0.mk q02; clear q02
     by_cases c23 : q6 = 0
     · rw [if_pos c23] at H
       have q06 : (q6 == 0) = true := beq_iff_eq.mpr c23; have q07 : (q6 != 0) = false := bne_eq_false_iff_eq.mpr c23; clear c23
       by_cases c24 : qa ≤ a0
       · rw [if_pos c24] at H
         have q08 : decide (qa ≤ a0) = true := decide_eq_true c24; clear c24
         by_cases c25 : q9 = 1
         · rw [if_pos c25] at H
           have q09 : (q9 == 1) = true := beq_iff_eq.mpr c25; have q0a : (q9 != 1) = false := bne_eq_false_iff_eq.mpr c25; clear c25; replace H := Option.bind_eq_some_iff.mp H; obtain ⟨q4, q03, H⟩ := H; replace H : (some q4) = some r := H; have A26 := Aside0.mk q03; clear q03; obtain rfl := Option.some.inj H
           go_wp2_with (first | ((with_reducible refine gate_callee (f := 13) rfl ?_); refine goesL_ (some 65) rfl rfl Try.func13 (by kernel_rfl) rfl #[.int .i64 a0, .int .i64 4] rfl LMq ?_; (with_reducible refine (ints_Of.calls a0 4 q2 ql _ A19.out).mono ?_); rintro e w27 ⟨rfl, hb⟩; refine ⟨_, rfl, ?_⟩; replace HB := Aside0.mk (below_step (kH HB) hb); (try clear hb); (try clear hb2); (try clear hk); (try clear hi)) | ((with_reducible refine gate_callee (f := 13) rfl ?_); refine goesL_ (some 70) rfl rfl Try.func13 (by kernel_rfl) rfl #[.int .i64 a0, .int .i64 3] rfl LMq ?_; (with_reducible refine (ints_Of.calls a0 3 q3 qm _ A20.out).mono ?_); rintro e w28 ⟨rfl, hb⟩; refine ⟨_, rfl, ?_⟩; replace HB := Aside0.mk (below_step (kH HB) hb); (try clear hb); (try clear hb2); (try clear hk); (try clear hi)) | ((with_reducible refine gate_callee (f := 17) rfl ?_); refine goesL_ (some 75) rfl rfl Try.func17 (by kernel_rfl) rfl #[.int .u64 q2, .int .i64 0, .bool true] rfl LMq ?_; (with_reducible refine (ints_To.calls q0 q2 0 true qa q6 _ A21.out).mono ?_); rintro e w29 ⟨rfl, hb⟩; refine ⟨_, rfl, ?_⟩; replace HB := Aside0.mk (below_step (kH HB) hb); (try clear hb); (try clear hb2); (try clear hk); (try clear hi)) | ((with_reducible refine gate_callee (f := 17) rfl ?_); refine goesL_ (some 80) rfl rfl Try.func17 (by kernel_rfl) rfl #[.int .u64 q3, .int .i64 0, .bool true] rfl LMq ?_; (with_reducible refine (ints_To.calls q0 q3 0 true qd q9 _ A22.out).mono ?_); rintro e w30 ⟨rfl, hb⟩; refine ⟨_, rfl, ?_⟩; replace HB := Aside0.mk (below_step (kH HB) hb); (try clear hb); (try clear hb2); (try clear hk); (try clear hi)) | (go_at_call 16; (with_reducible refine (tillerlaw11_sure.calls q0  q4 _ A26.out).mono ?_); rintro e w31 ⟨rfl, hb⟩; replace HB := Aside0.mk (below_step (kH HB) hb); (try clear hb); (try clear hb2); (try clear hk); (try clear hi)))
           go_ret
           exact ⟨by first | rfl | (simp [errW_none, errW_some] <;> rfl) | (simp [*, errW_none, errW_some] <;> rfl), kH HB⟩
         rw [if_neg c25] at H
         have q09 : (q9 == 1) = false := beq_eq_false_iff_ne.mpr c25; have q0a : (q9 != 1) = true := bne_iff_ne.mpr c25
         by_cases c32 : qd ≥ a0
         · rw [if_pos c32] at H
           have q0b : decide (a0 ≤ qd) = true := decide_eq_true c32; clear c32; replace H := Option.bind_eq_some_iff.mp H; obtain ⟨q5, q04, H⟩ := H; replace H : (some q5) = some r := H; have A33 := Aside0.mk q04; clear q04; obtain rfl := Option.some.inj H
           go_wp2_with (first | ((with_reducible refine gate_callee (f := 13) rfl ?_); refine goesL_ (some 65) rfl rfl Try.func13 (by kernel_rfl) rfl #[.int .i64 a0, .int .i64 4] rfl LMq ?_; (with_reducible refine (ints_Of.calls a0 4 q2 ql _ A19.out).mono ?_); rintro e w34 ⟨rfl, hb⟩; refine ⟨_, rfl, ?_⟩; replace HB := Aside0.mk (below_step (kH HB) hb); (try clear hb); (try clear hb2); (try clear hk); (try clear hi)) | ((with_reducible refine gate_callee (f := 13) rfl ?_); refine goesL_ (some 70) rfl rfl Try.func13 (by kernel_rfl) rfl #[.int .i64 a0, .int .i64 3] rfl LMq ?_; (with_reducible refine (ints_Of.calls a0 3 q3 qm _ A20.out).mono ?_); rintro e w35 ⟨rfl, hb⟩; refine ⟨_, rfl, ?_⟩; replace HB := Aside0.mk (below_step (kH HB) hb); (try clear hb); (try clear hb2); (try clear hk); (try clear hi)) | ((with_reducible refine gate_callee (f := 17) rfl ?_); refine goesL_ (some 75) rfl rfl Try.func17 (by kernel_rfl) rfl #[.int .u64 q2, .int .i64 0, .bool true] rfl LMq ?_; (with_reducible refine (ints_To.calls q0 q2 0 true qa q6 _ A21.out).mono ?_); rintro e w36 ⟨rfl, hb⟩; refine ⟨_, rfl, ?_⟩; replace HB := Aside0.mk (below_step (kH HB) hb); (try clear hb); (try clear hb2); (try clear hk); (try clear hi)) | ((with_reducible refine gate_callee (f := 17) rfl ?_); refine goesL_ (some 80) rfl rfl Try.func17 (by kernel_rfl) rfl #[.int .u64 q3, .int .i64 0, .bool true] rfl LMq ?_; (with_reducible refine (ints_To.calls q0 q3 0 true qd q9 _ A22.out).mono ?_); rintro e w37 ⟨rfl, hb⟩; refine ⟨_, rfl, ?_⟩; replace HB := Aside0.mk (below_step (kH HB) hb); (try clear hb); (try clear hb2); (try clear hk); (try clear hi)) | (go_at_call 16; (with_reducible refine (tillerlaw11_sure.calls q0  q5 _ A33.out).mono ?_); rintro e w38 ⟨rfl, hb⟩; replace HB := Aside0.mk (below_step (kH HB) hb); (try clear hb); (try clear hb2); (try clear hk); (try clear hi)))
           go_ret
           exact ⟨by first | rfl | (simp [errW_none, errW_some] <;> rfl) | (simp [*, errW_none, errW_some] <;> rfl), kH HB⟩
         rw [if_neg c32] at H
         have q0b : decide (a0 ≤ qd) = false := decide_eq_false c32; clear c32; obtain rfl := Option.some.inj H
         go_wp2_with (first | ((with_reducible refine gate_callee (f := 13) rfl ?_); refine goesL_ (some 65) rfl rfl Try.func13 (by kernel_rfl) rfl #[.int .i64 a0, .int .i64 4] rfl LMq ?_; (with_reducible refine (ints_Of.calls a0 4 q2 ql _ A19.out).mono ?_); rintro e w39 ⟨rfl, hb⟩; refine ⟨_, rfl, ?_⟩; replace HB := Aside0.mk (below_step (kH HB) hb); (try clear hb); (try clear hb2); (try clear hk); (try clear hi)) | ((with_reducible refine gate_callee (f := 13) rfl ?_); refine goesL_ (some 70) rfl rfl Try.func13 (by kernel_rfl) rfl #[.int .i64 a0, .int .i64 3] rfl LMq ?_; (with_reducible refine (ints_Of.calls a0 3 q3 qm _ A20.out).mono ?_); rintro e w40 ⟨rfl, hb⟩; refine ⟨_, rfl, ?_⟩; replace HB := Aside0.mk (below_step (kH HB) hb); (try clear hb); (try clear hb2); (try clear hk); (try clear hi)) | ((with_reducible refine gate_callee (f := 17) rfl ?_); refine goesL_ (some 75) rfl rfl Try.func17 (by kernel_rfl) rfl #[.int .u64 q2, .int .i64 0, .bool true] rfl LMq ?_; (with_reducible refine (ints_To.calls q0 q2 0 true qa q6 _ A21.out).mono ?_); rintro e w41 ⟨rfl, hb⟩; refine ⟨_, rfl, ?_⟩; replace HB := Aside0.mk (below_step (kH HB) hb); (try clear hb); (try clear hb2); (try clear hk); (try clear hi)) | ((with_reducible refine gate_callee (f := 17) rfl ?_); refine goesL_ (some 80) rfl rfl Try.func17 (by kernel_rfl) rfl #[.int .u64 q3, .int .i64 0, .bool true] rfl LMq ?_; (with_reducible refine (ints_To.calls q0 q3 0 true qd q9 _ A22.out).mono ?_); rintro e w42 ⟨rfl, hb⟩; refine ⟨_, rfl, ?_⟩; replace HB := Aside0.mk (below_step (kH HB) hb); (try clear hb); (try clear hb2); (try clear hk); (try clear hi)))
         go_ret
         exact ⟨by first | rfl | (simp [errW_none, errW_some] <;> rfl) | (simp [*, errW_none, errW_some] <;> rfl), kH HB⟩
       rw [if_neg c24] at H
       have q08 : decide (qa ≤ a0) = false := decide_eq_false c24; clear c24; obtain rfl := Option.some.inj H
       go_wp2_with (first | ((with_reducible refine gate_callee (f := 13) rfl ?_); refine goesL_ (some 65) rfl rfl Try.func13 (by kernel_rfl) rfl #[.int .i64 a0, .int .i64 4] rfl LMq ?_; (with_reducible refine (ints_Of.calls a0 4 q2 ql _ A19.out).mono ?_); rintro e w43 ⟨rfl, hb⟩; refine ⟨_, rfl, ?_⟩; replace HB := Aside0.mk (below_step (kH HB) hb); (try clear hb); (try clear hb2); (try clear hk); (try clear hi)) | ((with_reducible refine gate_callee (f := 13) rfl ?_); refine goesL_ (some 70) rfl rfl Try.func13 (by kernel_rfl) rfl #[.int .i64 a0, .int .i64 3] rfl LMq ?_; (with_reducible refine (ints_Of.calls a0 3 q3 qm _ A20.out).mono ?_); rintro e w44 ⟨rfl, hb⟩; refine ⟨_, rfl, ?_⟩; replace HB := Aside0.mk (below_step (kH HB) hb); (try clear hb); (try clear hb2); (try clear hk); (try clear hi)) | ((with_reducible refine gate_callee (f := 17) rfl ?_); refine goesL_ (some 75) rfl rfl Try.func17 (by kernel_rfl) rfl #[.int .u64 q2, .int .i64 0, .bool true] rfl LMq ?_; (with_reducible refine (ints_To.calls q0 q2 0 true qa q6 _ A21.out).mono ?_); rintro e w45 ⟨rfl, hb⟩; refine ⟨_, rfl, ?_⟩; replace HB := Aside0.mk (below_step (kH HB) hb); (try clear hb); (try clear hb2); (try clear hk); (try clear hi)) | ((with_reducible refine gate_callee (f := 17) rfl ?_); refine goesL_ (some 80) rfl rfl Try.func17 (by kernel_rfl) rfl #[.int .u64 q3, .int .i64 0, .bool true] rfl LMq ?_; (with_reducible refine (ints_To.calls q0 q3 0 true qd q9 _ A22.out).mono ?_); rintro e w46 ⟨rfl, hb⟩; refine ⟨_, rfl, ?_⟩; replace HB := Aside0.mk (below_step (kH HB) hb); (try clear hb); (try clear hb2); (try clear hk); (try clear hi)))
       go_ret
       exact ⟨by first | rfl | (simp [errW_none, errW_some] <;> rfl) | (simp [*, errW_none, errW_some] <;> rfl), kH HB⟩
     rw [if_neg c23] at H
     have q06 : (q6 == 0) = false := beq_eq_false_iff_ne.mpr c23; have q07 : (q6 != 0) = true := bne_iff_ne.mpr c23; obtain rfl := Option.some.inj H
     go_wp2_with (first | ((with_reducible refine gate_callee (f := 13) rfl ?_); refine goesL_ (some 65) rfl rfl Try.func13 (by kernel_rfl) rfl #[.int .i64 a0, .int .i64 4] rfl LMq ?_; (with_reducible refine (ints_Of.calls a0 4 q2 ql _ A19.out).mono ?_); rintro e w47 ⟨rfl, hb⟩; refine ⟨_, rfl, ?_⟩; replace HB := Aside0.mk (below_step (kH HB) hb); (try clear hb); (try clear hb2); (try clear hk); (try clear hi)) | ((with_reducible refine gate_callee (f := 13) rfl ?_); refine goesL_ (some 70) rfl rfl Try.func13 (by kernel_rfl) rfl #[.int .i64 a0, .int .i64 3] rfl LMq ?_; (with_reducible refine (ints_Of.calls a0 3 q3 qm _ A20.out).mono ?_); rintro e w48 ⟨rfl, hb⟩; refine ⟨_, rfl, ?_⟩; replace HB := Aside0.mk (below_step (kH HB) hb); (try clear hb); (try clear hb2); (try clear hk); (try clear hi)) | ((with_reducible refine gate_callee (f := 17) rfl ?_); refine goesL_ (some 75) rfl rfl Try.func17 (by kernel_rfl) rfl #[.int .u64 q2, .int .i64 0, .bool true] rfl LMq ?_; (with_reducible refine (ints_To.calls q0 q2 0 true qa q6 _ A21.out).mono ?_); rintro e w49 ⟨rfl, hb⟩; refine ⟨_, rfl, ?_⟩; replace HB := Aside0.mk (below_step (kH HB) hb); (try clear hb); (try clear hb2); (try clear hk); (try clear hi)) | ((with_reducible refine gate_callee (f := 17) rfl ?_); refine goesL_ (some 80) rfl rfl Try.func17 (by kernel_rfl) rfl #[.int .u64 q3, .int .i64 0, .bool true] rfl LMq ?_; (with_reducible refine (ints_To.calls q0 q3 0 true qd q9 _ A22.out).mono ?_); rintro e w50 ⟨rfl, hb⟩; refine ⟨_, rfl, ?_⟩; replace HB := Aside0.mk (below_step (kH HB) hb); (try clear hb); (try clear hb2); (try clear hk); (try clear hi)))
     go_ret
     exact ⟨by first | rfl | (simp [errW_none, errW_some] <;> rfl) | (simp [*, errW_none, errW_some] <;> rfl), kH HB⟩
def tillerlaw11_IntsBack.Pure : Prop := ∀ (a0 : Int) (a1 : Int), (Lit.int .i64 a0).wf = true → (Lit.int .i64 a1).wf = true → ∃ k, tillerlaw11_IntsBack.f k a0 a1 = some true
theorem tillerlaw11_IntsBack.walk (P : tillerlaw11_IntsBack.Pure) (a0 : Int) (a1 : Int) (w : World) (w0 : (Lit.int .i64 a0).wf = true) (w1 : (Lit.int .i64 a1).wf = true) :
 Calls Try.prog 6 #[.int .i64 a0, .int .i64 a1] w fun e w' => e = .returned (.bool true) ∧ Below w.heap.size w w' := by
 obtain ⟨k, h⟩ := P a0 a1 w0 w1; refine (tillerlaw11_IntsBack.calls k a0 a1 true w h).mono ?_; rintro e w' ⟨rfl, hd⟩; exact ⟨rfl, hd⟩
end Go.Proofs.Ytbgefpeicmbgiaa.X
end
section
namespace Go.Proofs.Ytbgefpeicmbgiaa
set_option linter.unusedVariables false
set_option linter.unusedSimpArgs false
open Go.RowKit X Go.Proofs.YtbgefpeicmbgiaaW.PrintWords
theorem of_small {k : Int} (m : Int) (hk : k.natAbs < 9007199254740992) {N : Nat} (hN : N = 1073) : ∃ p, 0 ≤ p ∧ p < 9218868437227405312 ∧ pV p = k.natAbs * 2 ^ (N + 1) ∧ rRound (decide (k < 0)) 0 k.natAbs m = (p + sg (decide (k < 0)), 0) := by
  obtain ⟨p, R, p0, p1, p2, p3, p4, p5, _, _, _⟩ := whole_round (decide (k < 0)) (A := k.natAbs) m (by omega) hN
  obtain ⟨e1, e2⟩ := p5 hk
  subst e1
  exact ⟨p, p0, p1, p3, Prod.ext p4 e2⟩
theorem sgn_abs (k : Int) : sgn (decide (k < 0)) ((k.natAbs : Nat) : Int) = k := by
  unfold sgn
  by_cases c : k < 0
  · rw [decide_eq_true c, if_pos rfl]; omega
  · rw [decide_eq_false c, if_neg (by decide)]; omega
theorem to_small {k : Int} (m : Int) (hk : k.natAbs < 9007199254740992) {p : Int} (p0 : 0 ≤ p) (p1 : p < 9218868437227405312) {N : Nat} (hN : N = 1073) (hV : pV p = k.natAbs * 2 ^ (N + 1)) (j : Nat) :
    ints_To.f (j + 5) (p + sg (decide (k < 0))) m true = some (k, 0) := by
  rw [to_eq j m true (sgU p0 (by omega) _), nAm_whole p0 p1 hN hV]
  rw [if_neg (by split <;> omega)]
  dsimp only
  rw [sgn_abs]
theorem to_fits {p : Int} (m : Int) (p0 : 0 ≤ p) (p1 : p < 9218868437227405312) {N R : Nat} (hN : N = 1073) (hV : pV p = R * 2 ^ (N + 1)) (mi : Bool) (h : (R : Int) ≤ if mi = true then 9223372036854775808 else 9223372036854775807) (j : Nat) :
    ints_To.f (j + 5) (p + sg mi) m true = some (sgn mi R, 0) := by
  rw [to_eq j m true (sgU p0 (by omega) _), nAm_whole p0 p1 hN hV, if_neg (by omega)]
theorem to_great {p : Int} (m : Int) (p0 : 0 ≤ p) (p1 : p < 9218868437227405312) {N R : Nat} (hN : N = 1073) (hV : pV p = R * 2 ^ (N + 1)) (mi : Bool) (h : (if mi = true then 9223372036854775808 else 9223372036854775807) < (R : Int)) (j : Nat) :
    ∃ x, ints_To.f (j + 5) (p + sg mi) m true = some (x, 1) := by
  rw [to_eq j m true (sgU p0 (by omega) _), nAm_whole p0 p1 hN hV, if_pos h]
  exact ⟨_, rfl⟩
theorem plain_fits {p : Int} (m : Int) (p0 : 0 ≤ p) (p1 : p < 9218868437227405312) {N R : Nat} (hN : N = 1073) (hV : pV p = R * 2 ^ (N + 1)) (h : (R : Int) ≤ 18446744073709551615) (j : Nat) :
    ints_ToPlain.f (j + 5) (p + sg false) m true = some ((R : Int), 0) := by
  rw [toPlain_eq j m true (sgU p0 (by omega) _), nAm_whole p0 p1 hN hV, if_neg (by rw [if_neg (by decide)]; omega)]
theorem back11_j1 (n : Int) (hn : I64 n) (j : Nat) : tillerlaw11_IntsBack.j1 (j + 6) n = some true := by
  obtain ⟨N, hN⟩ : ∃ N : Nat, N = 1073 := ⟨_, rfl⟩
  have hA : n.natAbs < 18446744073709551616 := by unfold I64 at hn; omega
  have hA2 : n.natAbs ≤ 9223372036854775808 := by unfold I64 at hn; omega
  obtain ⟨p, R, p0, p1, p2, p3, p4, _, d1, d2, d3⟩ := whole_round (decide (n < 0)) 4 hA hN
  obtain ⟨q, S, q0, q1, q2, q3, q4, _, u1, u2, u3⟩ := whole_round (decide (n < 0)) 3 hA hN
  have hR := d3 hA2
  have hS := u3 hA2
  have hs := sure11 j
  have o4 := of_eq 4 hn
  have o3 := of_eq 3 hn
  unfold I64 at hn
  simp only [tillerlaw11_IntsBack.j1]
  rw [o4, Option.bind_some, o3, Option.bind_some, p4, q4, hs]
  by_cases c : n < 0
  · rw [decide_eq_true c] at d2 u1 ⊢
    have h1 := d2 (.inr ⟨rfl, rfl⟩)
    have h2 := u1 (.inr ⟨rfl, rfl⟩)
    have s1 : sgn true (R : Int) ≤ n := by unfold sgn; rw [if_pos rfl]; omega
    have s2 : sgn true (S : Int) ≥ n := by unfold sgn; rw [if_pos rfl]; omega
    rw [to_fits 0 p0 p1 hN p3 true (by rw [if_pos rfl]; omega) j, Option.bind_some, to_fits 0 q0 q1 hN q3 true (by rw [if_pos rfl]; omega) j, Option.bind_some, if_pos rfl, if_pos s1, if_neg (show ¬ (0 : Int) = 1 by decide), if_pos s2]
    rfl
  · rw [decide_eq_false c] at d1 u2 ⊢
    have h1 := d1 (.inl ⟨rfl, rfl⟩)
    have h2 := u2 (.inl ⟨rfl, rfl⟩)
    have s1 : sgn false (R : Int) ≤ n := by unfold sgn; rw [if_neg (by decide)]; omega
    have s2 : sgn false (S : Int) ≥ n := by unfold sgn; rw [if_neg (by decide)]; omega
    rw [to_fits 0 p0 p1 hN p3 false (by rw [if_neg (by decide)]; omega) j, Option.bind_some]
    by_cases g : 9223372036854775807 < (S : Int)
    · obtain ⟨x, hx⟩ := to_great 0 q0 q1 hN q3 false (by rw [if_neg (by decide)]; exact g) j
      rw [hx, Option.bind_some, if_pos rfl, if_pos s1, if_pos rfl]
      rfl
    · rw [to_fits 0 q0 q1 hN q3 false (by rw [if_neg (by decide)]; omega) j, Option.bind_some, if_pos rfl, if_pos s1, if_neg (show ¬ (0 : Int) = 1 by decide), if_pos s2]
      rfl
theorem IntsBack : tillerlaw11_IntsBack.Pure := by
  intro n m w0 w1
  have hn := I64_wf w0
  obtain ⟨N, hN⟩ : ∃ N : Nat, N = 1073 := ⟨_, rfl⟩
  have hk : (n / 2048).natAbs < 9007199254740992 := by unfold I64 at hn; omega
  have hkI : I64 (n / 2048) := by unfold I64 at *; omega
  obtain ⟨p, p0, p1, p2, p3⟩ := of_small m hk hN
  refine ⟨7, ?_⟩
  unfold tillerlaw11_IntsBack.f
  rw [of_eq m hkI, Option.bind_some, p3]
  dsimp only
  rw [to_small m hk p0 p1 hN p2 2, Option.bind_some, if_pos rfl, if_pos rfl]
  dsimp only
  rw [show (n / 2048 != n / 2048) = false by simp]
  simp only [tillerlaw11_IntsBack.j0]
  rw [if_neg (by decide)]
  by_cases c : n / 2048 ≥ 0
  · rw [if_pos c, decide_eq_false (show ¬ n / 2048 < 0 by omega), plain_fits m p0 p1 hN p2 (by omega) 1, Option.bind_some, if_pos rfl, if_pos (show (((n / 2048).natAbs : Nat) : Int) = IntKind.u64.wrap (n / 2048) by rw [IntKind.wrap_u64]; unfold I64 at hkI; omega)]
    exact back11_j1 n hn 0
  · rw [if_neg c]
    exact back11_j1 n hn 0
end Go.Proofs.Ytbgefpeicmbgiaa
end
