import Derived.Test.YtfnkmedajchbgaaKU4
import Derived.Test.YtfnkmedajchbgaaKUXtillerref04To
import Derived.Test.YtfnkmedajchbgaaKUXtillerref04Round
namespace Go.Proofs.Ytfnkmedajchbgaa.X
open Go.RowKit Go.Proofs.YtfnkmedajchbgaaW.PrintWords Go.Proofs.YtfnkmedajchbgaaW.PrintLast Go.Proofs.YtfnkmedajchbgaaW.PrintMore
attribute [local go_sem] max2_int min2_int max_two min_two max_three min_three max_four min_four   
set_option linter.unusedVariables false
set_option linter.unusedSimpArgs false
mutual
def r8_Round.j0 : Nat → Int → Int → Bool → Bool → Option (Int × Int)
 | 0, _, _, _, _ => none
 | k + 1, x0, x1, x2, x27 => if x27 = true then (r8_Round.j1 k x0 0 x2) else (r8_Round.j1 k x0 x1 x2)
def r8_Round.j1 : Nat → Int → Int → Bool → Option (Int × Int)
 | 0, _, _, _ => none
 | k + 1, x0, x1, x2 => (r4_Pattern.f k x0).bind fun qn => (if qn.2.1 ≥ 0 then (some (x0, 0)) else ((r4_To.f k qn.1 qn.2.1 qn.2.2 0 x1).bind fun qo => ((r4_Round.f k qn.1 0 qo.1 0).bind fun qa => (if qo.2 = true then (if x2 = true then (some (qa.1, 16)) else (some (qa.1, 0))) else (some (qa.1, 0))))))
end
def r8_Round.f (k : Nat) (a0 : Int) (a1 : Int) (a2 : Bool) : Option (Int × Int) := (r3_NaN.f a0).bind fun qm => (if qm = true then ((r5_None.f a0 a0).bind fun qc => (some (9221120237041090560, qc))) else ((r3_Abs.f a0).bind fun q7 => (if q7 = 9218868437227405312 then (some (a0, 0)) else (if a1 < 0 then (r8_Round.j0 k a0 a1 a2 true) else (r8_Round.j0 k a0 a1 a2 (decide (a1 > 4)))))))
theorem r8_Round.mono_l : ∀ k, (∀ y0 y1 y2 y3, LeO (r8_Round.j0 k y0 y1 y2 y3) (r8_Round.j0 (k + 1) y0 y1 y2 y3)) ∧ (∀ y0 y1 y2, LeO (r8_Round.j1 k y0 y1 y2) (r8_Round.j1 (k + 1) y0 y1 y2))
 | 0 => ⟨fun _ _ _ _ r h => by simp [r8_Round.j0] at h, fun _ _ _ r h => by simp [r8_Round.j1] at h⟩
 | k + 1 => by
  obtain ⟨ih0, ih1⟩ := r8_Round.mono_l k; refine ⟨?_, ?_⟩
  · intro y0 y1 y2 y3
    unfold r8_Round.j0
    repeat' first
    | (with_reducible exact ih0 _ _ _ _)
    | (with_reducible exact ih1 _ _ _)
    | (with_reducible exact r4_Pattern.mono _ _)
    | (with_reducible exact r4_Round.mono _ _ _ _ _)
    | (with_reducible exact r4_To.mono _ _ _ _ _ _)
    | (with_reducible exact LeO.refl _)
    | (with_reducible exact LeO.none _)
    | (with_reducible refine LeO.ite ?_ ?_)
    | (with_reducible refine LeO.bind ?_ (fun _ => ?_))
    | exact ih0 _ _ _ _
    | exact ih1 _ _ _
    | exact r4_Pattern.mono _ _
    | exact r4_Round.mono _ _ _ _ _
    | exact r4_To.mono _ _ _ _ _ _
    | exact LeO.none _
    | refine LeO.ite ?_ ?_
    | refine LeO.bind ?_ (fun _ => ?_)
  intro y0 y1 y2
  unfold r8_Round.j1
  repeat' first
  | (with_reducible exact ih0 _ _ _ _)
  | (with_reducible exact ih1 _ _ _)
  | (with_reducible exact r4_Pattern.mono _ _)
  | (with_reducible exact r4_Round.mono _ _ _ _ _)
  | (with_reducible exact r4_To.mono _ _ _ _ _ _)
  | (with_reducible exact LeO.refl _)
  | (with_reducible exact LeO.none _)
  | (with_reducible refine LeO.ite ?_ ?_)
  | (with_reducible refine LeO.bind ?_ (fun _ => ?_))
  | exact ih0 _ _ _ _
  | exact ih1 _ _ _
  | exact r4_Pattern.mono _ _
  | exact r4_Round.mono _ _ _ _ _
  | exact r4_To.mono _ _ _ _ _ _
  | exact LeO.none _
  | refine LeO.ite ?_ ?_
  | refine LeO.bind ?_ (fun _ => ?_)
theorem r8_Round.mono : ∀ a0 a1 a2 k, LeO (r8_Round.f k a0 a1 a2) (r8_Round.f (k + 1) a0 a1 a2) := by
 intro a0 a1 a2 k; obtain ⟨ih0, ih1⟩ := r8_Round.mono_l k
 unfold r8_Round.f
 repeat' first
  | (with_reducible exact ih0 _ _ _ _)
  | (with_reducible exact ih1 _ _ _)
  | (with_reducible exact r4_Pattern.mono _ _)
  | (with_reducible exact r4_Round.mono _ _ _ _ _)
  | (with_reducible exact r4_To.mono _ _ _ _ _ _)
  | (with_reducible exact LeO.refl _)
  | (with_reducible exact LeO.none _)
  | (with_reducible refine LeO.ite ?_ ?_)
  | (with_reducible refine LeO.bind ?_ (fun _ => ?_))
  | exact ih0 _ _ _ _
  | exact ih1 _ _ _
  | exact r4_Pattern.mono _ _
  | exact r4_Round.mono _ _ _ _ _
  | exact r4_To.mono _ _ _ _ _ _
  | exact LeO.none _
  | refine LeO.ite ?_ ?_
  | refine LeO.bind ?_ (fun _ => ?_)
set_option maxHeartbeats 8000000 in
set_option maxRecDepth 100000 in
theorem r8_Round.calls (k : Nat) (a0 : Int) (a1 : Int) (a2 : Bool) (r1 : Int) (r2 : Int) (w : World) (h : r8_Round.f k a0 a1 a2 = some (r1, r2)) :
 Calls Try.prog 22 #[.int .u64 a0, .int .i64 a1, .bool a2] w fun e w' => e = .returned (.tuple #[.int .u64 r1, .int .i64 r2]) ∧ Below w.heap.size w w' := by
 have hu66 := Try.underlying66; have HB := Aside0.mk (Below.refl w.heap.size w); have H : ((r3_NaN.f a0).bind fun qm => (if qm = true then ((r5_None.f a0 a0).bind fun qc => (some (9221120237041090560, qc))) else ((r3_Abs.f a0).bind fun q7 => (if q7 = 9218868437227405312 then (some (a0, 0)) else (if a1 < 0 then (r8_Round.j0 k a0 a1 a2 true) else (r8_Round.j0 k a0 a1 a2 (decide (a1 > 4)))))))) = some (r1, r2) := h; clear h; replace H := Option.bind_eq_some_iff.mp H; obtain ⟨qm, A40, H⟩ := H; replace H : (if qm = true then ((r5_None.f a0 a0).bind fun qc => (some (9221120237041090560, qc))) else ((r3_Abs.f a0).bind fun q7 => (if q7 = 9218868437227405312 then (some (a0, 0)) else (if a1 < 0 then (r8_Round.j0 k a0 a1 a2 true) else (r8_Round.j0 k a0 a1 a2 (decide (a1 > 4))))))) = some (r1, r2) := H; have A4 := Aside0.mk A40; clear A40
 by_cases c5 : qm = true
 · subst c5
   have H1 : ((r5_None.f a0 a0).bind fun qc => (some (9221120237041090560, qc))) = some (r1, r2) := by rw [if_pos rfl] at H; exact H
   clear H; have H := H1; clear H1; replace H := Option.bind_eq_some_iff.mp H; obtain ⟨qc, A60, H⟩ := H; replace H : (some (9221120237041090560, qc)) = some (r1, r2) := H; have A6 := Aside0.mk A60; clear A60
   simp only [Option.some.injEq, Prod.mk.injEq] at H
   obtain ⟨rfl, rfl⟩ := H
   go_enter Try.func22, Try.ntmps22
   go_wp2_with (first | ((with_reducible refine gate_callee (f := 33) rfl ?_); refine goesL_ (some 14) rfl rfl Try.func33 (by kernel_rfl) rfl #[.int .u64 a0] rfl LMq ?_; (with_reducible refine (r3_NaN.calls a0 true _ A4.out).mono ?_); rintro e w7 ⟨rfl, hb⟩; refine ⟨_, rfl, ?_⟩; replace HB := Aside0.mk (below_step (kH HB) hb); (try clear hb); (try clear hb2); (try clear hk); (try clear hi)) | ((with_reducible refine gate_callee (f := 34) rfl ?_); refine goesL_ (some 17) rfl rfl Try.func34 (by kernel_rfl) rfl #[.int .u64 a0, .int .u64 a0] rfl LMq ?_; (with_reducible refine (r5_None.calls a0 a0 qc _ A6.out).mono ?_); rintro e w8 ⟨rfl, hb⟩; refine ⟨_, rfl, ?_⟩; replace HB := Aside0.mk (below_step (kH HB) hb); (try clear hb); (try clear hb2); (try clear hk); (try clear hi)))
   go_ret2
   exact ⟨by first | rfl | (simp [errW_none, errW_some] <;> rfl) | (simp [*, errW_none, errW_some] <;> rfl), kH HB⟩
 replace c5 := Bool.eq_false_iff.mpr c5; subst c5
 have H1 : ((r3_Abs.f a0).bind fun q7 => (if q7 = 9218868437227405312 then (some (a0, 0)) else (if a1 < 0 then (r8_Round.j0 k a0 a1 a2 true) else (r8_Round.j0 k a0 a1 a2 (decide (a1 > 4)))))) = some (r1, r2) := by rw [if_neg (show ¬ (false = true) by decide)] at H; exact H
 clear H; have H := H1; clear H1; replace H := Option.bind_eq_some_iff.mp H; obtain ⟨q7, A90, H⟩ := H; replace H : (if q7 = 9218868437227405312 then (some (a0, 0)) else (if a1 < 0 then (r8_Round.j0 k a0 a1 a2 true) else (r8_Round.j0 k a0 a1 a2 (decide (a1 > 4))))) = some (r1, r2) := H; have A9 := Aside0.mk A90; clear A90
 by_cases c10 : q7 = 9218868437227405312
 · rw [if_pos c10] at H
   have qq : (q7 == 9218868437227405312) = true := beq_iff_eq.mpr c10; have qr : (q7 != 9218868437227405312) = false := bne_eq_false_iff_eq.mpr c10; clear c10
   simp only [Option.some.injEq, Prod.mk.injEq] at H
   obtain ⟨rfl, rfl⟩ := H
   go_enter Try.func22, Try.ntmps22
   go_wp2_with (first | ((with_reducible refine gate_callee (f := 33) rfl ?_); refine goesL_ (some 14) rfl rfl Try.func33 (by kernel_rfl) rfl #[.int .u64 a0] rfl LMq ?_; (with_reducible refine (r3_NaN.calls a0 false _ A4.out).mono ?_); rintro e w11 ⟨rfl, hb⟩; refine ⟨_, rfl, ?_⟩; replace HB := Aside0.mk (below_step (kH HB) hb); (try clear hb); (try clear hb2); (try clear hk); (try clear hi)) | ((with_reducible refine gate_callee (f := 35) rfl ?_); refine goesL_ (some 19) rfl rfl Try.func35 (by kernel_rfl) rfl #[.int .u64 a0] rfl LMq ?_; (with_reducible refine (r3_Abs.calls a0 q7 _ A9.out).mono ?_); rintro e w12 ⟨rfl, hb⟩; refine ⟨_, rfl, ?_⟩; replace HB := Aside0.mk (below_step (kH HB) hb); (try clear hb); (try clear hb2); (try clear hk); (try clear hi)))
   go_ret2
   exact ⟨by first | rfl | (simp [errW_none, errW_some] <;> rfl) | (simp [*, errW_none, errW_some] <;> rfl), kH HB⟩
 rw [if_neg c10] at H
 have qq : (q7 == 9218868437227405312) = false := beq_eq_false_iff_ne.mpr c10; have qr : (q7 != 9218868437227405312) = true := bne_iff_ne.mpr c10; have qs := Aside0.mk H; clear H
 go_enter Try.func22, Try.ntmps22
 go_upto_region 5 with (first | ((with_reducible refine gate_callee (f := 33) rfl ?_); refine goesL_ (some 14) rfl rfl Try.func33 (by kernel_rfl) rfl #[.int .u64 a0] rfl LMq ?_; (with_reducible refine (r3_NaN.calls a0 false _ A4.out).mono ?_); rintro e w14 ⟨rfl, hb⟩; refine ⟨_, rfl, ?_⟩; replace HB := Aside0.mk (below_step (kH HB) hb); (try clear hb); (try clear hb2); (try clear hk); (try clear hi)) | ((with_reducible refine gate_callee (f := 35) rfl ?_); refine goesL_ (some 19) rfl rfl Try.func35 (by kernel_rfl) rfl #[.int .u64 a0] rfl LMq ?_; (with_reducible refine (r3_Abs.calls a0 q7 _ A9.out).mono ?_); rintro e w15 ⟨rfl, hb⟩; refine ⟨_, rfl, ?_⟩; replace HB := Aside0.mk (below_step (kH HB) hb); (try clear hb); (try clear hb2); (try clear hk); (try clear hi)))
 (try simp only [Act.put, List.setIfInBounds_toArray, List.set_cons_zero, List.set_cons_succ])
 go_cut [27] (fun v27 wc => ∃ (kq : Nat) (qp : Bool), v27 = .bool qp ∧ Aside0 (r8_Round.j0 kq a0 a1 a2 qp = some (r1, r2)) ∧ Aside0 (kq ≤ k) ∧ Aside0 (Below w.heap.size w wc))
 case first =>
  have H := qs.out; clear qs
  by_cases c16 : a1 < 0
  · rw [if_pos c16] at H
    have ql : decide (a1 < 0) = true := decide_eq_true c16; clear c16
    (first | rw [ql] | (simp only [i64_w, i32_w]; rw [ql]) | skip)
    have H' := Aside0.mk H; clear H
    go_wp2
    go_meet
    case rel => exact ⟨_, (true), RSq, (by first | exact H' | (subst_vars; exact H')), ⟨by first | omega | exact Nat.le_refl _⟩, ⟨kH HB⟩⟩
  rw [if_neg c16] at H
  have ql : decide (a1 < 0) = false := decide_eq_false c16; clear c16
  (first | rw [ql] | (simp only [i64_w, i32_w]; rw [ql]) | skip)
  have H' := Aside0.mk H; clear H
  go_wp2
  go_meet
  case rel => exact ⟨_, (decide (a1 > 4)), RSq, (by first | exact H' | (subst_vars; exact H')), ⟨by first | omega | exact Nat.le_refl _⟩, ⟨kH HB⟩⟩
 case rest =>
  clear qs; (try clear c1); (try clear c2); (try clear p2); (try clear c3); (try clear c5); (try clear p6); (try clear c10); (try clear qq); (try clear qr); (try clear c16); (try clear ql); obtain ⟨kq, qp, rfl, HA, qy, HB⟩ := hcut
  cases kq with
  | zero => exact absurd HA.out (by simp [r8_Round.j0])
  | succ qt =>
   have H := HA.out; clear HA
   simp only [r8_Round.j0] at H
   have qu := Aside0.mk H; clear H
   go_upto_if 27 with (fail)
   go_cut [1] (fun v1 wc => ∃ (kq : Nat) (qd : Int), v1 = .int .i64 qd ∧ Aside0 (r8_Round.j1 kq a0 qd a2 = some (r1, r2)) ∧ Aside0 (kq ≤ qt) ∧ Aside0 (Below w.heap.size w wc))
   case first =>
    have H := qu.out; clear qu
    by_cases c18 : qp = true
    · subst c18
      have H1 : (r8_Round.j1 qt a0 0 a2) = some (r1, r2) := by rw [if_pos rfl] at H; exact H
      clear H; have H := H1; clear H1; have H' := Aside0.mk H; clear H
      go_wp2
      go_meet
      case rel => exact ⟨_, (0), RSq, (by first | exact H' | (subst_vars; exact H')), ⟨by have := qy.out; first | omega | exact Nat.le_refl _⟩, ⟨kH HB⟩⟩
    replace c18 := Bool.eq_false_iff.mpr c18; subst c18
    have H1 : (r8_Round.j1 qt a0 a1 a2) = some (r1, r2) := by rw [if_neg (show ¬ (false = true) by decide)] at H; exact H
    clear H; have H := H1; clear H1; have H' := Aside0.mk H; clear H
    go_wp2
    go_meet
    case rel => exact ⟨_, (a1), RSq, (by first | exact H' | (subst_vars; exact H')), ⟨by have := qy.out; first | omega | exact Nat.le_refl _⟩, ⟨kH HB⟩⟩
   case rest =>
    clear qu; (try clear c1); (try clear c2); (try clear p2); (try clear c3); (try clear c5); (try clear p6); (try clear c10); (try clear qq); (try clear qr); (try clear c16); (try clear ql); (try clear c18); (try clear p2); (try clear p6); obtain ⟨kq, qd, rfl, HA, HJ16, HB⟩ := hcut
    cases kq with
    | zero => exact absurd HA.out (by simp [r8_Round.j1])
    | succ q9 =>
     have H := HA.out; clear HA
     simp only [r8_Round.j1] at H
     replace H := Option.bind_eq_some_iff.mp H; obtain ⟨⟨q1, q2, q4⟩, qz, H⟩ := H; replace H : (if q2 ≥ 0 then (some (a0, 0)) else ((r4_To.f q9 q1 q2 q4 0 qd).bind fun qo => ((r4_Round.f q9 q1 0 qo.1 0).bind fun qa => (if qo.2 = true then (if a2 = true then (some (qa.1, 16)) else (some (qa.1, 0))) else (some (qa.1, 0)))))) = some (r1, r2) := H; have A19 := Aside0.mk qz; clear qz
     by_cases c20 : q2 ≥ 0
     · rw [if_pos c20] at H
       have q02 : decide (0 ≤ q2) = true := decide_eq_true c20; clear c20
       simp only [Option.some.injEq, Prod.mk.injEq] at H
       obtain ⟨rfl, rfl⟩ := H
       go_wp2_with (first | ((with_reducible refine gate_callee (f := 37) rfl ?_); refine goesL_ (some 29) rfl rfl Try.func37 (by kernel_rfl) rfl #[.int .u64 a0] rfl LMq ?_; (with_reducible refine (r4_Pattern.calls q9 a0 q1 q2 q4 _ A19.out).mono ?_); rintro e w21 ⟨v467, rfl, ho0, hb⟩; refine ⟨_, rfl, ?_⟩; have q3 := Aside0.mk (Kd.V_lower (Kd.V_mono (ok' := fun k_ => True) ho0 (fun k_ hk_ => trivial)) (below_size (kH HB))); replace HB := Aside0.mk (below_step (kH HB) hb); (try clear hb); (try clear hb2); (try clear hk); (try clear hi); (try clear ho0)) | ((with_reducible refine gate_dst (N := 8) rfl ?_); refine box_event ?hg (N := 8) ?hd (cs := #[.bool false, .int .i64 0, .slice none 0 0]) (t := 66) ?hr ?_; (case hd => rfl); (case hg => rfl); (case hr => first | (go_simp; done) | (go_simp; rfl)); intro q0 hg w22 hbox hb; replace q3 := Aside0.mk (Kd.V_below (Kd.V_elderB (kV q3) q0 (Nat.le_of_eq hg.symm)) hb); have q5 := Aside0.mk (hbox); have qv := Aside0.mk ((by rw [hg]; exact (below_size (kH HB)) : w.heap.size ≤ q0)); have q6 := Aside0.mk ((by rw [hg]; exact (below_size (kH HB)) : w.heap.size ≤ q0)); replace HB := Aside0.mk (below_step (kH HB) hb); clear hb hbox hg; obtain ⟨_, _, _, _, _, _⟩ := W3q q5; obtain ⟨Ao24, co24, eo24⟩ := Kd.V_slice q3.out; subst eo24))
       go_ret2
       exact ⟨by first | rfl | (simp [errW_none, errW_some] <;> rfl) | (simp [*, errW_none, errW_some] <;> rfl), kHs HB q6⟩
     rw [if_neg c20] at H
     have q02 : decide (0 ≤ q2) = false := decide_eq_false c20; clear c20; replace H := Option.bind_eq_some_iff.mp H; obtain ⟨⟨qe, qw⟩, q00, H⟩ := H; replace H : ((r4_Round.f q9 q1 0 qe 0).bind fun qa => (if qw = true then (if a2 = true then (some (qa.1, 16)) else (some (qa.1, 0))) else (some (qa.1, 0)))) = some (r1, r2) := H; have A25 := Aside0.mk q00; clear q00; replace H := Option.bind_eq_some_iff.mp H; obtain ⟨⟨qb, qx⟩, q01, H⟩ := H; replace H : (if qw = true then (if a2 = true then (some (qb, 16)) else (some (qb, 0))) else (some (qb, 0))) = some (r1, r2) := H; have A26 := Aside0.mk q01; clear q01
     by_cases c27 : qw = true
     · subst c27
       have H1 : (if a2 = true then (some (qb, 16)) else (some (qb, 0))) = some (r1, r2) := by rw [if_pos rfl] at H; exact H
       clear H; have H := H1; clear H1
       by_cases c28 : a2 = true
       · subst c28
         have H1 : (some (qb, 16)) = some (r1, r2) := by rw [if_pos rfl] at H; exact H
         clear H; have H := H1; clear H1
         simp only [Option.some.injEq, Prod.mk.injEq] at H
         obtain ⟨rfl, rfl⟩ := H
         go_wp2_with (first | ((with_reducible refine gate_callee (f := 37) rfl ?_); refine goesL_ (some 29) rfl rfl Try.func37 (by kernel_rfl) rfl #[.int .u64 a0] rfl LMq ?_; (with_reducible refine (r4_Pattern.calls q9 a0 q1 q2 q4 _ A19.out).mono ?_); rintro e w29 ⟨v467, rfl, ho0, hb⟩; refine ⟨_, rfl, ?_⟩; have q3 := Aside0.mk (Kd.V_lower (Kd.V_mono (ok' := fun k_ => True) ho0 (fun k_ hk_ => trivial)) (below_size (kH HB))); replace HB := Aside0.mk (below_step (kH HB) hb); (try clear hb); (try clear hb2); (try clear hk); (try clear hi); (try clear ho0)) | ((with_reducible refine gate_dst (N := 8) rfl ?_); refine box_event ?hg (N := 8) ?hd (cs := #[.bool false, .int .i64 0, .slice none 0 0]) (t := 66) ?hr ?_; (case hd => rfl); (case hg => rfl); (case hr => first | (go_simp; done) | (go_simp; rfl)); intro q0 hg w30 hbox hb; replace q3 := Aside0.mk (Kd.V_below (Kd.V_elderB (kV q3) q0 (Nat.le_of_eq hg.symm)) hb); have q5 := Aside0.mk (hbox); have qv := Aside0.mk ((by rw [hg]; exact (below_size (kH HB)) : w.heap.size ≤ q0)); have q6 := Aside0.mk ((by rw [hg]; exact (below_size (kH HB)) : w.heap.size ≤ q0)); replace HB := Aside0.mk (below_step (kH HB) hb); clear hb hbox hg; obtain ⟨_, _, _, _, _, _⟩ := W3q q5; obtain ⟨qf, qg, eo32⟩ := Kd.V_slice q3.out; subst eo32) | ((with_reducible refine gate_store (t := 66) (p := 8) rfl ?_); refine store_event (t := 66) (p := 8) (v := ?vo_w33) (w1 := (((w30.setCell ⟨q0, 0, none⟩ (.bool q1)).setCell ⟨q0, 1, none⟩ (.int .i64 q2)).setCell ⟨q0, 2, none⟩ (.slice qf q4.length qg))) ?hg ?ho ?hn ?hr ?_; (case ho => rfl); (case hg => rfl); (case hn => rfl); (case hr => first | (go_simp; done) | (go_simp; rfl)); intro w33 hw; replace q3 : Aside0 (Kd.V (Kd.int .u32) 23 w33 w.heap.size (fun k_ => k_ ≠ q0) (.slice qf q4.length qg) q4) := ⟨(by rw [hw]; exact (by (with_reducible repeat (first | apply Kd.V_alloc | apply Kd.V_drewN | apply Kd.V_drew)); exact Kd.V_mono (Kd.V_far (p := ⟨q0, 2, none⟩) (Kd.V_far (p := ⟨q0, 1, none⟩) (Kd.V_far (p := ⟨q0, 0, none⟩) (Kd.V_mono q3.out (fun k_ hk => (⟨hk, hk.2⟩ : _ ∧ k_ ≠ q0))) (fun _ hk => hk.2) (.bool q1)) (fun _ hk => hk.2) (.int .i64 q2)) (fun _ hk => hk.2) (.slice qf q4.length qg)) (fun _ hk => hk.1.2)))⟩; replace q5 : Aside0 (w33.heap[q0]? = some (.cells #[.bool q1, .int .i64 q2, .slice qf q4.length qg] 66 (0, 0))) := ⟨(by rw [hw]; exact (by (with_reducible repeat (first | refine blk_drewN ?_ _ | refine blk_drew ?_ | refine blk_alloc ?_ _)); refine blk_put (cs := #[.bool q1, .int .i64 q2, .slice none 0 0]) ?_ 2 _ rfl; refine blk_put (cs := #[.bool q1, .int .i64 0, .slice none 0 0]) ?_ 1 _ rfl; refine blk_put (cs := #[.bool false, .int .i64 0, .slice none 0 0]) ?_ 0 _ rfl; (with_reducible repeat (first | refine blk_drewN ?_ _ | refine blk_drew ?_ | refine blk_alloc ?_ _)); exact q5.out))⟩; replace HB : Aside0 (Below w.heap.size w w33) := ⟨(by rw [hw]; exact (kHs HB q6))⟩; clear hw; obtain ⟨_, _, _, _, _, _⟩ := W3q q5) | ((with_reducible refine gate_callee (f := 39) rfl ?_); refine goesL_ (some 37) rfl rfl Try.func39 (by kernel_rfl) rfl #[.agg #[.bool q1, .int .i64 q2, .slice qf q4.length qg], .int .i64 0, .int .i64 qd] rfl LMq ?_; (with_reducible refine (r4_To.calls q9 q1 q2 (fun k_ => k_ ≠ q0) _ _ q4 0 qd qe true _ ?side1 A25.out).mono ?_); (case side1 => exact q3.out); rintro e w35 ⟨v471, rfl, ho0, hb⟩; refine ⟨_, rfl, ?_⟩; replace q3 := Aside0.mk (Kd.V_below (kV q3) hb); have q8 := Aside0.mk (Kd.V_lower (Kd.V_mono (ok' := fun k_ => k_ ≠ q0) ho0 (fun k_ hk_ => Or.elim hk_ (fun hs_ => hs_) (fun hn_ => (Kd.freshB (g := q0) (o := .cells #[.bool q1, .int .i64 q2, .slice qf q4.length qg] 66 (0, 0)) (kB q5) k_ hn_)))) (below_size (kHs HB q6))); replace q5 := Aside0.mk (blk_below (g := q0) (o := .cells #[.bool q1, .int .i64 q2, .slice qf q4.length qg] 66 (0, 0)) (kB q5) hb); replace HB := Aside0.mk (below_step (kHs HB q6) hb); (try clear hb); (try clear hb2); (try clear hk); (try clear hi); (try clear ho0); obtain ⟨_, _, _, _, _, _⟩ := W3q q5; obtain ⟨q03, q04, eo37⟩ := Kd.V_slice q8.out; subst eo37) | ((with_reducible refine gate_callee (f := 43) rfl ?_); refine goesL_ (some 45) rfl rfl Try.func43 (by kernel_rfl) rfl #[.agg #[.bool q1, .int .i64 0, .slice q03 qe.length q04], .int .i64 0] rfl LMq ?_; (with_reducible refine (r4_Round.calls q9 q1 0 (fun k_ => k_ ≠ q0) _ _ qe 0 qb qx _ ?side1 A26.out).mono ?_); (case side1 => exact q8.out); rintro e w38 ⟨rfl, hb⟩; refine ⟨_, rfl, ?_⟩; replace q3 := Aside0.mk (Kd.V_below (kV q3) hb); replace q8 := Aside0.mk (Kd.V_below (kV q8) hb); replace q5 := Aside0.mk (blk_below (g := q0) (o := .cells #[.bool q1, .int .i64 q2, .slice qf q4.length qg] 66 (0, 0)) (kB q5) hb); replace HB := Aside0.mk (below_step (kHs HB q6) hb); (try clear hb); (try clear hb2); (try clear hk); (try clear hi)))
         go_ret2
         exact ⟨by first | rfl | (simp [errW_none, errW_some] <;> rfl) | (simp [*, errW_none, errW_some] <;> rfl), kHs HB q6⟩
       replace c28 := Bool.eq_false_iff.mpr c28; subst c28
       have H1 : (some (qb, 0)) = some (r1, r2) := by rw [if_neg (show ¬ (false = true) by decide)] at H; exact H
       clear H; have H := H1; clear H1
       simp only [Option.some.injEq, Prod.mk.injEq] at H
       obtain ⟨rfl, rfl⟩ := H
       go_wp2_with (first | ((with_reducible refine gate_callee (f := 37) rfl ?_); refine goesL_ (some 29) rfl rfl Try.func37 (by kernel_rfl) rfl #[.int .u64 a0] rfl LMq ?_; (with_reducible refine (r4_Pattern.calls q9 a0 q1 q2 q4 _ A19.out).mono ?_); rintro e w39 ⟨v467, rfl, ho0, hb⟩; refine ⟨_, rfl, ?_⟩; have q3 := Aside0.mk (Kd.V_lower (Kd.V_mono (ok' := fun k_ => True) ho0 (fun k_ hk_ => trivial)) (below_size (kH HB))); replace HB := Aside0.mk (below_step (kH HB) hb); (try clear hb); (try clear hb2); (try clear hk); (try clear hi); (try clear ho0)) | ((with_reducible refine gate_dst (N := 8) rfl ?_); refine box_event ?hg (N := 8) ?hd (cs := #[.bool false, .int .i64 0, .slice none 0 0]) (t := 66) ?hr ?_; (case hd => rfl); (case hg => rfl); (case hr => first | (go_simp; done) | (go_simp; rfl)); intro q0 hg w40 hbox hb; replace q3 := Aside0.mk (Kd.V_below (Kd.V_elderB (kV q3) q0 (Nat.le_of_eq hg.symm)) hb); have q5 := Aside0.mk (hbox); have qv := Aside0.mk ((by rw [hg]; exact (below_size (kH HB)) : w.heap.size ≤ q0)); have q6 := Aside0.mk ((by rw [hg]; exact (below_size (kH HB)) : w.heap.size ≤ q0)); replace HB := Aside0.mk (below_step (kH HB) hb); clear hb hbox hg; obtain ⟨_, _, _, _, _, _⟩ := W3q q5; obtain ⟨qh, qi, eo42⟩ := Kd.V_slice q3.out; subst eo42) | ((with_reducible refine gate_store (t := 66) (p := 8) rfl ?_); refine store_event (t := 66) (p := 8) (v := ?vo_w43) (w1 := (((w40.setCell ⟨q0, 0, none⟩ (.bool q1)).setCell ⟨q0, 1, none⟩ (.int .i64 q2)).setCell ⟨q0, 2, none⟩ (.slice qh q4.length qi))) ?hg ?ho ?hn ?hr ?_; (case ho => rfl); (case hg => rfl); (case hn => rfl); (case hr => first | (go_simp; done) | (go_simp; rfl)); intro w43 hw; replace q3 : Aside0 (Kd.V (Kd.int .u32) 23 w43 w.heap.size (fun k_ => k_ ≠ q0) (.slice qh q4.length qi) q4) := ⟨(by rw [hw]; exact (by (with_reducible repeat (first | apply Kd.V_alloc | apply Kd.V_drewN | apply Kd.V_drew)); exact Kd.V_mono (Kd.V_far (p := ⟨q0, 2, none⟩) (Kd.V_far (p := ⟨q0, 1, none⟩) (Kd.V_far (p := ⟨q0, 0, none⟩) (Kd.V_mono q3.out (fun k_ hk => (⟨hk, hk.2⟩ : _ ∧ k_ ≠ q0))) (fun _ hk => hk.2) (.bool q1)) (fun _ hk => hk.2) (.int .i64 q2)) (fun _ hk => hk.2) (.slice qh q4.length qi)) (fun _ hk => hk.1.2)))⟩; replace q5 : Aside0 (w43.heap[q0]? = some (.cells #[.bool q1, .int .i64 q2, .slice qh q4.length qi] 66 (0, 0))) := ⟨(by rw [hw]; exact (by (with_reducible repeat (first | refine blk_drewN ?_ _ | refine blk_drew ?_ | refine blk_alloc ?_ _)); refine blk_put (cs := #[.bool q1, .int .i64 q2, .slice none 0 0]) ?_ 2 _ rfl; refine blk_put (cs := #[.bool q1, .int .i64 0, .slice none 0 0]) ?_ 1 _ rfl; refine blk_put (cs := #[.bool false, .int .i64 0, .slice none 0 0]) ?_ 0 _ rfl; (with_reducible repeat (first | refine blk_drewN ?_ _ | refine blk_drew ?_ | refine blk_alloc ?_ _)); exact q5.out))⟩; replace HB : Aside0 (Below w.heap.size w w43) := ⟨(by rw [hw]; exact (kHs HB q6))⟩; clear hw; obtain ⟨_, _, _, _, _, _⟩ := W3q q5) | ((with_reducible refine gate_callee (f := 39) rfl ?_); refine goesL_ (some 37) rfl rfl Try.func39 (by kernel_rfl) rfl #[.agg #[.bool q1, .int .i64 q2, .slice qh q4.length qi], .int .i64 0, .int .i64 qd] rfl LMq ?_; (with_reducible refine (r4_To.calls q9 q1 q2 (fun k_ => k_ ≠ q0) _ _ q4 0 qd qe true _ ?side1 A25.out).mono ?_); (case side1 => exact q3.out); rintro e w45 ⟨v471, rfl, ho0, hb⟩; refine ⟨_, rfl, ?_⟩; replace q3 := Aside0.mk (Kd.V_below (kV q3) hb); have q8 := Aside0.mk (Kd.V_lower (Kd.V_mono (ok' := fun k_ => k_ ≠ q0) ho0 (fun k_ hk_ => Or.elim hk_ (fun hs_ => hs_) (fun hn_ => (Kd.freshB (g := q0) (o := .cells #[.bool q1, .int .i64 q2, .slice qh q4.length qi] 66 (0, 0)) (kB q5) k_ hn_)))) (below_size (kHs HB q6))); replace q5 := Aside0.mk (blk_below (g := q0) (o := .cells #[.bool q1, .int .i64 q2, .slice qh q4.length qi] 66 (0, 0)) (kB q5) hb); replace HB := Aside0.mk (below_step (kHs HB q6) hb); (try clear hb); (try clear hb2); (try clear hk); (try clear hi); (try clear ho0); obtain ⟨_, _, _, _, _, _⟩ := W3q q5; obtain ⟨q05, q06, eo47⟩ := Kd.V_slice q8.out; subst eo47) | ((with_reducible refine gate_callee (f := 43) rfl ?_); refine goesL_ (some 45) rfl rfl Try.func43 (by kernel_rfl) rfl #[.agg #[.bool q1, .int .i64 0, .slice q05 qe.length q06], .int .i64 0] rfl LMq ?_; (with_reducible refine (r4_Round.calls q9 q1 0 (fun k_ => k_ ≠ q0) _ _ qe 0 qb qx _ ?side1 A26.out).mono ?_); (case side1 => exact q8.out); rintro e w48 ⟨rfl, hb⟩; refine ⟨_, rfl, ?_⟩; replace q3 := Aside0.mk (Kd.V_below (kV q3) hb); replace q8 := Aside0.mk (Kd.V_below (kV q8) hb); replace q5 := Aside0.mk (blk_below (g := q0) (o := .cells #[.bool q1, .int .i64 q2, .slice qh q4.length qi] 66 (0, 0)) (kB q5) hb); replace HB := Aside0.mk (below_step (kHs HB q6) hb); (try clear hb); (try clear hb2); (try clear hk); (try clear hi)))
       go_ret2
       exact ⟨by first | rfl | (simp [errW_none, errW_some] <;> rfl) | (simp [*, errW_none, errW_some] <;> rfl), kHs HB q6⟩
     replace c27 := Bool.eq_false_iff.mpr c27; subst c27
     have H1 : (some (qb, 0)) = some (r1, r2) := by rw [if_neg (show ¬ (false = true) by decide)] at H; exact H
     clear H; have H := H1; clear H1
     simp only [Option.some.injEq, Prod.mk.injEq] at H
     obtain ⟨rfl, rfl⟩ := H
     go_wp2_with (first | ((with_reducible refine gate_callee (f := 37) rfl ?_); refine goesL_ (some 29) rfl rfl Try.func37 (by kernel_rfl) rfl #[.int .u64 a0] rfl LMq ?_; (with_reducible refine (r4_Pattern.calls q9 a0 q1 q2 q4 _ A19.out).mono ?_); rintro e w49 ⟨v467, rfl, ho0, hb⟩; refine ⟨_, rfl, ?_⟩; have q3 := Aside0.mk (Kd.V_lower (Kd.V_mono (ok' := fun k_ => True) ho0 (fun k_ hk_ => trivial)) (below_size (kH HB))); replace HB := Aside0.mk (below_step (kH HB) hb); (try clear hb); (try clear hb2); (try clear hk); (try clear hi); (try clear ho0)) | ((with_reducible refine gate_dst (N := 8) rfl ?_); refine box_event ?hg (N := 8) ?hd (cs := #[.bool false, .int .i64 0, .slice none 0 0]) (t := 66) ?hr ?_; (case hd => rfl); (case hg => rfl); (case hr => first | (go_simp; done) | (go_simp; rfl)); intro q0 hg w50 hbox hb; replace q3 := Aside0.mk (Kd.V_below (Kd.V_elderB (kV q3) q0 (Nat.le_of_eq hg.symm)) hb); have q5 := Aside0.mk (hbox); have qv := Aside0.mk ((by rw [hg]; exact (below_size (kH HB)) : w.heap.size ≤ q0)); have q6 := Aside0.mk ((by rw [hg]; exact (below_size (kH HB)) : w.heap.size ≤ q0)); replace HB := Aside0.mk (below_step (kH HB) hb); clear hb hbox hg; obtain ⟨_, _, _, _, _, _⟩ := W3q q5; obtain ⟨qj, qk, eo52⟩ := Kd.V_slice q3.out; subst eo52) | ((with_reducible refine gate_store (t := 66) (p := 8) rfl ?_); refine store_event (t := 66) (p := 8) (v := ?vo_w53) (w1 := (((w50.setCell ⟨q0, 0, none⟩ (.bool q1)).setCell ⟨q0, 1, none⟩ (.int .i64 q2)).setCell ⟨q0, 2, none⟩ (.slice qj q4.length qk))) ?hg ?ho ?hn ?hr ?_; (case ho => rfl); (case hg => rfl); (case hn => rfl); (case hr => first | (go_simp; done) | (go_simp; rfl)); intro w53 hw; replace q3 : Aside0 (Kd.V (Kd.int .u32) 23 w53 w.heap.size (fun k_ => k_ ≠ q0) (.slice qj q4.length qk) q4) := ⟨(by rw [hw]; exact (by (with_reducible repeat (first | apply Kd.V_alloc | apply Kd.V_drewN | apply Kd.V_drew)); exact Kd.V_mono (Kd.V_far (p := ⟨q0, 2, none⟩) (Kd.V_far (p := ⟨q0, 1, none⟩) (Kd.V_far (p := ⟨q0, 0, none⟩) (Kd.V_mono q3.out (fun k_ hk => (⟨hk, hk.2⟩ : _ ∧ k_ ≠ q0))) (fun _ hk => hk.2) (.bool q1)) (fun _ hk => hk.2) (.int .i64 q2)) (fun _ hk => hk.2) (.slice qj q4.length qk)) (fun _ hk => hk.1.2)))⟩; replace q5 : Aside0 (w53.heap[q0]? = some (.cells #[.bool q1, .int .i64 q2, .slice qj q4.length qk] 66 (0, 0))) := ⟨(by rw [hw]; exact (by (with_reducible repeat (first | refine blk_drewN ?_ _ | refine blk_drew ?_ | refine blk_alloc ?_ _)); refine blk_put (cs := #[.bool q1, .int .i64 q2, .slice none 0 0]) ?_ 2 _ rfl; refine blk_put (cs := #[.bool q1, .int .i64 0, .slice none 0 0]) ?_ 1 _ rfl; refine blk_put (cs := #[.bool false, .int .i64 0, .slice none 0 0]) ?_ 0 _ rfl; (with_reducible repeat (first | refine blk_drewN ?_ _ | refine blk_drew ?_ | refine blk_alloc ?_ _)); exact q5.out))⟩; replace HB : Aside0 (Below w.heap.size w w53) := ⟨(by rw [hw]; exact (kHs HB q6))⟩; clear hw; obtain ⟨_, _, _, _, _, _⟩ := W3q q5) | ((with_reducible refine gate_callee (f := 39) rfl ?_); refine goesL_ (some 37) rfl rfl Try.func39 (by kernel_rfl) rfl #[.agg #[.bool q1, .int .i64 q2, .slice qj q4.length qk], .int .i64 0, .int .i64 qd] rfl LMq ?_; (with_reducible refine (r4_To.calls q9 q1 q2 (fun k_ => k_ ≠ q0) _ _ q4 0 qd qe false _ ?side1 A25.out).mono ?_); (case side1 => exact q3.out); rintro e w55 ⟨v471, rfl, ho0, hb⟩; refine ⟨_, rfl, ?_⟩; replace q3 := Aside0.mk (Kd.V_below (kV q3) hb); have q8 := Aside0.mk (Kd.V_lower (Kd.V_mono (ok' := fun k_ => k_ ≠ q0) ho0 (fun k_ hk_ => Or.elim hk_ (fun hs_ => hs_) (fun hn_ => (Kd.freshB (g := q0) (o := .cells #[.bool q1, .int .i64 q2, .slice qj q4.length qk] 66 (0, 0)) (kB q5) k_ hn_)))) (below_size (kHs HB q6))); replace q5 := Aside0.mk (blk_below (g := q0) (o := .cells #[.bool q1, .int .i64 q2, .slice qj q4.length qk] 66 (0, 0)) (kB q5) hb); replace HB := Aside0.mk (below_step (kHs HB q6) hb); (try clear hb); (try clear hb2); (try clear hk); (try clear hi); (try clear ho0); obtain ⟨_, _, _, _, _, _⟩ := W3q q5; obtain ⟨q07, q08, eo57⟩ := Kd.V_slice q8.out; subst eo57) | ((with_reducible refine gate_callee (f := 43) rfl ?_); refine goesL_ (some 45) rfl rfl Try.func43 (by kernel_rfl) rfl #[.agg #[.bool q1, .int .i64 0, .slice q07 qe.length q08], .int .i64 0] rfl LMq ?_; (with_reducible refine (r4_Round.calls q9 q1 0 (fun k_ => k_ ≠ q0) _ _ qe 0 qb qx _ ?side1 A26.out).mono ?_); (case side1 => exact q8.out); rintro e w58 ⟨rfl, hb⟩; refine ⟨_, rfl, ?_⟩; replace q3 := Aside0.mk (Kd.V_below (kV q3) hb); replace q8 := Aside0.mk (Kd.V_below (kV q8) hb); replace q5 := Aside0.mk (blk_below (g := q0) (o := .cells #[.bool q1, .int .i64 q2, .slice qj q4.length qk] 66 (0, 0)) (kB q5) hb); replace HB := Aside0.mk (below_step (kHs HB q6) hb); (try clear hb); (try clear hb2); (try clear hk); (try clear hi)))
     go_ret2
     exact ⟨by first | rfl | (simp [errW_none, errW_some] <;> rfl) | (simp [*, errW_none, errW_some] <;> rfl), kHs HB q6⟩
end Go.Proofs.Ytfnkmedajchbgaa.X
