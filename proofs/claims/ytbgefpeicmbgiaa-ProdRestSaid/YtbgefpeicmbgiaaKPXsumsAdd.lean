import Derived.Test.YtbgefpeicmbgiaaKP4
import Derived.Test.YtbgefpeicmbgiaaKPXsumsjoin
namespace Go.Proofs.Ytbgefpeicmbgiaa.X
open Go.RowKit Go.Proofs.YtbgefpeicmbgiaaW.PrintWords Go.Proofs.YtbgefpeicmbgiaaW.PrintLast Go.Proofs.YtbgefpeicmbgiaaW.PrintMore
attribute [local go_sem] max2_int min2_int max_two min_two max_three min_three max_four min_four   
set_option linter.unusedVariables false
set_option linter.unusedSimpArgs false
mutual
def sums_Add.j0 : Nat → Int → Int → Int → Bool → Option (Int × Int)
 | 0, _, _, _, _ => none
 | k + 1, x0, x1, x2, x12 => if x12 = true then ((sums_none.f k (([x0, x1] : List Int))).bind fun qu => (some (qu.1, qu.2))) else ((pat_Class.f x0).bind fun qo => (if qo = 3 then ((pat_Class.f x1).bind fun qk => (if qk = 3 then (sums_Add.j1 k x0 x1 x2 (x0 != x1)) else (sums_Add.j1 k x0 x1 x2 false))) else (sums_Add.j1 k x0 x1 x2 false)))
def sums_Add.j1 : Nat → Int → Int → Int → Bool → Option (Int × Int)
 | 0, _, _, _, _ => none
 | k + 1, x0, x1, x2, x25 => if x25 = true then (some (9221120237041090560, 1)) else ((pat_Class.f x0).bind fun qp => (if qp = 3 then (some (x0, 0)) else ((pat_Class.f x1).bind fun ql => (if ql = 3 then (some (x1, 0)) else ((rnd_Of.f x0).bind fun q1 => ((rnd_Of.f x1).bind fun q0 => (if q1.2.2.2.2.2.2.2.isNone = true then (if q0.2.2.2.2.2.2.2.isNone = true then (sums_Add.j2 k x0 x1 x2 false q1.1 q1.2.1 q1.2.2.1 q1.2.2.2.1 q1.2.2.2.2.1 q1.2.2.2.2.2.1 q1.2.2.2.2.2.2.1 q0.1 q0.2.1 q0.2.2.1 q0.2.2.2.1 q0.2.2.2.2.1 q0.2.2.2.2.2.1 q0.2.2.2.2.2.2.1) else (sums_Add.j2 k x0 x1 x2 true q1.1 q1.2.1 q1.2.2.1 q1.2.2.2.1 q1.2.2.2.2.1 q1.2.2.2.2.2.1 q1.2.2.2.2.2.2.1 q0.1 q0.2.1 q0.2.2.1 q0.2.2.2.1 q0.2.2.2.2.1 q0.2.2.2.2.2.1 q0.2.2.2.2.2.2.1)) else (sums_Add.j2 k x0 x1 x2 true q1.1 q1.2.1 q1.2.2.1 q1.2.2.2.1 q1.2.2.2.2.1 q1.2.2.2.2.2.1 q1.2.2.2.2.2.2.1 q0.1 q0.2.1 q0.2.2.1 q0.2.2.2.1 q0.2.2.2.2.1 q0.2.2.2.2.2.1 q0.2.2.2.2.2.2.1))))))))
def sums_Add.j2 : Nat → Int → Int → Int → Bool → Bool → Int → Int → Int → Int → Int → Bool → Bool → Int → Int → Int → Int → Int → Bool → Option (Int × Int)
 | 0, _, _, _, _, _, _, _, _, _, _, _, _, _, _, _, _, _, _ => none
 | k + 1, x0, x1, x2, x64, q16, q17, q18, q19, q1a, q1b, q1c, q1d, q1e, q1f, q1g, q1h, q1i, q1j => if x64 = true then ((sums_none.f k (([x0, x1] : List Int))).bind fun qv => (some (qv.1, qv.2))) else ((sums_join.f k q16 q17 q18 q19 q1a q1b q1c q1d q1e q1f q1g q1h q1i q1j x2).bind fun qj => ((rnd_Round.f qj.1 qj.2.1 qj.2.2.1 qj.2.2.2.1 qj.2.2.2.2.1 qj.2.2.2.2.2.1 qj.2.2.2.2.2.2 x2).bind fun qw => (some (qw.1, qw.2))))
end
def sums_Add.f (k : Nat) (a0 : Int) (a1 : Int) (a2 : Int) : Option (Int × Int) := (pat_IsNaN.f a0).bind fun qy => (if qy = true then (sums_Add.j0 k a0 a1 a2 true) else ((pat_IsNaN.f a1).bind fun qr => (sums_Add.j0 k a0 a1 a2 qr)))
theorem sums_Add.mono_l : ∀ k, (∀ y0 y1 y2 y3, LeO (sums_Add.j0 k y0 y1 y2 y3) (sums_Add.j0 (k + 1) y0 y1 y2 y3)) ∧ (∀ y0 y1 y2 y3, LeO (sums_Add.j1 k y0 y1 y2 y3) (sums_Add.j1 (k + 1) y0 y1 y2 y3)) ∧ (∀ y0 y1 y2 y3 y4 y5 y6 y7 y8 y9 y10 y11 y12 y13 y14 y15 y16 y17, LeO (sums_Add.j2 k y0 y1 y2 y3 y4 y5 y6 y7 y8 y9 y10 y11 y12 y13 y14 y15 y16 y17) (sums_Add.j2 (k + 1) y0 y1 y2 y3 y4 y5 y6 y7 y8 y9 y10 y11 y12 y13 y14 y15 y16 y17))
 | 0 => ⟨fun _ _ _ _ r h => by simp [sums_Add.j0] at h, fun _ _ _ _ r h => by simp [sums_Add.j1] at h, fun _ _ _ _ _ _ _ _ _ _ _ _ _ _ _ _ _ _ r h => by simp [sums_Add.j2] at h⟩
 | k + 1 => by
  obtain ⟨ih0, ih1, ih2⟩ := sums_Add.mono_l k; refine ⟨?_, ?_, ?_⟩
  · intro y0 y1 y2 y3
    unfold sums_Add.j0
    repeat' first
    | (with_reducible exact ih0 _ _ _ _)
    | (with_reducible exact ih1 _ _ _ _)
    | (with_reducible exact ih2 _ _ _ _ _ _ _ _ _ _ _ _ _ _ _ _ _ _)
    | (with_reducible exact sums_join.mono _ _ _ _ _ _ _ _ _ _ _ _ _ _ _ _)
    | (with_reducible exact sums_none.mono _ _)
    | (with_reducible exact LeO.refl _)
    | (with_reducible exact LeO.none _)
    | (with_reducible refine LeO.ite ?_ ?_)
    | (with_reducible refine LeO.bind ?_ (fun _ => ?_))
    | exact ih0 _ _ _ _
    | exact ih1 _ _ _ _
    | exact ih2 _ _ _ _ _ _ _ _ _ _ _ _ _ _ _ _ _ _
    | exact sums_join.mono _ _ _ _ _ _ _ _ _ _ _ _ _ _ _ _
    | exact sums_none.mono _ _
    | exact LeO.none _
    | refine LeO.ite ?_ ?_
    | refine LeO.bind ?_ (fun _ => ?_)
  · intro y0 y1 y2 y3
    unfold sums_Add.j1
    repeat' first
    | (with_reducible exact ih0 _ _ _ _)
    | (with_reducible exact ih1 _ _ _ _)
    | (with_reducible exact ih2 _ _ _ _ _ _ _ _ _ _ _ _ _ _ _ _ _ _)
    | (with_reducible exact sums_join.mono _ _ _ _ _ _ _ _ _ _ _ _ _ _ _ _)
    | (with_reducible exact sums_none.mono _ _)
    | (with_reducible exact LeO.refl _)
    | (with_reducible exact LeO.none _)
    | (with_reducible refine LeO.ite ?_ ?_)
    | (with_reducible refine LeO.bind ?_ (fun _ => ?_))
    | exact ih0 _ _ _ _
    | exact ih1 _ _ _ _
    | exact ih2 _ _ _ _ _ _ _ _ _ _ _ _ _ _ _ _ _ _
    | exact sums_join.mono _ _ _ _ _ _ _ _ _ _ _ _ _ _ _ _
    | exact sums_none.mono _ _
    | exact LeO.none _
    | refine LeO.ite ?_ ?_
    | refine LeO.bind ?_ (fun _ => ?_)
  intro y0 y1 y2 y3 y4 y5 y6 y7 y8 y9 y10 y11 y12 y13 y14 y15 y16 y17
  unfold sums_Add.j2
  repeat' first
  | (with_reducible exact ih0 _ _ _ _)
  | (with_reducible exact ih1 _ _ _ _)
  | (with_reducible exact ih2 _ _ _ _ _ _ _ _ _ _ _ _ _ _ _ _ _ _)
  | (with_reducible exact sums_join.mono _ _ _ _ _ _ _ _ _ _ _ _ _ _ _ _)
  | (with_reducible exact sums_none.mono _ _)
  | (with_reducible exact LeO.refl _)
  | (with_reducible exact LeO.none _)
  | (with_reducible refine LeO.ite ?_ ?_)
  | (with_reducible refine LeO.bind ?_ (fun _ => ?_))
  | exact ih0 _ _ _ _
  | exact ih1 _ _ _ _
  | exact ih2 _ _ _ _ _ _ _ _ _ _ _ _ _ _ _ _ _ _
  | exact sums_join.mono _ _ _ _ _ _ _ _ _ _ _ _ _ _ _ _
  | exact sums_none.mono _ _
  | exact LeO.none _
  | refine LeO.ite ?_ ?_
  | refine LeO.bind ?_ (fun _ => ?_)
theorem sums_Add.mono : ∀ a0 a1 a2 k, LeO (sums_Add.f k a0 a1 a2) (sums_Add.f (k + 1) a0 a1 a2) := by
 intro a0 a1 a2 k; obtain ⟨ih0, ih1, ih2⟩ := sums_Add.mono_l k
 unfold sums_Add.f
 repeat' first
  | (with_reducible exact ih0 _ _ _ _)
  | (with_reducible exact ih1 _ _ _ _)
  | (with_reducible exact ih2 _ _ _ _ _ _ _ _ _ _ _ _ _ _ _ _ _ _)
  | (with_reducible exact sums_join.mono _ _ _ _ _ _ _ _ _ _ _ _ _ _ _ _)
  | (with_reducible exact sums_none.mono _ _)
  | (with_reducible exact LeO.refl _)
  | (with_reducible exact LeO.none _)
  | (with_reducible refine LeO.ite ?_ ?_)
  | (with_reducible refine LeO.bind ?_ (fun _ => ?_))
  | exact ih0 _ _ _ _
  | exact ih1 _ _ _ _
  | exact ih2 _ _ _ _ _ _ _ _ _ _ _ _ _ _ _ _ _ _
  | exact sums_join.mono _ _ _ _ _ _ _ _ _ _ _ _ _ _ _ _
  | exact sums_none.mono _ _
  | exact LeO.none _
  | refine LeO.ite ?_ ?_
  | refine LeO.bind ?_ (fun _ => ?_)
set_option maxHeartbeats 8000000 in
set_option maxRecDepth 100000 in
theorem sums_Add.calls (k : Nat) (a0 : Int) (a1 : Int) (a2 : Int) (r1 : Int) (r2 : Int) (w : World) (h : sums_Add.f k a0 a1 a2 = some (r1, r2)) :
 Calls Try.prog 48 #[.int .u64 a0, .int .u64 a1, .int .i64 a2] w fun e w' => e = .returned (.tuple #[.int .u64 r1, .int .u8 r2]) ∧ Below w.heap.size w w' := by
 have hu61 := Try.underlying61; have hu80 := Try.underlying80; have hu119 := Try.underlying119; have HB := Aside0.mk (Below.refl w.heap.size w); have H : ((pat_IsNaN.f a0).bind fun qy => (if qy = true then (sums_Add.j0 k a0 a1 a2 true) else ((pat_IsNaN.f a1).bind fun qr => (sums_Add.j0 k a0 a1 a2 qr)))) = some (r1, r2) := h; clear h; have HC4 := Aside0.mk H; clear H
 go_enter Try.func48, Try.ntmps48
 go_upto_region 1 with (fail)
 go_cut [12] (fun v12 wc => ∃ (kq : Nat) (q02 : Bool), v12 = .bool q02 ∧ Aside0 (sums_Add.j0 kq a0 a1 a2 q02 = some (r1, r2)) ∧ Aside0 (kq ≤ k) ∧ Aside0 (Below w.heap.size w wc))
 case first =>
  have H := HC4.out; clear HC4; replace H := Option.bind_eq_some_iff.mp H; obtain ⟨qy, A50, H⟩ := H; replace H : (if qy = true then (sums_Add.j0 k a0 a1 a2 true) else ((pat_IsNaN.f a1).bind fun qr => (sums_Add.j0 k a0 a1 a2 qr))) = some (r1, r2) := H; have A5 := Aside0.mk A50; clear A50
  by_cases c6 : qy = true
  · subst c6
    have H1 : (sums_Add.j0 k a0 a1 a2 true) = some (r1, r2) := by rw [if_pos rfl] at H; exact H
    clear H; have H := H1; clear H1; have H' := Aside0.mk H; clear H
    go_wp2_with (first | ((with_reducible refine gate_callee (f := 45) rfl ?_); refine goesL_ (some 14) rfl rfl Try.func45 (by kernel_rfl) rfl #[.int .u64 a0] rfl LMq ?_; (with_reducible refine (pat_IsNaN.calls a0 true _ A5.out).mono ?_); rintro e w7 ⟨rfl, hb⟩; refine ⟨_, rfl, ?_⟩; replace HB := Aside0.mk (below_step (kH HB) hb); (try clear hb); (try clear hb2); (try clear hk); (try clear hi)))
    go_meet
    case rel => exact ⟨_, (true), RSq, (by first | exact H' | (subst_vars; exact H')), ⟨by first | omega | exact Nat.le_refl _⟩, ⟨kH HB⟩⟩
  replace c6 := Bool.eq_false_iff.mpr c6; subst c6
  have H1 : ((pat_IsNaN.f a1).bind fun qr => (sums_Add.j0 k a0 a1 a2 qr)) = some (r1, r2) := by rw [if_neg (show ¬ (false = true) by decide)] at H; exact H
  clear H; have H := H1; clear H1; replace H := Option.bind_eq_some_iff.mp H; obtain ⟨qr, A80, H⟩ := H; replace H : (sums_Add.j0 k a0 a1 a2 qr) = some (r1, r2) := H; have A8 := Aside0.mk A80; clear A80; have H' := Aside0.mk H; clear H
  go_wp2_with (first | ((with_reducible refine gate_callee (f := 45) rfl ?_); refine goesL_ (some 14) rfl rfl Try.func45 (by kernel_rfl) rfl #[.int .u64 a0] rfl LMq ?_; (with_reducible refine (pat_IsNaN.calls a0 false _ A5.out).mono ?_); rintro e w9 ⟨rfl, hb⟩; refine ⟨_, rfl, ?_⟩; replace HB := Aside0.mk (below_step (kH HB) hb); (try clear hb); (try clear hb2); (try clear hk); (try clear hi)) | (go_at_call 45; (with_reducible refine (pat_IsNaN.calls a1 qr _ A8.out).mono ?_); rintro e w10 ⟨rfl, hb⟩; replace HB := Aside0.mk (below_step (kH HB) hb); (try clear hb); (try clear hb2); (try clear hk); (try clear hi)))
  go_meet
  case rel => exact ⟨_, (qr), RSq, (by first | exact H' | (subst_vars; exact H')), ⟨by first | omega | exact Nat.le_refl _⟩, ⟨kH HB⟩⟩
 case rest =>
  clear HC4; (try clear p2); (try clear c4); (try clear c6); (try clear p6); obtain ⟨kq, q02, rfl, HA, HJ3, HB⟩ := hcut
  cases kq with
  | zero => exact absurd HA.out (by simp [sums_Add.j0])
  | succ kj3 =>
   have H := HA.out; clear HA
   simp only [sums_Add.j0] at H
   by_cases c11 : q02 = true
   · subst c11
     have H1 : ((sums_none.f kj3 (([a0, a1] : List Int))).bind fun qu => (some (qu.1, qu.2))) = some (r1, r2) := by rw [if_pos rfl] at H; exact H
     clear H; have H := H1; clear H1; obtain ⟨y540, hy540⟩ : ∃ y_ : List Int, y_ = (([a0, a1] : List Int)) := ⟨_, rfl⟩
     replace H : ((sums_none.f kj3 y540).bind fun qu => (some (qu.1, qu.2))) = some (r1, r2) := by first | (rw [hy540]; with_reducible exact H) | (have H2_ := (Option.bind_some _ _).symm.trans H; rw [hy540]; with_reducible exact H2_) | (have H2_ := (Option.bind_some _ _).symm.trans H; with_reducible exact H2_) | with_reducible exact H | (rw [hy540]; exact H) | exact H
     have Ny540 := Aside0.mk hy540; clear hy540; replace H := Option.bind_eq_some_iff.mp H; obtain ⟨⟨q0k, q0l⟩, q0m, H⟩ := H; replace H : (some (q0k, q0l)) = some (r1, r2) := H; have A12 := Aside0.mk q0m; clear q0m
     simp only [Option.some.injEq, Prod.mk.injEq] at H
     obtain ⟨rfl, rfl⟩ := H
     go_wp2_with (first | ((with_reducible refine gate_dst (N := 21) rfl ?_); refine Kd.R_lit (Kd.int .u64) _ 22 ?hg (N := 21) ?hd (xs := ([a0, a1] : List Int)) (inner := [.int .u64 a0, .int .u64 a1]) (ok := fun _ => True) (okp := fun _ => True) ?hr ?hp (fun _ hk => hk) trivial (Below.refl _ _) (Nat.le_refl _) (by simp) ?_; (case hd => rfl); (case hg => rfl); (case hr => first | (go_simp; done) | (go_simp; rfl)); (case hp => exact (Reps.one (show Kd.M (Kd.int .u64) _ _ _ a0 [.int .u64 a0] from rfl) (Reps.one (show Kd.M (Kd.int .u64) _ _ _ a1 [.int .u64 a1] from rfl) (Reps.none _ _)))); intro v541 w13 ho14 hb hg_ hnew_; clear hg_ hnew_; (first | rw [← Ny540.out] at ho14 | (simp only [Int.reduceToNat] at ho14; rw [← Ny540.out] at ho14)); have qz := Aside0.mk (Kd.R_lower ho14 (below_size (kH HB))); replace HB := Aside0.mk (below_step (kH HB) hb); clear hb ho14; obtain ⟨q1k, q1l, eo15⟩ := Kd.R_slice qz.out; subst eo15) | ((with_reducible refine gate_callee (f := 81) rfl ?_); refine goesL_ (some 22) rfl rfl Try.func81 (by kernel_rfl) rfl #[.slice q1k y540.length q1l] rfl LMq ?_; (with_reducible refine (sums_none.calls kj3 _ _ y540 q0k q0l _ ?side1 ?side2 A12.out).mono ?_); (case side1 => repeat (first | exact (Kd.R_reads' qz.out).2.2 | (with_reducible refine Kd.C_alloc ?_ _) | (with_reducible refine Kd.C_drewN ?_ _) | (with_reducible refine Kd.C_drew ?_))); (case side2 => exact (Kd.R_reads' qz.out).2.1); rintro e w16 ⟨rfl, hb⟩; refine ⟨_, rfl, ?_⟩; replace qz := Aside0.mk (Kd.R_below (kR qz) hb); replace HB := Aside0.mk (below_step (kH HB) hb); (try clear hb); (try clear hb2); (try clear hk); (try clear hi)))
     go_ret2
     exact ⟨by first | rfl | (simp [errW_none, errW_some] <;> rfl) | (simp [*, errW_none, errW_some] <;> rfl), kH HB⟩
   replace c11 := Bool.eq_false_iff.mpr c11; subst c11
   have H1 : ((pat_Class.f a0).bind fun qo => (if qo = 3 then ((pat_Class.f a1).bind fun qk => (if qk = 3 then (sums_Add.j1 kj3 a0 a1 a2 (a0 != a1)) else (sums_Add.j1 kj3 a0 a1 a2 false))) else (sums_Add.j1 kj3 a0 a1 a2 false))) = some (r1, r2) := by rw [if_neg (show ¬ (false = true) by decide)] at H; exact H
   clear H; have H := H1; clear H1; have q0e := Aside0.mk H; clear H
   go_upto_region 3 with (fail)
   go_cut [25] (fun v25 wc => ∃ (kq : Nat) (q03 : Bool), v25 = .bool q03 ∧ Aside0 (sums_Add.j1 kq a0 a1 a2 q03 = some (r1, r2)) ∧ Aside0 (kq ≤ kj3) ∧ Aside0 (Below w.heap.size w wc))
   case first =>
    have H := q0e.out; clear q0e; replace H := Option.bind_eq_some_iff.mp H; obtain ⟨qo, q0n, H⟩ := H; replace H : (if qo = 3 then ((pat_Class.f a1).bind fun qk => (if qk = 3 then (sums_Add.j1 kj3 a0 a1 a2 (a0 != a1)) else (sums_Add.j1 kj3 a0 a1 a2 false))) else (sums_Add.j1 kj3 a0 a1 a2 false)) = some (r1, r2) := H; have A18 := Aside0.mk q0n; clear q0n
    by_cases c19 : qo = 3
    · rw [if_pos c19] at H
      have qx : (qo == 3) = true := beq_iff_eq.mpr c19; have q0f : (qo != 3) = false := bne_eq_false_iff_eq.mpr c19; clear c19
      (first | rw [qx] | (simp only [i64_w, i32_w]; rw [qx]) | skip)
      replace H := Option.bind_eq_some_iff.mp H; obtain ⟨qk, q0o, H⟩ := H; replace H : (if qk = 3 then (sums_Add.j1 kj3 a0 a1 a2 (a0 != a1)) else (sums_Add.j1 kj3 a0 a1 a2 false)) = some (r1, r2) := H; have A20 := Aside0.mk q0o; clear q0o
      by_cases c21 : qk = 3
      · rw [if_pos c21] at H
        have q0g : (qk == 3) = true := beq_iff_eq.mpr c21; have q0h : (qk != 3) = false := bne_eq_false_iff_eq.mpr c21; clear c21; have H' := Aside0.mk H; clear H
        go_wp2_with (first | ((with_reducible refine gate_callee (f := 80) rfl ?_); refine goesL_ (some 27) rfl rfl Try.func80 (by kernel_rfl) rfl #[.int .u64 a0] rfl LMq ?_; (with_reducible refine (pat_Class.calls a0 qo _ A18.out).mono ?_); rintro e w22 ⟨rfl, hb⟩; refine ⟨_, rfl, ?_⟩; replace HB := Aside0.mk (below_step (kH HB) hb); (try clear hb); (try clear hb2); (try clear hk); (try clear hi)) | (go_at_call 80; (with_reducible refine (pat_Class.calls a1 qk _ A20.out).mono ?_); rintro e w23 ⟨rfl, hb⟩; replace HB := Aside0.mk (below_step (kH HB) hb); (try clear hb); (try clear hb2); (try clear hk); (try clear hi)))
        go_meet
        case rel => exact ⟨_, ((a0 != a1)), RSq, (by first | exact H' | (subst_vars; exact H')), ⟨by have := HJ3.out; first | omega | exact Nat.le_refl _⟩, ⟨kH HB⟩⟩
      rw [if_neg c21] at H
      have q0g : (qk == 3) = false := beq_eq_false_iff_ne.mpr c21; have q0h : (qk != 3) = true := bne_iff_ne.mpr c21; have H' := Aside0.mk H; clear H
      go_wp2_with (first | ((with_reducible refine gate_callee (f := 80) rfl ?_); refine goesL_ (some 27) rfl rfl Try.func80 (by kernel_rfl) rfl #[.int .u64 a0] rfl LMq ?_; (with_reducible refine (pat_Class.calls a0 qo _ A18.out).mono ?_); rintro e w24 ⟨rfl, hb⟩; refine ⟨_, rfl, ?_⟩; replace HB := Aside0.mk (below_step (kH HB) hb); (try clear hb); (try clear hb2); (try clear hk); (try clear hi)) | (go_at_call 80; (with_reducible refine (pat_Class.calls a1 qk _ A20.out).mono ?_); rintro e w25 ⟨rfl, hb⟩; replace HB := Aside0.mk (below_step (kH HB) hb); (try clear hb); (try clear hb2); (try clear hk); (try clear hi)))
      go_meet
      case rel => exact ⟨_, (false), RSq, (by first | exact H' | (subst_vars; exact H')), ⟨by have := HJ3.out; first | omega | exact Nat.le_refl _⟩, ⟨kH HB⟩⟩
    rw [if_neg c19] at H
    have qx : (qo == 3) = false := beq_eq_false_iff_ne.mpr c19; have q0f : (qo != 3) = true := bne_iff_ne.mpr c19
    (first | rw [qx] | (simp only [i64_w, i32_w]; rw [qx]) | skip)
    have H' := Aside0.mk H; clear H
    go_wp2_with (first | ((with_reducible refine gate_callee (f := 80) rfl ?_); refine goesL_ (some 27) rfl rfl Try.func80 (by kernel_rfl) rfl #[.int .u64 a0] rfl LMq ?_; (with_reducible refine (pat_Class.calls a0 qo _ A18.out).mono ?_); rintro e w26 ⟨rfl, hb⟩; refine ⟨_, rfl, ?_⟩; replace HB := Aside0.mk (below_step (kH HB) hb); (try clear hb); (try clear hb2); (try clear hk); (try clear hi)))
    go_meet
    case rel => exact ⟨_, (false), RSq, (by first | exact H' | (subst_vars; exact H')), ⟨by have := HJ3.out; first | omega | exact Nat.le_refl _⟩, ⟨kH HB⟩⟩
   case rest =>
    clear q0e; (try clear c1); (try clear c2); (try clear p2); (try clear c4); (try clear c6); (try clear p6); (try clear c8); (try clear c11); (try clear c19); (try clear qx); (try clear q0f); (try clear c21); (try clear q0g); (try clear q0h); (try clear p2); (try clear p6); obtain ⟨kq, q03, rfl, HA, q0i, HB⟩ := hcut
    cases kq with
    | zero => exact absurd HA.out (by simp [sums_Add.j1])
    | succ qa =>
     have H := HA.out; clear HA
     simp only [sums_Add.j1] at H
     by_cases c27 : q03 = true
     · subst c27
       have H1 : (some (9221120237041090560, 1)) = some (r1, r2) := by rw [if_pos rfl] at H; exact H
       clear H; have H := H1; clear H1
       simp only [Option.some.injEq, Prod.mk.injEq] at H
       obtain ⟨rfl, rfl⟩ := H
       go_wp2
       go_ret2
       exact ⟨by first | rfl | (simp [errW_none, errW_some] <;> rfl) | (simp [*, errW_none, errW_some] <;> rfl), kH HB⟩
     replace c27 := Bool.eq_false_iff.mpr c27; subst c27
     have H1 : ((pat_Class.f a0).bind fun qp => (if qp = 3 then (some (a0, 0)) else ((pat_Class.f a1).bind fun ql => (if ql = 3 then (some (a1, 0)) else ((rnd_Of.f a0).bind fun q1 => ((rnd_Of.f a1).bind fun q0 => (if q1.2.2.2.2.2.2.2.isNone = true then (if q0.2.2.2.2.2.2.2.isNone = true then (sums_Add.j2 qa a0 a1 a2 false q1.1 q1.2.1 q1.2.2.1 q1.2.2.2.1 q1.2.2.2.2.1 q1.2.2.2.2.2.1 q1.2.2.2.2.2.2.1 q0.1 q0.2.1 q0.2.2.1 q0.2.2.2.1 q0.2.2.2.2.1 q0.2.2.2.2.2.1 q0.2.2.2.2.2.2.1) else (sums_Add.j2 qa a0 a1 a2 true q1.1 q1.2.1 q1.2.2.1 q1.2.2.2.1 q1.2.2.2.2.1 q1.2.2.2.2.2.1 q1.2.2.2.2.2.2.1 q0.1 q0.2.1 q0.2.2.1 q0.2.2.2.1 q0.2.2.2.2.1 q0.2.2.2.2.2.1 q0.2.2.2.2.2.2.1)) else (sums_Add.j2 qa a0 a1 a2 true q1.1 q1.2.1 q1.2.2.1 q1.2.2.2.1 q1.2.2.2.2.1 q1.2.2.2.2.2.1 q1.2.2.2.2.2.2.1 q0.1 q0.2.1 q0.2.2.1 q0.2.2.2.1 q0.2.2.2.2.1 q0.2.2.2.2.2.1 q0.2.2.2.2.2.2.1)))))))) = some (r1, r2) := by rw [if_neg (show ¬ (false = true) by decide)] at H; exact H
     clear H; have H := H1; clear H1; replace H := Option.bind_eq_some_iff.mp H; obtain ⟨qp, q0p, H⟩ := H; replace H : (if qp = 3 then (some (a0, 0)) else ((pat_Class.f a1).bind fun ql => (if ql = 3 then (some (a1, 0)) else ((rnd_Of.f a0).bind fun q1 => ((rnd_Of.f a1).bind fun q0 => (if q1.2.2.2.2.2.2.2.isNone = true then (if q0.2.2.2.2.2.2.2.isNone = true then (sums_Add.j2 qa a0 a1 a2 false q1.1 q1.2.1 q1.2.2.1 q1.2.2.2.1 q1.2.2.2.2.1 q1.2.2.2.2.2.1 q1.2.2.2.2.2.2.1 q0.1 q0.2.1 q0.2.2.1 q0.2.2.2.1 q0.2.2.2.2.1 q0.2.2.2.2.2.1 q0.2.2.2.2.2.2.1) else (sums_Add.j2 qa a0 a1 a2 true q1.1 q1.2.1 q1.2.2.1 q1.2.2.2.1 q1.2.2.2.2.1 q1.2.2.2.2.2.1 q1.2.2.2.2.2.2.1 q0.1 q0.2.1 q0.2.2.1 q0.2.2.2.1 q0.2.2.2.2.1 q0.2.2.2.2.2.1 q0.2.2.2.2.2.2.1)) else (sums_Add.j2 qa a0 a1 a2 true q1.1 q1.2.1 q1.2.2.1 q1.2.2.2.1 q1.2.2.2.2.1 q1.2.2.2.2.2.1 q1.2.2.2.2.2.2.1 q0.1 q0.2.1 q0.2.2.1 q0.2.2.2.1 q0.2.2.2.2.1 q0.2.2.2.2.2.1 q0.2.2.2.2.2.2.1))))))) = some (r1, r2) := H; have A28 := Aside0.mk q0p; clear q0p
     by_cases c29 : qp = 3
     · rw [if_pos c29] at H
       have q0q : (qp == 3) = true := beq_iff_eq.mpr c29; have q0r : (qp != 3) = false := bne_eq_false_iff_eq.mpr c29; clear c29
       simp only [Option.some.injEq, Prod.mk.injEq] at H
       obtain ⟨rfl, rfl⟩ := H
       go_wp2_with (first | ((with_reducible refine gate_callee (f := 80) rfl ?_); refine goesL_ (some 41) rfl rfl Try.func80 (by kernel_rfl) rfl #[.int .u64 a0] rfl LMq ?_; (with_reducible refine (pat_Class.calls a0 qp _ A28.out).mono ?_); rintro e w30 ⟨rfl, hb⟩; refine ⟨_, rfl, ?_⟩; replace HB := Aside0.mk (below_step (kH HB) hb); (try clear hb); (try clear hb2); (try clear hk); (try clear hi)))
       go_ret2
       exact ⟨by first | rfl | (simp [errW_none, errW_some] <;> rfl) | (simp [*, errW_none, errW_some] <;> rfl), kH HB⟩
     rw [if_neg c29] at H
     have q0q : (qp == 3) = false := beq_eq_false_iff_ne.mpr c29; have q0r : (qp != 3) = true := bne_iff_ne.mpr c29; replace H := Option.bind_eq_some_iff.mp H; obtain ⟨ql, q0s, H⟩ := H; replace H : (if ql = 3 then (some (a1, 0)) else ((rnd_Of.f a0).bind fun q1 => ((rnd_Of.f a1).bind fun q0 => (if q1.2.2.2.2.2.2.2.isNone = true then (if q0.2.2.2.2.2.2.2.isNone = true then (sums_Add.j2 qa a0 a1 a2 false q1.1 q1.2.1 q1.2.2.1 q1.2.2.2.1 q1.2.2.2.2.1 q1.2.2.2.2.2.1 q1.2.2.2.2.2.2.1 q0.1 q0.2.1 q0.2.2.1 q0.2.2.2.1 q0.2.2.2.2.1 q0.2.2.2.2.2.1 q0.2.2.2.2.2.2.1) else (sums_Add.j2 qa a0 a1 a2 true q1.1 q1.2.1 q1.2.2.1 q1.2.2.2.1 q1.2.2.2.2.1 q1.2.2.2.2.2.1 q1.2.2.2.2.2.2.1 q0.1 q0.2.1 q0.2.2.1 q0.2.2.2.1 q0.2.2.2.2.1 q0.2.2.2.2.2.1 q0.2.2.2.2.2.2.1)) else (sums_Add.j2 qa a0 a1 a2 true q1.1 q1.2.1 q1.2.2.1 q1.2.2.2.1 q1.2.2.2.2.1 q1.2.2.2.2.2.1 q1.2.2.2.2.2.2.1 q0.1 q0.2.1 q0.2.2.1 q0.2.2.2.1 q0.2.2.2.2.1 q0.2.2.2.2.2.1 q0.2.2.2.2.2.2.1))))) = some (r1, r2) := H; have A31 := Aside0.mk q0s; clear q0s
     by_cases c32 : ql = 3
     · rw [if_pos c32] at H
       have q0t : (ql == 3) = true := beq_iff_eq.mpr c32; have q0u : (ql != 3) = false := bne_eq_false_iff_eq.mpr c32; clear c32
       simp only [Option.some.injEq, Prod.mk.injEq] at H
       obtain ⟨rfl, rfl⟩ := H
       go_wp2_with (first | ((with_reducible refine gate_callee (f := 80) rfl ?_); refine goesL_ (some 41) rfl rfl Try.func80 (by kernel_rfl) rfl #[.int .u64 a0] rfl LMq ?_; (with_reducible refine (pat_Class.calls a0 qp _ A28.out).mono ?_); rintro e w33 ⟨rfl, hb⟩; refine ⟨_, rfl, ?_⟩; replace HB := Aside0.mk (below_step (kH HB) hb); (try clear hb); (try clear hb2); (try clear hk); (try clear hi)) | ((with_reducible refine gate_callee (f := 80) rfl ?_); refine goesL_ (some 46) rfl rfl Try.func80 (by kernel_rfl) rfl #[.int .u64 a1] rfl LMq ?_; (with_reducible refine (pat_Class.calls a1 ql _ A31.out).mono ?_); rintro e w34 ⟨rfl, hb⟩; refine ⟨_, rfl, ?_⟩; replace HB := Aside0.mk (below_step (kH HB) hb); (try clear hb); (try clear hb2); (try clear hk); (try clear hi)))
       go_ret2
       exact ⟨by first | rfl | (simp [errW_none, errW_some] <;> rfl) | (simp [*, errW_none, errW_some] <;> rfl), kH HB⟩
     rw [if_neg c32] at H
     have q0t : (ql == 3) = false := beq_eq_false_iff_ne.mpr c32; have q0u : (ql != 3) = true := bne_iff_ne.mpr c32; replace H := Option.bind_eq_some_iff.mp H; obtain ⟨⟨q2, q3, q4, q6, q7, q8, q9, q04⟩, q0v, H⟩ := H; replace H : ((rnd_Of.f a1).bind fun q0 => (if q04.isNone = true then (if q0.2.2.2.2.2.2.2.isNone = true then (sums_Add.j2 qa a0 a1 a2 false q2 q3 q4 q6 q7 q8 q9 q0.1 q0.2.1 q0.2.2.1 q0.2.2.2.1 q0.2.2.2.2.1 q0.2.2.2.2.2.1 q0.2.2.2.2.2.2.1) else (sums_Add.j2 qa a0 a1 a2 true q2 q3 q4 q6 q7 q8 q9 q0.1 q0.2.1 q0.2.2.1 q0.2.2.2.1 q0.2.2.2.2.1 q0.2.2.2.2.2.1 q0.2.2.2.2.2.2.1)) else (sums_Add.j2 qa a0 a1 a2 true q2 q3 q4 q6 q7 q8 q9 q0.1 q0.2.1 q0.2.2.1 q0.2.2.2.1 q0.2.2.2.2.1 q0.2.2.2.2.2.1 q0.2.2.2.2.2.2.1))) = some (r1, r2) := H; have A35 := Aside0.mk q0v; clear q0v; replace H := Option.bind_eq_some_iff.mp H; obtain ⟨⟨qc, qd, qe, qf, qg, qh, qi, q05⟩, q0w, H⟩ := H; replace H : (if q04.isNone = true then (if q05.isNone = true then (sums_Add.j2 qa a0 a1 a2 false q2 q3 q4 q6 q7 q8 q9 qc qd qe qf qg qh qi) else (sums_Add.j2 qa a0 a1 a2 true q2 q3 q4 q6 q7 q8 q9 qc qd qe qf qg qh qi)) else (sums_Add.j2 qa a0 a1 a2 true q2 q3 q4 q6 q7 q8 q9 qc qd qe qf qg qh qi)) = some (r1, r2) := H; have A36 := Aside0.mk q0w; clear q0w; have q0j := Aside0.mk H; clear H
     go_upto_region 11 with (first | ((with_reducible refine gate_callee (f := 80) rfl ?_); refine goesL_ (some 41) rfl rfl Try.func80 (by kernel_rfl) rfl #[.int .u64 a0] rfl LMq ?_; (with_reducible refine (pat_Class.calls a0 qp _ A28.out).mono ?_); rintro e w38 ⟨rfl, hb⟩; refine ⟨_, rfl, ?_⟩; replace HB := Aside0.mk (below_step (kH HB) hb); (try clear hb); (try clear hb2); (try clear hk); (try clear hi)) | ((with_reducible refine gate_callee (f := 80) rfl ?_); refine goesL_ (some 46) rfl rfl Try.func80 (by kernel_rfl) rfl #[.int .u64 a1] rfl LMq ?_; (with_reducible refine (pat_Class.calls a1 ql _ A31.out).mono ?_); rintro e w39 ⟨rfl, hb⟩; refine ⟨_, rfl, ?_⟩; replace HB := Aside0.mk (below_step (kH HB) hb); (try clear hb); (try clear hb2); (try clear hk); (try clear hi)) | ((with_reducible refine gate_callee (f := 49) rfl ?_); refine goesL_ (some 51) rfl rfl Try.func49 (by kernel_rfl) rfl #[.int .u64 a0] rfl LMq ?_; (with_reducible refine (rnd_Of.calls a0 q2 q3 q4 q6 q7 q8 q9 q04 _ A35.out).mono ?_); rintro e w40 ⟨rfl, hb⟩; refine ⟨_, rfl, ?_⟩; replace HB := Aside0.mk (below_step (kH HB) hb); (try clear hb); (try clear hb2); (try clear hk); (try clear hi); (try simp only [errW_none, errW_some])) | ((with_reducible refine gate_dst (N := 8) rfl ?_); refine box_event ?hg (N := 8) ?hd (cs := #[.bool false, .int .i64 0, .int .u64 0, .int .u64 0, .int .u64 0, .int .u64 0, .bool false]) (t := 61) ?hr ?_; (case hd => rfl); (case hg => rfl); (case hr => first | (go_simp; done) | (go_simp; rfl)); intro qq hg w41 hbox hb; have qb := Aside0.mk (hbox); have GW557 := Aside0.mk ((by rw [hg]; exact (below_size (kH HB)) : w.heap.size ≤ qq)); have qm := Aside0.mk ((by rw [hg]; exact (below_size (kH HB)) : w.heap.size ≤ qq)); replace HB := Aside0.mk (below_step (kH HB) hb); clear hb hbox hg; obtain ⟨q1m, q1n, q1o, q1p, q1q, q1r, q1s, q1t, q1u, q1v, q1w, q1x, q1y, q1z⟩ := W7q qb) | ((with_reducible refine gate_callee (f := 49) rfl ?_); refine goesL_ (some 56) rfl rfl Try.func49 (by kernel_rfl) rfl #[.int .u64 a1] rfl LMq ?_; (with_reducible refine (rnd_Of.calls a1 qc qd qe qf qg qh qi q05 _ A36.out).mono ?_); rintro e w43 ⟨rfl, hb⟩; refine ⟨_, rfl, ?_⟩; replace qb := Aside0.mk (blk_below (g := qq) (o := .cells #[.bool q2, .int .i64 q3, .int .u64 q4, .int .u64 q6, .int .u64 q7, .int .u64 q8, .bool q9] 61 (0, 0)) (kF qb) hb); replace HB := Aside0.mk (below_step (kHs HB qm) hb); (try clear hb); (try clear hb2); (try clear hk); (try clear hi); (try simp only [errW_none, errW_some])) | ((with_reducible refine gate_dst (N := 10) rfl ?_); refine box_event ?hg (N := 10) ?hd (cs := #[.bool false, .int .i64 0, .int .u64 0, .int .u64 0, .int .u64 0, .int .u64 0, .bool false]) (t := 61) ?hr ?_; (case hd => rfl); (case hg => rfl); (case hr => first | (go_simp; done) | (go_simp; rfl)); intro qt hg w44 hbox hb; have qn := Aside0.mk (hbox); have GW566 := Aside0.mk ((by rw [hg]; exact (below_size (kHs HB qm)) : w.heap.size ≤ qt)); have qs := Aside0.mk ((by rw [hg]; exact (below_size (kHs HB qm)) : w.heap.size ≤ qt)); replace HB := Aside0.mk (below_step (kHs HB qm) hb); have q0x := Aside0.mk ((by rw [hg]; exact Nat.ne_of_lt (blk_lt (g := qq) (o := .cells #[.bool q2, .int .i64 q3, .int .u64 q4, .int .u64 q6, .int .u64 q7, .int .u64 q8, .bool q9] 61 (0, 0)) (kB qb)) : qq ≠ qt)); have q0y := Aside0.mk ((by rw [hg]; exact Nat.ne_of_gt (blk_lt (g := qq) (o := .cells #[.bool q2, .int .i64 q3, .int .u64 q4, .int .u64 q6, .int .u64 q7, .int .u64 q8, .bool q9] 61 (0, 0)) (kB qb)) : qt ≠ qq)); replace qb := Aside0.mk (blk_below (g := qq) (o := .cells #[.bool q2, .int .i64 q3, .int .u64 q4, .int .u64 q6, .int .u64 q7, .int .u64 q8, .bool q9] 61 (0, 0)) (kB qb) hb); clear hb hbox hg; have hnb45 := q0y.out; have hnc45 := q0x.out; obtain ⟨q20, q21, q22, q23, q24, q25, q26, q27, q28, q29, q2a, q2b, q2c, q2d⟩ := W7q qn))
     (try simp only [Act.put, List.setIfInBounds_toArray, List.set_cons_zero, List.set_cons_succ])
     go_cut [64] (fun v64 wc => ∃ (kq : Nat) (q06 : Bool), v64 = .bool q06 ∧ Aside0 (sums_Add.j2 kq a0 a1 a2 q06 q2 q3 q4 q6 q7 q8 q9 qc qd qe qf qg qh qi = some (r1, r2)) ∧ Aside0 (kq ≤ qa) ∧ Aside0 (wc.heap[qq]? = some (.cells #[.bool q2, .int .i64 q3, .int .u64 q4, .int .u64 q6, .int .u64 q7, .int .u64 q8, .bool q9] 61 (0, 0))) ∧ Aside0 (wc.heap[qt]? = some (.cells #[.bool qc, .int .i64 qd, .int .u64 qe, .int .u64 qf, .int .u64 qg, .int .u64 qh, .bool qi] 61 (0, 0))) ∧ Aside0 (Below w.heap.size w wc))
     case first =>
      have H := q0j.out; clear q0j
      rcases q04 with _ | q567
      · have H1 : (if q05.isNone = true then (sums_Add.j2 qa a0 a1 a2 false q2 q3 q4 q6 q7 q8 q9 qc qd qe qf qg qh qi) else (sums_Add.j2 qa a0 a1 a2 true q2 q3 q4 q6 q7 q8 q9 qc qd qe qf qg qh qi)) = some (r1, r2) := by rw [if_pos (show (none : Option Int).isNone = true by rfl)] at H; exact H
        clear H; have H := H1; clear H1
        try simp only [errW_none, errW_some]
        rcases q05 with _ | q568
        · have H1 : (sums_Add.j2 qa a0 a1 a2 false q2 q3 q4 q6 q7 q8 q9 qc qd qe qf qg qh qi) = some (r1, r2) := by rw [if_pos (show (none : Option Int).isNone = true by rfl)] at H; exact H
          clear H; have H := H1; clear H1
          try simp only [errW_none, errW_some]
          have H' := Aside0.mk H; clear H
          go_wp2
          go_meet
          case rel => exact ⟨_, (false), RSq, (by first | exact H' | (subst_vars; exact H')), ⟨by have := HJ3.out; have := q0i.out; first | omega | exact Nat.le_refl _⟩, ⟨kF qb⟩, ⟨kF qn⟩, ⟨kHt HB qm qs⟩⟩
        have H1 : (sums_Add.j2 qa a0 a1 a2 true q2 q3 q4 q6 q7 q8 q9 qc qd qe qf qg qh qi) = some (r1, r2) := by rw [if_neg (show ¬ (some q568).isNone = true by simp)] at H; exact H
        clear H; have H := H1; clear H1
        try simp only [errW_none, errW_some]
        have H' := Aside0.mk H; clear H
        go_wp2
        go_meet
        case rel => exact ⟨_, (true), RSq, (by first | exact H' | (subst_vars; exact H')), ⟨by have := HJ3.out; have := q0i.out; first | omega | exact Nat.le_refl _⟩, ⟨kF qb⟩, ⟨kF qn⟩, ⟨kHt HB qm qs⟩⟩
      have H1 : (sums_Add.j2 qa a0 a1 a2 true q2 q3 q4 q6 q7 q8 q9 qc qd qe qf qg qh qi) = some (r1, r2) := by rw [if_neg (show ¬ (some q567).isNone = true by simp)] at H; exact H
      clear H; have H := H1; clear H1
      try simp only [errW_none, errW_some]
      have H' := Aside0.mk H; clear H
      go_wp2
      go_meet
      case rel => exact ⟨_, (true), RSq, (by first | exact H' | (subst_vars; exact H')), ⟨by have := HJ3.out; have := q0i.out; first | omega | exact Nat.le_refl _⟩, ⟨kF qb⟩, ⟨kF qn⟩, ⟨kHt HB qm qs⟩⟩
     case rest =>
      clear q0j; (try clear c1); (try clear c2); (try clear p2); (try clear c3); (try clear c4); (try clear q5); (try clear c6); (try clear p6); (try clear c8); (try clear c11); (try clear c19); (try clear qx); (try clear q0f); (try clear c21); (try clear q0g); (try clear q0h); (try clear c27); (try clear c29); (try clear q0q); (try clear q0r); (try clear c32); (try clear q0t); (try clear q0u); (try clear c45); (try clear q1m q1n q1o q1p q1q q1r q1s); (try clear q20 q21 q22 q23 q24 q25 q26); (try clear q1t q1u q1v q1w q1x q1y q1z); (try clear q27 q28 q29 q2a q2b q2c q2d); (try clear p2); (try clear p6); (try clear q567); (try clear q568); obtain ⟨kq, q06, rfl, HA, HJ36, qb, qn, HB⟩ := hcut
      cases kq with
      | zero => exact absurd HA.out (by simp [sums_Add.j2])
      | succ q00 =>
       have H := HA.out; clear HA
       simp only [sums_Add.j2] at H
       by_cases c47 : q06 = true
       · subst c47
         have H1 : ((sums_none.f q00 (([a0, a1] : List Int))).bind fun qv => (some (qv.1, qv.2))) = some (r1, r2) := by rw [if_pos rfl] at H; exact H
         clear H; have H := H1; clear H1; obtain ⟨y569, hy569⟩ : ∃ y_ : List Int, y_ = (([a0, a1] : List Int)) := ⟨_, rfl⟩
         replace H : ((sums_none.f q00 y569).bind fun qv => (some (qv.1, qv.2))) = some (r1, r2) := by first | (rw [hy569]; with_reducible exact H) | (have H2_ := (Option.bind_some _ _).symm.trans H; rw [hy569]; with_reducible exact H2_) | (have H2_ := (Option.bind_some _ _).symm.trans H; with_reducible exact H2_) | with_reducible exact H | (rw [hy569]; exact H) | exact H
         have Ny569 := Aside0.mk hy569; clear hy569; replace H := Option.bind_eq_some_iff.mp H; obtain ⟨⟨q0z, q10⟩, q11, H⟩ := H; replace H : (some (q0z, q10)) = some (r1, r2) := H; have A48 := Aside0.mk q11; clear q11
         simp only [Option.some.injEq, Prod.mk.injEq] at H
         obtain ⟨rfl, rfl⟩ := H
         go_wp2_with (first | ((with_reducible refine gate_dst (N := 67) rfl ?_); refine Kd.R_lit (Kd.int .u64) _ 22 ?hg (N := 67) ?hd (xs := ([a0, a1] : List Int)) (inner := [.int .u64 a0, .int .u64 a1]) (ok := fun _ => True) (okp := fun _ => True) ?hr ?hp (fun _ hk => hk) trivial (Below.refl _ _) (Nat.le_refl _) (by simp) ?_; (case hd => rfl); (case hg => rfl); (case hr => first | (go_simp; done) | (go_simp; rfl)); (case hp => exact (Reps.one (show Kd.M (Kd.int .u64) _ _ _ a0 [.int .u64 a0] from rfl) (Reps.one (show Kd.M (Kd.int .u64) _ _ _ a1 [.int .u64 a1] from rfl) (Reps.none _ _)))); intro v570 w49 ho50 hb hg_ hnew_; clear hg_ hnew_; (first | rw [← Ny569.out] at ho50 | (simp only [Int.reduceToNat] at ho50; rw [← Ny569.out] at ho50)); have q01 := Aside0.mk (Kd.R_lower ho50 (below_size (kHt HB qm qs))); replace qb := Aside0.mk (blk_below (g := qq) (o := .cells #[.bool q2, .int .i64 q3, .int .u64 q4, .int .u64 q6, .int .u64 q7, .int .u64 q8, .bool q9] 61 (0, 0)) (kB qb) hb); replace qn := Aside0.mk (blk_below (g := qt) (o := .cells #[.bool qc, .int .i64 qd, .int .u64 qe, .int .u64 qf, .int .u64 qg, .int .u64 qh, .bool qi] 61 (0, 0)) (kB qn) hb); replace HB := Aside0.mk (below_step (kHt HB qm qs) hb); clear hb ho50; obtain ⟨q2e, q2f, eo51⟩ := Kd.R_slice q01.out; subst eo51) | ((with_reducible refine gate_callee (f := 81) rfl ?_); refine goesL_ (some 68) rfl rfl Try.func81 (by kernel_rfl) rfl #[.slice q2e y569.length q2f] rfl LMq ?_; (with_reducible refine (sums_none.calls q00 _ _ y569 q0z q10 _ ?side1 ?side2 A48.out).mono ?_); (case side1 => repeat (first | exact (Kd.R_reads' q01.out).2.2 | (with_reducible refine Kd.C_alloc ?_ _) | (with_reducible refine Kd.C_drewN ?_ _) | (with_reducible refine Kd.C_drew ?_))); (case side2 => exact (Kd.R_reads' q01.out).2.1); rintro e w52 ⟨rfl, hb⟩; refine ⟨_, rfl, ?_⟩; replace q01 := Aside0.mk (Kd.R_below (kR q01) hb); replace qb := Aside0.mk (blk_below (g := qq) (o := .cells #[.bool q2, .int .i64 q3, .int .u64 q4, .int .u64 q6, .int .u64 q7, .int .u64 q8, .bool q9] 61 (0, 0)) (kB qb) hb); replace qn := Aside0.mk (blk_below (g := qt) (o := .cells #[.bool qc, .int .i64 qd, .int .u64 qe, .int .u64 qf, .int .u64 qg, .int .u64 qh, .bool qi] 61 (0, 0)) (kB qn) hb); replace HB := Aside0.mk (below_step (kHt HB qm qs) hb); (try clear hb); (try clear hb2); (try clear hk); (try clear hi)))
         go_ret2
         exact ⟨by first | rfl | (simp [errW_none, errW_some] <;> rfl) | (simp [*, errW_none, errW_some] <;> rfl), kHt HB qm qs⟩
       replace c47 := Bool.eq_false_iff.mpr c47; subst c47
       have H1 : ((sums_join.f q00 q2 q3 q4 q6 q7 q8 q9 qc qd qe qf qg qh qi a2).bind fun qj => ((rnd_Round.f qj.1 qj.2.1 qj.2.2.1 qj.2.2.2.1 qj.2.2.2.2.1 qj.2.2.2.2.2.1 qj.2.2.2.2.2.2 a2).bind fun qw => (some (qw.1, qw.2)))) = some (r1, r2) := by rw [if_neg (show ¬ (false = true) by decide)] at H; exact H
       clear H; have H := H1; clear H1; replace H := Option.bind_eq_some_iff.mp H; obtain ⟨⟨q07, q08, q09, q0a, q0b, q0c, q0d⟩, q12, H⟩ := H; replace H : ((rnd_Round.f q07 q08 q09 q0a q0b q0c q0d a2).bind fun qw => (some (qw.1, qw.2))) = some (r1, r2) := H; have A53 := Aside0.mk q12; clear q12; replace H := Option.bind_eq_some_iff.mp H; obtain ⟨⟨q13, q14⟩, q15, H⟩ := H; replace H : (some (q13, q14)) = some (r1, r2) := H; have A54 := Aside0.mk q15; clear q15
       simp only [Option.some.injEq, Prod.mk.injEq] at H
       obtain ⟨rfl, rfl⟩ := H; have hnb55 := q0x.out; have hnc55 := q0y.out; obtain ⟨_, _, _, _, _, _, _, _, _, _, _, _, _, _⟩ := W7q qb; obtain ⟨_, _, _, _, _, _, _, _, _, _, _, _, _, _⟩ := W7q qn
       go_wp2_with (first | ((with_reducible refine gate_callee (f := 82) rfl ?_); refine goesL_ (some 74) rfl rfl Try.func82 (by kernel_rfl) rfl #[.agg #[.bool q2, .int .i64 q3, .int .u64 q4, .int .u64 q6, .int .u64 q7, .int .u64 q8, .bool q9], .agg #[.bool qc, .int .i64 qd, .int .u64 qe, .int .u64 qf, .int .u64 qg, .int .u64 qh, .bool qi], .int .i64 a2] rfl LMq ?_; (with_reducible refine (sums_join.calls q00 q2 q3 q4 q6 q7 q8 q9 qc qd qe qf qg qh qi a2 q07 q08 q09 q0a q0b q0c q0d _ A53.out).mono ?_); rintro e w58 ⟨rfl, hb⟩; refine ⟨_, rfl, ?_⟩; replace qb := Aside0.mk (blk_below (g := qq) (o := .cells #[.bool q2, .int .i64 q3, .int .u64 q4, .int .u64 q6, .int .u64 q7, .int .u64 q8, .bool q9] 61 (0, 0)) (kB qb) hb); replace qn := Aside0.mk (blk_below (g := qt) (o := .cells #[.bool qc, .int .i64 qd, .int .u64 qe, .int .u64 qf, .int .u64 qg, .int .u64 qh, .bool qi] 61 (0, 0)) (kB qn) hb); replace HB := Aside0.mk (below_step (kHt HB qm qs) hb); (try clear hb); (try clear hb2); (try clear hk); (try clear hi)) | ((with_reducible refine gate_callee (f := 30) rfl ?_); refine goesL_ (some 76) rfl rfl Try.func30 (by kernel_rfl) rfl #[.agg #[.bool q07, .int .i64 q08, .int .u64 q09, .int .u64 q0a, .int .u64 q0b, .int .u64 q0c, .bool q0d], .int .i64 a2] rfl LMq ?_; (with_reducible refine (rnd_Round.calls q07 q08 q09 q0a q0b q0c q0d a2 q13 q14 _ A54.out).mono ?_); rintro e w59 ⟨rfl, hb⟩; refine ⟨_, rfl, ?_⟩; replace qb := Aside0.mk (blk_below (g := qq) (o := .cells #[.bool q2, .int .i64 q3, .int .u64 q4, .int .u64 q6, .int .u64 q7, .int .u64 q8, .bool q9] 61 (0, 0)) (kB qb) hb); replace qn := Aside0.mk (blk_below (g := qt) (o := .cells #[.bool qc, .int .i64 qd, .int .u64 qe, .int .u64 qf, .int .u64 qg, .int .u64 qh, .bool qi] 61 (0, 0)) (kB qn) hb); replace HB := Aside0.mk (below_step (kHt HB qm qs) hb); (try clear hb); (try clear hb2); (try clear hk); (try clear hi)))
       go_ret2
       exact ⟨by first | rfl | (simp [errW_none, errW_some] <;> rfl) | (simp [*, errW_none, errW_some] <;> rfl), kHt HB qm qs⟩
end Go.Proofs.Ytbgefpeicmbgiaa.X
