import Derived.Test.YtbgefpeicmbgiaaKI4
import Derived.Test.YtbgefpeicmbgiaaKIXprodexact
section
namespace Go.Proofs.Ytbgefpeicmbgiaa.X
open Go.RowKit Go.Proofs.YtbgefpeicmbgiaaW.PrintWords Go.Proofs.YtbgefpeicmbgiaaW.PrintLast Go.Proofs.YtbgefpeicmbgiaaW.PrintMore
attribute [local go_sem] max2_int min2_int max_two min_two max_three min_three max_four min_four   
set_option linter.unusedVariables false
set_option linter.unusedSimpArgs false
def prod_loud.l0 : Nat → List Int → Int → Int → Option (Int)
 | 0, _, _, _ => none
 | k + 1, x5, x6, x7 => if x7 < x6 then (if 0 ≤ x7 then (if x7 < (x5.length : Int) then ((pat_Class.f (rd x5 x7)).bind fun q1 => (if q1 = 5 then (some 1) else (prod_loud.l0 k x5 x6 (wrap64 (x7 + 1))))) else (none)) else (none)) else (some 0)
def prod_loud.f (k : Nat) (l0 : List Int) : Option (Int) := prod_loud.l0 k l0 (l0.length : Int) 0
theorem prod_loud.mono_l : ∀ k, (∀ y0 y1 y2, LeO (prod_loud.l0 k y0 y1 y2) (prod_loud.l0 (k + 1) y0 y1 y2))
 | 0 => fun _ _ _ r h => by simp [prod_loud.l0] at h
 | k + 1 => by
  have ih0 := prod_loud.mono_l k
  · intro y0 y1 y2
    unfold prod_loud.l0
    repeat' first
    | (with_reducible exact ih0 _ _ _)
    | (with_reducible exact LeO.refl _)
    | (with_reducible exact LeO.none _)
    | (with_reducible refine LeO.ite ?_ ?_)
    | (with_reducible refine LeO.bind ?_ (fun _ => ?_))
    | exact ih0 _ _ _
    | exact LeO.none _
    | refine LeO.ite ?_ ?_
    | refine LeO.bind ?_ (fun _ => ?_)
theorem prod_loud.mono : ∀ a0 k, LeO (prod_loud.f k a0) (prod_loud.f (k + 1) a0) := by
 intro a0 k; have ih0 := prod_loud.mono_l k
 unfold prod_loud.f
 repeat' first
  | (with_reducible exact ih0 _ _ _)
  | (with_reducible exact LeO.refl _)
  | (with_reducible exact LeO.none _)
  | (with_reducible refine LeO.ite ?_ ?_)
  | (with_reducible refine LeO.bind ?_ (fun _ => ?_))
  | exact ih0 _ _ _
  | exact LeO.none _
  | refine LeO.ite ?_ ?_
  | refine LeO.bind ?_ (fun _ => ?_)
set_option maxHeartbeats 8000000 in
set_option maxRecDepth 100000 in
theorem prod_loud.calls (k : Nat) (A0 : Option Addr) (c0 : Nat) (l0 : List Int) (r : Int) (w : World) (hr0 : Kd.C (Kd.int .u64) w A0 l0.length l0) (hc0 : l0.length ≤ c0) (h : prod_loud.f k l0 = some r) :
 Calls Try.prog 46 #[.slice A0 l0.length c0] w fun e w' => e = .returned (.int .u8 r) ∧ Below w.heap.size w w' := by
 have HR0 := Aside0.mk hr0; have HC0 := Aside0.mk hc0; clear hr0 hc0; have HB := Aside0.mk (Below.refl w.heap.size w); have H : (prod_loud.l0 k l0 (l0.length : Int) 0) = some r := h; clear h; have H' := Aside0.mk H; clear H
 go_enter Try.func46, Try.ntmps46
 go_wp2
 go_loopg [7] k (fun kq v7 w' => ∃ (q0 : Int), v7 = .int .i64 q0 ∧ Aside0 (prod_loud.l0 kq l0 (l0.length : Int) q0 = some r) ∧ Aside0 (kq ≤ k) ∧ Aside0 (Below w.heap.size w w'))
 case atStart => exact ⟨(0), RSq, (by first | exact H' | (subst_vars; exact H')), ⟨Nat.le_refl _⟩, ⟨kH HB⟩⟩
 case round =>
  clear H'; obtain ⟨q0, rfl, HA, HK1, HB⟩ := hrel
  cases gk with
  | zero => exact absurd HA.out (by simp [prod_loud.l0])
  | succ k1 =>
   have H := HA.out; clear HA
   simp only [prod_loud.l0] at H
   by_cases c2 : q0 < (l0.length : Int)
   · rw [if_pos c2] at H
     have q3 : decide (q0 < (l0.length : Int)) = true := decide_eq_true c2; clear c2
     by_cases c3 : 0 ≤ q0
     · rw [if_pos c3] at H
       have c3b0 : decide (0 ≤ q0) = true := decide_eq_true c3; clear c3
       by_cases c4 : q0 < (l0.length : Int)
       · rw [if_pos c4] at H
         have c4b0 : decide (q0 < (l0.length : Int)) = true := decide_eq_true c4; clear c4; replace H := Option.bind_eq_some_iff.mp H; obtain ⟨q1, A50, H⟩ := H; replace H : (if q1 = 5 then (some 1) else (prod_loud.l0 k1 l0 (l0.length : Int) (wrap64 (q0 + 1)))) = some r := H; have A5 := Aside0.mk A50; clear A50
         by_cases c6 : q1 = 5
         · rw [if_pos c6] at H
           have q4 : (q1 == 5) = true := beq_iff_eq.mpr c6; have q5 : (q1 != 5) = false := bne_eq_false_iff_eq.mpr c6; clear c6; obtain rfl := Option.some.inj H; have p444 : 0 ≤ (q0 : Int) := of_decide_eq_true ASq; have q444 : q0 < (l0.length : Int) := of_decide_eq_true ASq; obtain ⟨ad444, e444, q2⟩ := Kd.at_int HR0.out q0 p444 q444
           cases e444
           replace q2 := (HB.out.cell (World.block_lt_of_cell? w _ q2)).trans q2; replace p444 := eq_true p444; replace q444 := eq_true q444
           go_wp2_with (first | ((with_reducible refine gate_callee (f := 80) rfl ?_); refine goesL_ (some 12) rfl rfl Try.func80 (by kernel_rfl) rfl #[.int .u64 (rd l0 q0)] rfl LMq ?_; (with_reducible refine (pat_Class.calls (rd l0 q0) q1 _ A5.out).mono ?_); rintro e w7 ⟨rfl, hb⟩; refine ⟨_, rfl, ?_⟩; replace HB := Aside0.mk (below_step (kH HB) hb); (try clear hb); (try clear hb2); (try clear hk); (try clear hi)))
           go_ret
           exact ⟨by first | rfl | (simp [errW_none, errW_some] <;> rfl) | (simp [*, errW_none, errW_some] <;> rfl), kH HB⟩
         rw [if_neg c6] at H
         have q4 : (q1 == 5) = false := beq_eq_false_iff_ne.mpr c6; have q5 : (q1 != 5) = true := bne_iff_ne.mpr c6; have H' := Aside0.mk H; clear H; have p444 : 0 ≤ (q0 : Int) := of_decide_eq_true ASq; have q444 : q0 < (l0.length : Int) := of_decide_eq_true ASq; obtain ⟨ad444, e444, q2⟩ := Kd.at_int HR0.out q0 p444 q444
         cases e444
         replace q2 := (HB.out.cell (World.block_lt_of_cell? w _ q2)).trans q2; replace p444 := eq_true p444; replace q444 := eq_true q444
         go_wp2_with (first | ((with_reducible refine gate_callee (f := 80) rfl ?_); refine goesL_ (some 12) rfl rfl Try.func80 (by kernel_rfl) rfl #[.int .u64 (rd l0 q0)] rfl LMq ?_; (with_reducible refine (pat_Class.calls (rd l0 q0) q1 _ A5.out).mono ?_); rintro e w8 ⟨rfl, hb⟩; refine ⟨_, rfl, ?_⟩; replace HB := Aside0.mk (below_step (kH HB) hb); (try clear hb); (try clear hb2); (try clear hk); (try clear hi)))
         go_roundg k1
         case measure => have := HK1.out; omega
         case rel => exact ⟨(wrap64 (q0 + 1)), RSq, (by first | exact H' | (subst_vars; exact H')), ⟨by have := HK1.out; omega⟩, ⟨kH HB⟩⟩
       rw [if_neg c4] at H
       exact absurd H (by simp)
     rw [if_neg c3] at H
     exact absurd H (by simp)
   rw [if_neg c2] at H
   have q3 : decide (q0 < (l0.length : Int)) = false := decide_eq_false c2; clear c2; obtain rfl := Option.some.inj H
   go_wp2
   go_ret
   exact ⟨by first | rfl | (simp [errW_none, errW_some] <;> rfl) | (simp [*, errW_none, errW_some] <;> rfl), kH HB⟩
end Go.Proofs.Ytbgefpeicmbgiaa.X
end
section
namespace Go.Proofs.Ytbgefpeicmbgiaa.X
open Go.RowKit Go.Proofs.YtbgefpeicmbgiaaW.PrintWords Go.Proofs.YtbgefpeicmbgiaaW.PrintLast Go.Proofs.YtbgefpeicmbgiaaW.PrintMore
attribute [local go_sem] max2_int min2_int max_two min_two max_three min_three max_four min_four   
set_option linter.unusedVariables false
set_option linter.unusedSimpArgs false
def prod_nothing.f (a0 : Int) (a1 : Int) : Option (Bool) := (pat_Abs.f a0).bind fun q0 => ((pat_Abs.f a1).bind fun q1 => (if q0 = 0 then (if q1 = 9218868437227405312 then (some true) else (if q0 = 9218868437227405312 then (some (q1 == 0)) else (some false))) else (if q0 = 9218868437227405312 then (some (q1 == 0)) else (some false))))
set_option maxHeartbeats 8000000 in
set_option maxRecDepth 100000 in
theorem prod_nothing.calls (a0 : Int) (a1 : Int) (r : Bool) (w : World) (h : prod_nothing.f a0 a1 = some r) :
 Calls Try.prog 44 #[.int .u64 a0, .int .u64 a1] w fun e w' => e = .returned (.bool r) ∧ Below w.heap.size w w' := by
 have HB := Aside0.mk (Below.refl w.heap.size w); have H : ((pat_Abs.f a0).bind fun q0 => ((pat_Abs.f a1).bind fun q1 => (if q0 = 0 then (if q1 = 9218868437227405312 then (some true) else (if q0 = 9218868437227405312 then (some (q1 == 0)) else (some false))) else (if q0 = 9218868437227405312 then (some (q1 == 0)) else (some false))))) = some r := h; clear h; replace H := Option.bind_eq_some_iff.mp H; obtain ⟨q0, A30, H⟩ := H; replace H : ((pat_Abs.f a1).bind fun q1 => (if q0 = 0 then (if q1 = 9218868437227405312 then (some true) else (if q0 = 9218868437227405312 then (some (q1 == 0)) else (some false))) else (if q0 = 9218868437227405312 then (some (q1 == 0)) else (some false)))) = some r := H; have A3 := Aside0.mk A30; clear A30; replace H := Option.bind_eq_some_iff.mp H; obtain ⟨q1, A40, H⟩ := H; replace H : (if q0 = 0 then (if q1 = 9218868437227405312 then (some true) else (if q0 = 9218868437227405312 then (some (q1 == 0)) else (some false))) else (if q0 = 9218868437227405312 then (some (q1 == 0)) else (some false))) = some r := H; have A4 := Aside0.mk A40; clear A40
 by_cases c5 : q0 = 0
 · rw [if_pos c5] at H
   have q2 : (q0 == 0) = true := beq_iff_eq.mpr c5; have q3 : (q0 != 0) = false := bne_eq_false_iff_eq.mpr c5; clear c5
   by_cases c6 : q1 = 9218868437227405312
   · rw [if_pos c6] at H
     have q4 : (q1 == 9218868437227405312) = true := beq_iff_eq.mpr c6; have q5 : (q1 != 9218868437227405312) = false := bne_eq_false_iff_eq.mpr c6; clear c6; obtain rfl := Option.some.inj H
     go_enter Try.func44, Try.ntmps44
     go_wp2_with (first | ((with_reducible refine gate_callee (f := 79) rfl ?_); refine goesL_ (some 8) rfl rfl Try.func79 (by kernel_rfl) rfl #[.int .u64 a0] rfl LMq ?_; (with_reducible refine (pat_Abs.calls a0 q0 _ A3.out).mono ?_); rintro e w7 ⟨rfl, hb⟩; refine ⟨_, rfl, ?_⟩; replace HB := Aside0.mk (below_step (kH HB) hb); (try clear hb); (try clear hb2); (try clear hk); (try clear hi)) | ((with_reducible refine gate_callee (f := 79) rfl ?_); refine goesL_ (some 10) rfl rfl Try.func79 (by kernel_rfl) rfl #[.int .u64 a1] rfl LMq ?_; (with_reducible refine (pat_Abs.calls a1 q1 _ A4.out).mono ?_); rintro e w8 ⟨rfl, hb⟩; refine ⟨_, rfl, ?_⟩; replace HB := Aside0.mk (below_step (kH HB) hb); (try clear hb); (try clear hb2); (try clear hk); (try clear hi)))
     go_ret
     exact ⟨by first | rfl | (simp [errW_none, errW_some] <;> rfl) | (simp [*, errW_none, errW_some] <;> rfl), kH HB⟩
   rw [if_neg c6] at H
   have q4 : (q1 == 9218868437227405312) = false := beq_eq_false_iff_ne.mpr c6; have q5 : (q1 != 9218868437227405312) = true := bne_iff_ne.mpr c6
   by_cases c9 : q0 = 9218868437227405312
   · rw [if_pos c9] at H
     have q6 : (q0 == 9218868437227405312) = true := beq_iff_eq.mpr c9; have q7 : (q0 != 9218868437227405312) = false := bne_eq_false_iff_eq.mpr c9; clear c9; obtain rfl := Option.some.inj H
     go_enter Try.func44, Try.ntmps44
     go_wp2_with (first | ((with_reducible refine gate_callee (f := 79) rfl ?_); refine goesL_ (some 8) rfl rfl Try.func79 (by kernel_rfl) rfl #[.int .u64 a0] rfl LMq ?_; (with_reducible refine (pat_Abs.calls a0 q0 _ A3.out).mono ?_); rintro e w10 ⟨rfl, hb⟩; refine ⟨_, rfl, ?_⟩; replace HB := Aside0.mk (below_step (kH HB) hb); (try clear hb); (try clear hb2); (try clear hk); (try clear hi)) | ((with_reducible refine gate_callee (f := 79) rfl ?_); refine goesL_ (some 10) rfl rfl Try.func79 (by kernel_rfl) rfl #[.int .u64 a1] rfl LMq ?_; (with_reducible refine (pat_Abs.calls a1 q1 _ A4.out).mono ?_); rintro e w11 ⟨rfl, hb⟩; refine ⟨_, rfl, ?_⟩; replace HB := Aside0.mk (below_step (kH HB) hb); (try clear hb); (try clear hb2); (try clear hk); (try clear hi)))
     go_ret
     exact ⟨by first | rfl | (simp [errW_none, errW_some] <;> rfl) | (simp [*, errW_none, errW_some] <;> rfl), kH HB⟩
   rw [if_neg c9] at H
   have q6 : (q0 == 9218868437227405312) = false := beq_eq_false_iff_ne.mpr c9; have q7 : (q0 != 9218868437227405312) = true := bne_iff_ne.mpr c9; obtain rfl := Option.some.inj H
   go_enter Try.func44, Try.ntmps44
   go_wp2_with (first | ((with_reducible refine gate_callee (f := 79) rfl ?_); refine goesL_ (some 8) rfl rfl Try.func79 (by kernel_rfl) rfl #[.int .u64 a0] rfl LMq ?_; (with_reducible refine (pat_Abs.calls a0 q0 _ A3.out).mono ?_); rintro e w12 ⟨rfl, hb⟩; refine ⟨_, rfl, ?_⟩; replace HB := Aside0.mk (below_step (kH HB) hb); (try clear hb); (try clear hb2); (try clear hk); (try clear hi)) | ((with_reducible refine gate_callee (f := 79) rfl ?_); refine goesL_ (some 10) rfl rfl Try.func79 (by kernel_rfl) rfl #[.int .u64 a1] rfl LMq ?_; (with_reducible refine (pat_Abs.calls a1 q1 _ A4.out).mono ?_); rintro e w13 ⟨rfl, hb⟩; refine ⟨_, rfl, ?_⟩; replace HB := Aside0.mk (below_step (kH HB) hb); (try clear hb); (try clear hb2); (try clear hk); (try clear hi)))
   go_ret
   exact ⟨by first | rfl | (simp [errW_none, errW_some] <;> rfl) | (simp [*, errW_none, errW_some] <;> rfl), kH HB⟩
 rw [if_neg c5] at H
 have q2 : (q0 == 0) = false := beq_eq_false_iff_ne.mpr c5; have q3 : (q0 != 0) = true := bne_iff_ne.mpr c5
 by_cases c14 : q0 = 9218868437227405312
 · rw [if_pos c14] at H
   have q8 : (q0 == 9218868437227405312) = true := beq_iff_eq.mpr c14; have q9 : (q0 != 9218868437227405312) = false := bne_eq_false_iff_eq.mpr c14; clear c14; obtain rfl := Option.some.inj H
   go_enter Try.func44, Try.ntmps44
   go_wp2_with (first | ((with_reducible refine gate_callee (f := 79) rfl ?_); refine goesL_ (some 8) rfl rfl Try.func79 (by kernel_rfl) rfl #[.int .u64 a0] rfl LMq ?_; (with_reducible refine (pat_Abs.calls a0 q0 _ A3.out).mono ?_); rintro e w15 ⟨rfl, hb⟩; refine ⟨_, rfl, ?_⟩; replace HB := Aside0.mk (below_step (kH HB) hb); (try clear hb); (try clear hb2); (try clear hk); (try clear hi)) | ((with_reducible refine gate_callee (f := 79) rfl ?_); refine goesL_ (some 10) rfl rfl Try.func79 (by kernel_rfl) rfl #[.int .u64 a1] rfl LMq ?_; (with_reducible refine (pat_Abs.calls a1 q1 _ A4.out).mono ?_); rintro e w16 ⟨rfl, hb⟩; refine ⟨_, rfl, ?_⟩; replace HB := Aside0.mk (below_step (kH HB) hb); (try clear hb); (try clear hb2); (try clear hk); (try clear hi)))
   go_ret
   exact ⟨by first | rfl | (simp [errW_none, errW_some] <;> rfl) | (simp [*, errW_none, errW_some] <;> rfl), kH HB⟩
 rw [if_neg c14] at H
 have q8 : (q0 == 9218868437227405312) = false := beq_eq_false_iff_ne.mpr c14; have q9 : (q0 != 9218868437227405312) = true := bne_iff_ne.mpr c14; obtain rfl := Option.some.inj H
 go_enter Try.func44, Try.ntmps44
 go_wp2_with (first | ((with_reducible refine gate_callee (f := 79) rfl ?_); refine goesL_ (some 8) rfl rfl Try.func79 (by kernel_rfl) rfl #[.int .u64 a0] rfl LMq ?_; (with_reducible refine (pat_Abs.calls a0 q0 _ A3.out).mono ?_); rintro e w17 ⟨rfl, hb⟩; refine ⟨_, rfl, ?_⟩; replace HB := Aside0.mk (below_step (kH HB) hb); (try clear hb); (try clear hb2); (try clear hk); (try clear hi)) | ((with_reducible refine gate_callee (f := 79) rfl ?_); refine goesL_ (some 10) rfl rfl Try.func79 (by kernel_rfl) rfl #[.int .u64 a1] rfl LMq ?_; (with_reducible refine (pat_Abs.calls a1 q1 _ A4.out).mono ?_); rintro e w18 ⟨rfl, hb⟩; refine ⟨_, rfl, ?_⟩; replace HB := Aside0.mk (below_step (kH HB) hb); (try clear hb); (try clear hb2); (try clear hk); (try clear hi)))
 go_ret
 exact ⟨by first | rfl | (simp [errW_none, errW_some] <;> rfl) | (simp [*, errW_none, errW_some] <;> rfl), kH HB⟩
end Go.Proofs.Ytbgefpeicmbgiaa.X
end
section
namespace Go.Proofs.Ytbgefpeicmbgiaa.X
open Go.RowKit Go.Proofs.YtbgefpeicmbgiaaW.PrintWords Go.Proofs.YtbgefpeicmbgiaaW.PrintLast Go.Proofs.YtbgefpeicmbgiaaW.PrintMore
attribute [local go_sem] max2_int min2_int max_two min_two max_three min_three max_four min_four   
set_option linter.unusedVariables false
set_option linter.unusedSimpArgs false
def prod_sign.f (a0 : Int) (a1 : Int) : Option (Int) := some (Go.bits .and .u64 (Go.bits .xor .u64 a0 a1) 9223372036854775808)
set_option maxHeartbeats 8000000 in
set_option maxRecDepth 100000 in
theorem prod_sign.calls (a0 : Int) (a1 : Int) (r : Int) (w : World) (h : prod_sign.f a0 a1 = some r) :
 Calls Try.prog 43 #[.int .u64 a0, .int .u64 a1] w fun e w' => e = .returned (.int .u64 r) ∧ Drawn0 w w' := by
 have H : (some (Go.bits .and .u64 (Go.bits .xor .u64 a0 a1) 9223372036854775808)) = some r := h; clear h; obtain rfl := Option.some.inj H
 go_enter Try.func43, Try.ntmps43
 go_wp2
 go_ret
 exact ⟨by first | rfl | (simp; done) | (simp [*]; done) | (simp [wrap64]; done), by repeat (first | exact Drawn0.refl _ | apply Drawn0.step)⟩
end Go.Proofs.Ytbgefpeicmbgiaa.X
end
section
namespace Go.Proofs.Ytbgefpeicmbgiaa.X
open Go.RowKit Go.Proofs.YtbgefpeicmbgiaaW.PrintWords Go.Proofs.YtbgefpeicmbgiaaW.PrintLast Go.Proofs.YtbgefpeicmbgiaaW.PrintMore
attribute [local go_sem] max2_int min2_int max_two min_two max_three min_three max_four min_four   
set_option linter.unusedVariables false
set_option linter.unusedSimpArgs false
mutual
def prod_Mul.j0 : Nat → Int → Int → Int → Bool → Option (Int × Int)
 | 0, _, _, _, _ => none
 | k + 1, x0, x1, x2, x8 => if x8 = true then ((prod_loud.f k (([x0, x1] : List Int))).bind fun q4 => (some (9221120237041090560, q4))) else ((prod_nothing.f x0 x1).bind fun q6 => (if q6 = true then (some (9221120237041090560, 1)) else ((pat_Finite.f x0).bind fun q3 => (if q3 = true then ((pat_Finite.f x1).bind fun q0 => (prod_Mul.j1 k x0 x1 x2 (!q0))) else (prod_Mul.j1 k x0 x1 x2 true)))))
def prod_Mul.j1 : Nat → Int → Int → Int → Bool → Option (Int × Int)
 | 0, _, _, _, _ => none
 | k + 1, x0, x1, x2, x23 => if x23 = true then ((prod_sign.f x0 x1).bind fun q7 => (some (Go.bits .or .u64 9218868437227405312 q7, 0))) else ((prod_exact.f x0 x1).bind fun q1 => ((rnd_Round.f q1.1 q1.2.1 q1.2.2.1 q1.2.2.2.1 q1.2.2.2.2.1 q1.2.2.2.2.2.1 q1.2.2.2.2.2.2 x2).bind fun q5 => (some (q5.1, q5.2))))
end
def prod_Mul.f (k : Nat) (a0 : Int) (a1 : Int) (a2 : Int) : Option (Int × Int) := (pat_IsNaN.f a0).bind fun q8 => (if q8 = true then (prod_Mul.j0 k a0 a1 a2 true) else ((pat_IsNaN.f a1).bind fun q2 => (prod_Mul.j0 k a0 a1 a2 q2)))
theorem prod_Mul.mono_l : ∀ k, (∀ y0 y1 y2 y3, LeO (prod_Mul.j0 k y0 y1 y2 y3) (prod_Mul.j0 (k + 1) y0 y1 y2 y3)) ∧ (∀ y0 y1 y2 y3, LeO (prod_Mul.j1 k y0 y1 y2 y3) (prod_Mul.j1 (k + 1) y0 y1 y2 y3))
 | 0 => ⟨fun _ _ _ _ r h => by simp [prod_Mul.j0] at h, fun _ _ _ _ r h => by simp [prod_Mul.j1] at h⟩
 | k + 1 => by
  obtain ⟨ih0, ih1⟩ := prod_Mul.mono_l k; refine ⟨?_, ?_⟩
  · intro y0 y1 y2 y3
    unfold prod_Mul.j0
    repeat' first
    | (with_reducible exact ih0 _ _ _ _)
    | (with_reducible exact ih1 _ _ _ _)
    | (with_reducible exact prod_loud.mono _ _)
    | (with_reducible exact LeO.refl _)
    | (with_reducible exact LeO.none _)
    | (with_reducible refine LeO.ite ?_ ?_)
    | (with_reducible refine LeO.bind ?_ (fun _ => ?_))
    | exact ih0 _ _ _ _
    | exact ih1 _ _ _ _
    | exact prod_loud.mono _ _
    | exact LeO.none _
    | refine LeO.ite ?_ ?_
    | refine LeO.bind ?_ (fun _ => ?_)
  intro y0 y1 y2 y3
  unfold prod_Mul.j1
  repeat' first
  | (with_reducible exact ih0 _ _ _ _)
  | (with_reducible exact ih1 _ _ _ _)
  | (with_reducible exact prod_loud.mono _ _)
  | (with_reducible exact LeO.refl _)
  | (with_reducible exact LeO.none _)
  | (with_reducible refine LeO.ite ?_ ?_)
  | (with_reducible refine LeO.bind ?_ (fun _ => ?_))
  | exact ih0 _ _ _ _
  | exact ih1 _ _ _ _
  | exact prod_loud.mono _ _
  | exact LeO.none _
  | refine LeO.ite ?_ ?_
  | refine LeO.bind ?_ (fun _ => ?_)
theorem prod_Mul.mono : ∀ a0 a1 a2 k, LeO (prod_Mul.f k a0 a1 a2) (prod_Mul.f (k + 1) a0 a1 a2) := by
 intro a0 a1 a2 k; obtain ⟨ih0, ih1⟩ := prod_Mul.mono_l k
 unfold prod_Mul.f
 repeat' first
  | (with_reducible exact ih0 _ _ _ _)
  | (with_reducible exact ih1 _ _ _ _)
  | (with_reducible exact prod_loud.mono _ _)
  | (with_reducible exact LeO.refl _)
  | (with_reducible exact LeO.none _)
  | (with_reducible refine LeO.ite ?_ ?_)
  | (with_reducible refine LeO.bind ?_ (fun _ => ?_))
  | exact ih0 _ _ _ _
  | exact ih1 _ _ _ _
  | exact prod_loud.mono _ _
  | exact LeO.none _
  | refine LeO.ite ?_ ?_
  | refine LeO.bind ?_ (fun _ => ?_)
set_option maxHeartbeats 8000000 in
set_option maxRecDepth 100000 in
theorem prod_Mul.calls (k : Nat) (a0 : Int) (a1 : Int) (a2 : Int) (r1 : Int) (r2 : Int) (w : World) (h : prod_Mul.f k a0 a1 a2 = some (r1, r2)) :
 Calls Try.prog 26 #[.int .u64 a0, .int .u64 a1, .int .i64 a2] w fun e w' => e = .returned (.tuple #[.int .u64 r1, .int .u8 r2]) ∧ Below w.heap.size w w' := by
 have HB := Aside0.mk (Below.refl w.heap.size w); have H : ((pat_IsNaN.f a0).bind fun q8 => (if q8 = true then (prod_Mul.j0 k a0 a1 a2 true) else ((pat_IsNaN.f a1).bind fun q2 => (prod_Mul.j0 k a0 a1 a2 q2)))) = some (r1, r2) := h; clear h; have HC4 := Aside0.mk H; clear H
 go_enter Try.func26, Try.ntmps26
 go_upto_region 1 with (fail)
 go_cut [8] (fun v8 wc => ∃ (kq : Nat) (qa : Bool), v8 = .bool qa ∧ Aside0 (prod_Mul.j0 kq a0 a1 a2 qa = some (r1, r2)) ∧ Aside0 (kq ≤ k) ∧ Aside0 (Below w.heap.size w wc))
 case first =>
  have H := HC4.out; clear HC4; replace H := Option.bind_eq_some_iff.mp H; obtain ⟨q8, A50, H⟩ := H; replace H : (if q8 = true then (prod_Mul.j0 k a0 a1 a2 true) else ((pat_IsNaN.f a1).bind fun q2 => (prod_Mul.j0 k a0 a1 a2 q2))) = some (r1, r2) := H; have A5 := Aside0.mk A50; clear A50
  by_cases c6 : q8 = true
  · subst c6
    have H1 : (prod_Mul.j0 k a0 a1 a2 true) = some (r1, r2) := by rw [if_pos rfl] at H; exact H
    clear H; have H := H1; clear H1; have H' := Aside0.mk H; clear H
    go_wp2_with (first | ((with_reducible refine gate_callee (f := 45) rfl ?_); refine goesL_ (some 10) rfl rfl Try.func45 (by kernel_rfl) rfl #[.int .u64 a0] rfl LMq ?_; (with_reducible refine (pat_IsNaN.calls a0 true _ A5.out).mono ?_); rintro e w7 ⟨rfl, hb⟩; refine ⟨_, rfl, ?_⟩; replace HB := Aside0.mk (below_step (kH HB) hb); (try clear hb); (try clear hb2); (try clear hk); (try clear hi)))
    go_meet
    case rel => exact ⟨_, (true), RSq, (by first | exact H' | (subst_vars; exact H')), ⟨by first | omega | exact Nat.le_refl _⟩, ⟨kH HB⟩⟩
  replace c6 := Bool.eq_false_iff.mpr c6; subst c6
  have H1 : ((pat_IsNaN.f a1).bind fun q2 => (prod_Mul.j0 k a0 a1 a2 q2)) = some (r1, r2) := by rw [if_neg (show ¬ (false = true) by decide)] at H; exact H
  clear H; have H := H1; clear H1; replace H := Option.bind_eq_some_iff.mp H; obtain ⟨q2, A80, H⟩ := H; replace H : (prod_Mul.j0 k a0 a1 a2 q2) = some (r1, r2) := H; have A8 := Aside0.mk A80; clear A80; have H' := Aside0.mk H; clear H
  go_wp2_with (first | ((with_reducible refine gate_callee (f := 45) rfl ?_); refine goesL_ (some 10) rfl rfl Try.func45 (by kernel_rfl) rfl #[.int .u64 a0] rfl LMq ?_; (with_reducible refine (pat_IsNaN.calls a0 false _ A5.out).mono ?_); rintro e w9 ⟨rfl, hb⟩; refine ⟨_, rfl, ?_⟩; replace HB := Aside0.mk (below_step (kH HB) hb); (try clear hb); (try clear hb2); (try clear hk); (try clear hi)) | (go_at_call 45; (with_reducible refine (pat_IsNaN.calls a1 q2 _ A8.out).mono ?_); rintro e w10 ⟨rfl, hb⟩; replace HB := Aside0.mk (below_step (kH HB) hb); (try clear hb); (try clear hb2); (try clear hk); (try clear hi)))
  go_meet
  case rel => exact ⟨_, (q2), RSq, (by first | exact H' | (subst_vars; exact H')), ⟨by first | omega | exact Nat.le_refl _⟩, ⟨kH HB⟩⟩
 case rest =>
  clear HC4; (try clear c2); (try clear p2); (try clear c4); (try clear c6); (try clear p6); obtain ⟨kq, qa, rfl, HA, HJ3, HB⟩ := hcut
  cases kq with
  | zero => exact absurd HA.out (by simp [prod_Mul.j0])
  | succ kj3 =>
   have H := HA.out; clear HA
   simp only [prod_Mul.j0] at H
   by_cases c11 : qa = true
   · subst c11
     have H1 : ((prod_loud.f kj3 (([a0, a1] : List Int))).bind fun q4 => (some (9221120237041090560, q4))) = some (r1, r2) := by rw [if_pos rfl] at H; exact H
     clear H; have H := H1; clear H1; obtain ⟨y673, hy673⟩ : ∃ y_ : List Int, y_ = (([a0, a1] : List Int)) := ⟨_, rfl⟩
     replace H : ((prod_loud.f kj3 y673).bind fun q4 => (some (9221120237041090560, q4))) = some (r1, r2) := by first | (rw [hy673]; with_reducible exact H) | (have H2_ := (Option.bind_some _ _).symm.trans H; rw [hy673]; with_reducible exact H2_) | (have H2_ := (Option.bind_some _ _).symm.trans H; with_reducible exact H2_) | with_reducible exact H | (rw [hy673]; exact H) | exact H
     have Ny673 := Aside0.mk hy673; clear hy673; replace H := Option.bind_eq_some_iff.mp H; obtain ⟨q4, qk, H⟩ := H; replace H : (some (9221120237041090560, q4)) = some (r1, r2) := H; have A12 := Aside0.mk qk; clear qk
     simp only [Option.some.injEq, Prod.mk.injEq] at H
     obtain ⟨rfl, rfl⟩ := H
     go_wp2_with (first | ((with_reducible refine gate_dst (N := 17) rfl ?_); refine Kd.R_lit (Kd.int .u64) _ 22 ?hg (N := 17) ?hd (xs := ([a0, a1] : List Int)) (inner := [.int .u64 a0, .int .u64 a1]) (ok := fun _ => True) (okp := fun _ => True) ?hr ?hp (fun _ hk => hk) trivial (Below.refl _ _) (Nat.le_refl _) (by simp) ?_; (case hd => rfl); (case hg => rfl); (case hr => first | (go_simp; done) | (go_simp; rfl)); (case hp => exact (Reps.one (show Kd.M (Kd.int .u64) _ _ _ a0 [.int .u64 a0] from rfl) (Reps.one (show Kd.M (Kd.int .u64) _ _ _ a1 [.int .u64 a1] from rfl) (Reps.none _ _)))); intro v674 w13 ho14 hb hg_ hnew_; clear hg_ hnew_; (first | rw [← Ny673.out] at ho14 | (simp only [Int.reduceToNat] at ho14; rw [← Ny673.out] at ho14)); have q9 := Aside0.mk (Kd.R_lower ho14 (below_size (kH HB))); replace HB := Aside0.mk (below_step (kH HB) hb); clear hb ho14; obtain ⟨qt, qu, eo15⟩ := Kd.R_slice q9.out; subst eo15) | ((with_reducible refine gate_callee (f := 46) rfl ?_); refine goesL_ (some 18) rfl rfl Try.func46 (by kernel_rfl) rfl #[.slice qt y673.length qu] rfl LMq ?_; (with_reducible refine (prod_loud.calls kj3 _ _ y673 q4 _ ?side1 ?side2 A12.out).mono ?_); (case side1 => repeat (first | exact (Kd.R_reads' q9.out).2.2 | (with_reducible refine Kd.C_alloc ?_ _) | (with_reducible refine Kd.C_drewN ?_ _) | (with_reducible refine Kd.C_drew ?_))); (case side2 => exact (Kd.R_reads' q9.out).2.1); rintro e w16 ⟨rfl, hb⟩; refine ⟨_, rfl, ?_⟩; replace q9 := Aside0.mk (Kd.R_below (kR q9) hb); replace HB := Aside0.mk (below_step (kH HB) hb); (try clear hb); (try clear hb2); (try clear hk); (try clear hi)))
     go_ret2
     exact ⟨by first | rfl | (simp [errW_none, errW_some] <;> rfl) | (simp [*, errW_none, errW_some] <;> rfl), kH HB⟩
   replace c11 := Bool.eq_false_iff.mpr c11; subst c11
   have H1 : ((prod_nothing.f a0 a1).bind fun q6 => (if q6 = true then (some (9221120237041090560, 1)) else ((pat_Finite.f a0).bind fun q3 => (if q3 = true then ((pat_Finite.f a1).bind fun q0 => (prod_Mul.j1 kj3 a0 a1 a2 (!q0))) else (prod_Mul.j1 kj3 a0 a1 a2 true))))) = some (r1, r2) := by rw [if_neg (show ¬ (false = true) by decide)] at H; exact H
   clear H; have H := H1; clear H1; replace H := Option.bind_eq_some_iff.mp H; obtain ⟨q6, ql, H⟩ := H; replace H : (if q6 = true then (some (9221120237041090560, 1)) else ((pat_Finite.f a0).bind fun q3 => (if q3 = true then ((pat_Finite.f a1).bind fun q0 => (prod_Mul.j1 kj3 a0 a1 a2 (!q0))) else (prod_Mul.j1 kj3 a0 a1 a2 true)))) = some (r1, r2) := H; have A17 := Aside0.mk ql; clear ql
   by_cases c18 : q6 = true
   · subst c18
     have H1 : (some (9221120237041090560, 1)) = some (r1, r2) := by rw [if_pos rfl] at H; exact H
     clear H; have H := H1; clear H1
     simp only [Option.some.injEq, Prod.mk.injEq] at H
     obtain ⟨rfl, rfl⟩ := H
     go_wp2_with (first | ((with_reducible refine gate_callee (f := 44) rfl ?_); refine goesL_ (some 22) rfl rfl Try.func44 (by kernel_rfl) rfl #[.int .u64 a0, .int .u64 a1] rfl LMq ?_; (with_reducible refine (prod_nothing.calls a0 a1 true _ A17.out).mono ?_); rintro e w19 ⟨rfl, hb⟩; refine ⟨_, rfl, ?_⟩; replace HB := Aside0.mk (below_step (kH HB) hb); (try clear hb); (try clear hb2); (try clear hk); (try clear hi)))
     go_ret2
     exact ⟨by first | rfl | (simp [errW_none, errW_some] <;> rfl) | (simp [*, errW_none, errW_some] <;> rfl), kH HB⟩
   replace c18 := Bool.eq_false_iff.mpr c18; subst c18
   have H1 : ((pat_Finite.f a0).bind fun q3 => (if q3 = true then ((pat_Finite.f a1).bind fun q0 => (prod_Mul.j1 kj3 a0 a1 a2 (!q0))) else (prod_Mul.j1 kj3 a0 a1 a2 true))) = some (r1, r2) := by rw [if_neg (show ¬ (false = true) by decide)] at H; exact H
   clear H; have H := H1; clear H1; have qj := Aside0.mk H; clear H
   go_upto_region 5 with (first | ((with_reducible refine gate_callee (f := 44) rfl ?_); refine goesL_ (some 22) rfl rfl Try.func44 (by kernel_rfl) rfl #[.int .u64 a0, .int .u64 a1] rfl LMq ?_; (with_reducible refine (prod_nothing.calls a0 a1 false _ A17.out).mono ?_); rintro e w21 ⟨rfl, hb⟩; refine ⟨_, rfl, ?_⟩; replace HB := Aside0.mk (below_step (kH HB) hb); (try clear hb); (try clear hb2); (try clear hk); (try clear hi)))
   (try simp only [Act.put, List.setIfInBounds_toArray, List.set_cons_zero, List.set_cons_succ])
   go_cut [23] (fun v23 wc => ∃ (kq : Nat) (qb : Bool), v23 = .bool qb ∧ Aside0 (prod_Mul.j1 kq a0 a1 a2 qb = some (r1, r2)) ∧ Aside0 (kq ≤ kj3) ∧ Aside0 (Below w.heap.size w wc))
   case first =>
    have H := qj.out; clear qj; replace H := Option.bind_eq_some_iff.mp H; obtain ⟨q3, qm, H⟩ := H; replace H : (if q3 = true then ((pat_Finite.f a1).bind fun q0 => (prod_Mul.j1 kj3 a0 a1 a2 (!q0))) else (prod_Mul.j1 kj3 a0 a1 a2 true)) = some (r1, r2) := H; have A22 := Aside0.mk qm; clear qm
    by_cases c23 : q3 = true
    · subst c23
      have H1 : ((pat_Finite.f a1).bind fun q0 => (prod_Mul.j1 kj3 a0 a1 a2 (!q0))) = some (r1, r2) := by rw [if_pos rfl] at H; exact H
      clear H; have H := H1; clear H1; replace H := Option.bind_eq_some_iff.mp H; obtain ⟨q0, qn, H⟩ := H; replace H : (prod_Mul.j1 kj3 a0 a1 a2 (!q0)) = some (r1, r2) := H; have A24 := Aside0.mk qn; clear qn; have H' := Aside0.mk H; clear H
      go_wp2_with (first | ((with_reducible refine gate_callee (f := 47) rfl ?_); refine goesL_ (some 25) rfl rfl Try.func47 (by kernel_rfl) rfl #[.int .u64 a0] rfl LMq ?_; (with_reducible refine (pat_Finite.calls a0 true _ A22.out).mono ?_); rintro e w25 ⟨rfl, hb⟩; refine ⟨_, rfl, ?_⟩; replace HB := Aside0.mk (below_step (kH HB) hb); (try clear hb); (try clear hb2); (try clear hk); (try clear hi)) | (go_at_call 47; (with_reducible refine (pat_Finite.calls a1 q0 _ A24.out).mono ?_); rintro e w26 ⟨rfl, hb⟩; replace HB := Aside0.mk (below_step (kH HB) hb); (try clear hb); (try clear hb2); (try clear hk); (try clear hi)))
      go_meet
      case rel => exact ⟨_, (!q0), RSq, (by first | exact H' | (subst_vars; exact H')), ⟨by have := HJ3.out; first | omega | exact Nat.le_refl _⟩, ⟨kH HB⟩⟩
    replace c23 := Bool.eq_false_iff.mpr c23; subst c23
    have H1 : (prod_Mul.j1 kj3 a0 a1 a2 true) = some (r1, r2) := by rw [if_neg (show ¬ (false = true) by decide)] at H; exact H
    clear H; have H := H1; clear H1; have H' := Aside0.mk H; clear H
    go_wp2_with (first | ((with_reducible refine gate_callee (f := 47) rfl ?_); refine goesL_ (some 25) rfl rfl Try.func47 (by kernel_rfl) rfl #[.int .u64 a0] rfl LMq ?_; (with_reducible refine (pat_Finite.calls a0 false _ A22.out).mono ?_); rintro e w27 ⟨rfl, hb⟩; refine ⟨_, rfl, ?_⟩; replace HB := Aside0.mk (below_step (kH HB) hb); (try clear hb); (try clear hb2); (try clear hk); (try clear hi)))
    go_meet
    case rel => exact ⟨_, (true), RSq, (by first | exact H' | (subst_vars; exact H')), ⟨by have := HJ3.out; first | omega | exact Nat.le_refl _⟩, ⟨kH HB⟩⟩
   case rest =>
    clear qj; (try clear c1); (try clear c2); (try clear p2); (try clear c4); (try clear c6); (try clear p6); (try clear c11); (try clear c18); (try clear c23); (try clear c26); (try clear p2); (try clear p6); obtain ⟨kq, qb, rfl, HA, HJ19, HB⟩ := hcut
    cases kq with
    | zero => exact absurd HA.out (by simp [prod_Mul.j1])
    | succ kj19 =>
     have H := HA.out; clear HA
     simp only [prod_Mul.j1] at H
     by_cases c28 : qb = true
     · subst c28
       have H1 : ((prod_sign.f a0 a1).bind fun q7 => (some (Go.bits .or .u64 9218868437227405312 q7, 0))) = some (r1, r2) := by rw [if_pos rfl] at H; exact H
       clear H; have H := H1; clear H1; replace H := Option.bind_eq_some_iff.mp H; obtain ⟨q7, qo, H⟩ := H; replace H : (some (Go.bits .or .u64 9218868437227405312 q7, 0)) = some (r1, r2) := H; have A29 := Aside0.mk qo; clear qo
       simp only [Option.some.injEq, Prod.mk.injEq] at H
       obtain ⟨rfl, rfl⟩ := H
       go_wp2_with (first | ((with_reducible refine gate_callee (f := 43) rfl ?_); refine goesL_ (some 34) rfl rfl Try.func43 (by kernel_rfl) rfl #[.int .u64 a0, .int .u64 a1] rfl LMq ?_; (with_reducible refine (prod_sign.calls a0 a1 q7 _ A29.out).mono ?_); rintro e w' ⟨rfl, ⟨nd, rfl⟩⟩; refine ⟨_, rfl, ?_⟩))
       go_ret2
       exact ⟨by first | rfl | (simp [errW_none, errW_some] <;> rfl) | (simp [*, errW_none, errW_some] <;> rfl), kH HB⟩
     replace c28 := Bool.eq_false_iff.mpr c28; subst c28
     have H1 : ((prod_exact.f a0 a1).bind fun q1 => ((rnd_Round.f q1.1 q1.2.1 q1.2.2.1 q1.2.2.2.1 q1.2.2.2.2.1 q1.2.2.2.2.2.1 q1.2.2.2.2.2.2 a2).bind fun q5 => (some (q5.1, q5.2)))) = some (r1, r2) := by rw [if_neg (show ¬ (false = true) by decide)] at H; exact H
     clear H; have H := H1; clear H1; replace H := Option.bind_eq_some_iff.mp H; obtain ⟨⟨qc, qd, qe, qf, qg, qh, qi⟩, qp, H⟩ := H; replace H : ((rnd_Round.f qc qd qe qf qg qh qi a2).bind fun q5 => (some (q5.1, q5.2))) = some (r1, r2) := H; have A30 := Aside0.mk qp; clear qp; replace H := Option.bind_eq_some_iff.mp H; obtain ⟨⟨qq, qr⟩, qs, H⟩ := H; replace H : (some (qq, qr)) = some (r1, r2) := H; have A31 := Aside0.mk qs; clear qs
     simp only [Option.some.injEq, Prod.mk.injEq] at H
     obtain ⟨rfl, rfl⟩ := H
     go_wp2_with (first | ((with_reducible refine gate_callee (f := 51) rfl ?_); refine goesL_ (some 38) rfl rfl Try.func51 (by kernel_rfl) rfl #[.int .u64 a0, .int .u64 a1] rfl LMq ?_; (with_reducible refine (prod_exact.calls a0 a1 qc qd qe qf qg qh qi _ A30.out).mono ?_); rintro e w32 ⟨rfl, hb⟩; refine ⟨_, rfl, ?_⟩; replace HB := Aside0.mk (below_step (kH HB) hb); (try clear hb); (try clear hb2); (try clear hk); (try clear hi)) | ((with_reducible refine gate_callee (f := 30) rfl ?_); refine goesL_ (some 40) rfl rfl Try.func30 (by kernel_rfl) rfl #[.agg #[.bool qc, .int .i64 qd, .int .u64 qe, .int .u64 qf, .int .u64 qg, .int .u64 qh, .bool qi], .int .i64 a2] rfl LMq ?_; (with_reducible refine (rnd_Round.calls qc qd qe qf qg qh qi a2 qq qr _ A31.out).mono ?_); rintro e w33 ⟨rfl, hb⟩; refine ⟨_, rfl, ?_⟩; replace HB := Aside0.mk (below_step (kH HB) hb); (try clear hb); (try clear hb2); (try clear hk); (try clear hi)))
     go_ret2
     exact ⟨by first | rfl | (simp [errW_none, errW_some] <;> rfl) | (simp [*, errW_none, errW_some] <;> rfl), kH HB⟩
end Go.Proofs.Ytbgefpeicmbgiaa.X
end
section
namespace Go.Proofs.Ytbgefpeicmbgiaa.X
open Go.RowKit Go.Proofs.YtbgefpeicmbgiaaW.PrintWords Go.Proofs.YtbgefpeicmbgiaaW.PrintLast Go.Proofs.YtbgefpeicmbgiaaW.PrintMore
attribute [local go_sem] max2_int min2_int max_two min_two max_three min_three max_four min_four   
set_option linter.unusedVariables false
set_option linter.unusedSimpArgs false
def sums_nought.f (a0 : Bool) (a1 : Bool) (a2 : Int) : Option (Bool × Int × Int × Int × Int × Int × Bool) := if (a0 == a1) = true then (some (a0, 0, 0, 0, 0, 0, false)) else (some ((a2 == 4), 0, 0, 0, 0, 0, false))
set_option maxHeartbeats 8000000 in
set_option maxRecDepth 100000 in
theorem sums_nought.calls (a0 : Bool) (a1 : Bool) (a2 : Int) (r1 : Bool) (r2 : Int) (r3 : Int) (r4 : Int) (r5 : Int) (r6 : Int) (r7 : Bool) (w : World) (h : sums_nought.f a0 a1 a2 = some (r1, r2, r3, r4, r5, r6, r7)) :
 Calls Try.prog 94 #[.bool a0, .bool a1, .int .i64 a2] w fun e w' => e = .returned (.agg #[.bool r1, .int .i64 r2, .int .u64 r3, .int .u64 r4, .int .u64 r5, .int .u64 r6, .bool r7]) ∧ Below w.heap.size w w' := by
 have hu61 := Try.underlying61; have HB := Aside0.mk (Below.refl w.heap.size w); have H : (if (a0 == a1) = true then (some (a0, 0, 0, 0, 0, 0, false)) else (some ((a2 == 4), 0, 0, 0, 0, 0, false))) = some (r1, r2, r3, r4, r5, r6, r7) := h; clear h
 by_cases c4 : (a0 == a1) = true
 · rw [if_pos c4] at H
   have q3 : (a0 == a1) = true := c4
   (try (have q4 : decide (a0 = a1) = true := by simpa using c4))
   (try (have q5 : (a0 == a1) = true := by simpa using c4))
   clear c4
   simp only [Option.some.injEq, Prod.mk.injEq] at H
   obtain ⟨rfl, rfl, rfl, rfl, rfl, rfl, rfl⟩ := H
   go_enter Try.func94, Try.ntmps94
   go_wp2_with (first | ((with_reducible refine gate_dst (N := 6) rfl ?_); refine box_event ?hg (N := 6) ?hd (cs := #[.bool false, .int .i64 0, .int .u64 0, .int .u64 0, .int .u64 0, .int .u64 0, .bool false]) (t := 61) ?hr ?_; (case hd => rfl); (case hg => rfl); (case hr => first | (go_simp; done) | (go_simp; rfl)); intro q1 hg w5 hbox hb; have q0 := Aside0.mk (hbox); have q6 := Aside0.mk ((by rw [hg]; exact (below_size (kH HB)) : w.heap.size ≤ q1)); have q2 := Aside0.mk ((by rw [hg]; exact (below_size (kH HB)) : w.heap.size ≤ q1)); replace HB := Aside0.mk (below_step (kH HB) hb); clear hb hbox hg; have hcz6_0 : w5.cell? ⟨q1, 0, none⟩ = some (.bool false) := bc q0 0; have hcz6_1 : w5.cell? ⟨q1, 1, none⟩ = some (.int .i64 0) := bc q0 1; have hcz6_2 : w5.cell? ⟨q1, 2, none⟩ = some (.int .u64 0) := bc q0 2; have hcz6_3 : w5.cell? ⟨q1, 3, none⟩ = some (.int .u64 0) := bc q0 3; have hcz6_4 : w5.cell? ⟨q1, 4, none⟩ = some (.int .u64 0) := bc q0 4; have hcz6_5 : w5.cell? ⟨q1, 5, none⟩ = some (.int .u64 0) := bc q0 5; have hcz6_6 : w5.cell? ⟨q1, 6, none⟩ = some (.bool false) := bc q0 6; have hfz6_0 := blk_frozen q0.out 0; have hfz6_1 := blk_frozen q0.out 1; have hfz6_2 := blk_frozen q0.out 2; have hfz6_3 := blk_frozen q0.out 3; have hfz6_4 := blk_frozen q0.out 4; have hfz6_5 := blk_frozen q0.out 5; have hfz6_6 := blk_frozen q0.out 6))
   refine bodyPost_ret (results_cell_row rfl _ _ q1 61 #[.bool a0, .int .i64 0, .int .u64 0, .int .u64 0, .int .u64 0, .int .u64 0, .bool false] (0, 0) _ rfl (by (with_reducible repeat (first | refine blk_drewN ?_ _ | refine blk_drew ?_ | refine blk_alloc ?_ _)); refine blk_put (cs := #[.bool a0, .int .i64 0, .int .u64 0, .int .u64 0, .int .u64 0, .int .u64 0, .bool false]) ?_ 6 _ rfl; refine blk_put (cs := #[.bool a0, .int .i64 0, .int .u64 0, .int .u64 0, .int .u64 0, .int .u64 0, .bool false]) ?_ 5 _ rfl; refine blk_put (cs := #[.bool a0, .int .i64 0, .int .u64 0, .int .u64 0, .int .u64 0, .int .u64 0, .bool false]) ?_ 4 _ rfl; refine blk_put (cs := #[.bool a0, .int .i64 0, .int .u64 0, .int .u64 0, .int .u64 0, .int .u64 0, .bool false]) ?_ 3 _ rfl; refine blk_put (cs := #[.bool a0, .int .i64 0, .int .u64 0, .int .u64 0, .int .u64 0, .int .u64 0, .bool false]) ?_ 2 _ rfl; refine blk_put (cs := #[.bool a0, .int .i64 0, .int .u64 0, .int .u64 0, .int .u64 0, .int .u64 0, .bool false]) ?_ 1 _ rfl; refine blk_put (cs := #[.bool false, .int .i64 0, .int .u64 0, .int .u64 0, .int .u64 0, .int .u64 0, .bool false]) ?_ 0 _ rfl; (with_reducible repeat (first | refine blk_drewN ?_ _ | refine blk_drew ?_ | refine blk_alloc ?_ _)); exact q0.out) Try.underlying61 rfl (by kernel_rfl)) rfl ?_; exact ⟨by first | rfl | (simp [errW_none, errW_some] <;> rfl) | (simp [*, errW_none, errW_some] <;> rfl), kHs HB q2⟩
 rw [if_neg c4] at H
 have q3 : (a0 == a1) = false := by simpa using c4
 (try (have q4 : decide (a0 = a1) = false := by simpa using c4))
 (try (have q5 : (a0 == a1) = false := by simpa using c4))
 (try (have c4b3 : ¬ (a0 = a1) := by simpa using c4))
 clear c4
 simp only [Option.some.injEq, Prod.mk.injEq] at H
 obtain ⟨rfl, rfl, rfl, rfl, rfl, rfl, rfl⟩ := H
 go_enter Try.func94, Try.ntmps94
 go_wp2_with (first | ((with_reducible refine gate_dst (N := 6) rfl ?_); refine box_event ?hg (N := 6) ?hd (cs := #[.bool false, .int .i64 0, .int .u64 0, .int .u64 0, .int .u64 0, .int .u64 0, .bool false]) (t := 61) ?hr ?_; (case hd => rfl); (case hg => rfl); (case hr => first | (go_simp; done) | (go_simp; rfl)); intro q1 hg w7 hbox hb; have q0 := Aside0.mk (hbox); have q6 := Aside0.mk ((by rw [hg]; exact (below_size (kH HB)) : w.heap.size ≤ q1)); have q2 := Aside0.mk ((by rw [hg]; exact (below_size (kH HB)) : w.heap.size ≤ q1)); replace HB := Aside0.mk (below_step (kH HB) hb); clear hb hbox hg; have hcz8_0 : w7.cell? ⟨q1, 0, none⟩ = some (.bool false) := bc q0 0; have hcz8_1 : w7.cell? ⟨q1, 1, none⟩ = some (.int .i64 0) := bc q0 1; have hcz8_2 : w7.cell? ⟨q1, 2, none⟩ = some (.int .u64 0) := bc q0 2; have hcz8_3 : w7.cell? ⟨q1, 3, none⟩ = some (.int .u64 0) := bc q0 3; have hcz8_4 : w7.cell? ⟨q1, 4, none⟩ = some (.int .u64 0) := bc q0 4; have hcz8_5 : w7.cell? ⟨q1, 5, none⟩ = some (.int .u64 0) := bc q0 5; have hcz8_6 : w7.cell? ⟨q1, 6, none⟩ = some (.bool false) := bc q0 6; have hfz8_0 := blk_frozen q0.out 0; have hfz8_1 := blk_frozen q0.out 1; have hfz8_2 := blk_frozen q0.out 2; have hfz8_3 := blk_frozen q0.out 3; have hfz8_4 := blk_frozen q0.out 4; have hfz8_5 := blk_frozen q0.out 5; have hfz8_6 := blk_frozen q0.out 6))
 refine bodyPost_ret (results_cell_row rfl _ _ q1 61 #[.bool (a2 == 4), .int .i64 0, .int .u64 0, .int .u64 0, .int .u64 0, .int .u64 0, .bool false] (0, 0) _ rfl (by (with_reducible repeat (first | refine blk_drewN ?_ _ | refine blk_drew ?_ | refine blk_alloc ?_ _)); refine blk_put (cs := #[.bool (a2 == 4), .int .i64 0, .int .u64 0, .int .u64 0, .int .u64 0, .int .u64 0, .bool false]) ?_ 6 _ rfl; refine blk_put (cs := #[.bool (a2 == 4), .int .i64 0, .int .u64 0, .int .u64 0, .int .u64 0, .int .u64 0, .bool false]) ?_ 5 _ rfl; refine blk_put (cs := #[.bool (a2 == 4), .int .i64 0, .int .u64 0, .int .u64 0, .int .u64 0, .int .u64 0, .bool false]) ?_ 4 _ rfl; refine blk_put (cs := #[.bool (a2 == 4), .int .i64 0, .int .u64 0, .int .u64 0, .int .u64 0, .int .u64 0, .bool false]) ?_ 3 _ rfl; refine blk_put (cs := #[.bool (a2 == 4), .int .i64 0, .int .u64 0, .int .u64 0, .int .u64 0, .int .u64 0, .bool false]) ?_ 2 _ rfl; refine blk_put (cs := #[.bool (a2 == 4), .int .i64 0, .int .u64 0, .int .u64 0, .int .u64 0, .int .u64 0, .bool false]) ?_ 1 _ rfl; refine blk_put (cs := #[.bool false, .int .i64 0, .int .u64 0, .int .u64 0, .int .u64 0, .int .u64 0, .bool false]) ?_ 0 _ rfl; (with_reducible repeat (first | refine blk_drewN ?_ _ | refine blk_drew ?_ | refine blk_alloc ?_ _)); exact q0.out) Try.underlying61 rfl (by kernel_rfl)) rfl ?_; exact ⟨by first | rfl | (simp [errW_none, errW_some] <;> rfl) | (simp [*, errW_none, errW_some] <;> rfl), kHs HB q2⟩
end Go.Proofs.Ytbgefpeicmbgiaa.X
end
section
namespace Go.Proofs.Ytbgefpeicmbgiaa.X
open Go.RowKit Go.Proofs.YtbgefpeicmbgiaaW.PrintWords Go.Proofs.YtbgefpeicmbgiaaW.PrintLast Go.Proofs.YtbgefpeicmbgiaaW.PrintMore
attribute [local go_sem] max2_int min2_int max_two min_two max_three min_three max_four min_four   
set_option linter.unusedVariables false
set_option linter.unusedSimpArgs false
def sums_none.l0 : Nat → List Int → Int → Int → Option (Int × Int)
 | 0, _, _, _ => none
 | k + 1, x6, x7, x8 => if x8 < x7 then (if 0 ≤ x8 then (if x8 < (x6.length : Int) then ((pat_Class.f (rd x6 x8)).bind fun q1 => (if q1 = 5 then (some (9221120237041090560, 1)) else (sums_none.l0 k x6 x7 (wrap64 (x8 + 1))))) else (none)) else (none)) else (some (9221120237041090560, 0))
def sums_none.f (k : Nat) (l0 : List Int) : Option (Int × Int) := sums_none.l0 k l0 (l0.length : Int) 0
theorem sums_none.mono_l : ∀ k, (∀ y0 y1 y2, LeO (sums_none.l0 k y0 y1 y2) (sums_none.l0 (k + 1) y0 y1 y2))
 | 0 => fun _ _ _ r h => by simp [sums_none.l0] at h
 | k + 1 => by
  have ih0 := sums_none.mono_l k
  · intro y0 y1 y2
    unfold sums_none.l0
    repeat' first
    | (with_reducible exact ih0 _ _ _)
    | (with_reducible exact LeO.refl _)
    | (with_reducible exact LeO.none _)
    | (with_reducible refine LeO.ite ?_ ?_)
    | (with_reducible refine LeO.bind ?_ (fun _ => ?_))
    | exact ih0 _ _ _
    | exact LeO.none _
    | refine LeO.ite ?_ ?_
    | refine LeO.bind ?_ (fun _ => ?_)
theorem sums_none.mono : ∀ a0 k, LeO (sums_none.f k a0) (sums_none.f (k + 1) a0) := by
 intro a0 k; have ih0 := sums_none.mono_l k
 unfold sums_none.f
 repeat' first
  | (with_reducible exact ih0 _ _ _)
  | (with_reducible exact LeO.refl _)
  | (with_reducible exact LeO.none _)
  | (with_reducible refine LeO.ite ?_ ?_)
  | (with_reducible refine LeO.bind ?_ (fun _ => ?_))
  | exact ih0 _ _ _
  | exact LeO.none _
  | refine LeO.ite ?_ ?_
  | refine LeO.bind ?_ (fun _ => ?_)
set_option maxHeartbeats 8000000 in
set_option maxRecDepth 100000 in
theorem sums_none.calls (k : Nat) (A0 : Option Addr) (c0 : Nat) (l0 : List Int) (r1 : Int) (r2 : Int) (w : World) (hr0 : Kd.C (Kd.int .u64) w A0 l0.length l0) (hc0 : l0.length ≤ c0) (h : sums_none.f k l0 = some (r1, r2)) :
 Calls Try.prog 81 #[.slice A0 l0.length c0] w fun e w' => e = .returned (.tuple #[.int .u64 r1, .int .u8 r2]) ∧ Below w.heap.size w w' := by
 have HR0 := Aside0.mk hr0; have HC0 := Aside0.mk hc0; clear hr0 hc0; have HB := Aside0.mk (Below.refl w.heap.size w); have H : (sums_none.l0 k l0 (l0.length : Int) 0) = some (r1, r2) := h; clear h; have H' := Aside0.mk H; clear H
 go_enter Try.func81, Try.ntmps81
 go_wp2
 go_loopg [8] k (fun kq v8 w' => ∃ (q0 : Int), v8 = .int .i64 q0 ∧ Aside0 (sums_none.l0 kq l0 (l0.length : Int) q0 = some (r1, r2)) ∧ Aside0 (kq ≤ k) ∧ Aside0 (Below w.heap.size w w'))
 case atStart => exact ⟨(0), RSq, (by first | exact H' | (subst_vars; exact H')), ⟨Nat.le_refl _⟩, ⟨kH HB⟩⟩
 case round =>
  clear H'; obtain ⟨q0, rfl, HA, HK1, HB⟩ := hrel
  cases gk with
  | zero => exact absurd HA.out (by simp [sums_none.l0])
  | succ k1 =>
   have H := HA.out; clear HA
   simp only [sums_none.l0] at H
   by_cases c2 : q0 < (l0.length : Int)
   · rw [if_pos c2] at H
     have q3 : decide (q0 < (l0.length : Int)) = true := decide_eq_true c2; clear c2
     by_cases c3 : 0 ≤ q0
     · rw [if_pos c3] at H
       have c3b0 : decide (0 ≤ q0) = true := decide_eq_true c3; clear c3
       by_cases c4 : q0 < (l0.length : Int)
       · rw [if_pos c4] at H
         have c4b0 : decide (q0 < (l0.length : Int)) = true := decide_eq_true c4; clear c4; replace H := Option.bind_eq_some_iff.mp H; obtain ⟨q1, A50, H⟩ := H; replace H : (if q1 = 5 then (some (9221120237041090560, 1)) else (sums_none.l0 k1 l0 (l0.length : Int) (wrap64 (q0 + 1)))) = some (r1, r2) := H; have A5 := Aside0.mk A50; clear A50
         by_cases c6 : q1 = 5
         · rw [if_pos c6] at H
           have q4 : (q1 == 5) = true := beq_iff_eq.mpr c6; have q5 : (q1 != 5) = false := bne_eq_false_iff_eq.mpr c6; clear c6
           simp only [Option.some.injEq, Prod.mk.injEq] at H
           obtain ⟨rfl, rfl⟩ := H; have p446 : 0 ≤ (q0 : Int) := of_decide_eq_true ASq; have q446 : q0 < (l0.length : Int) := of_decide_eq_true ASq; obtain ⟨ad446, e446, q2⟩ := Kd.at_int HR0.out q0 p446 q446
           cases e446
           replace q2 := (HB.out.cell (World.block_lt_of_cell? w _ q2)).trans q2; replace p446 := eq_true p446; replace q446 := eq_true q446
           go_wp2_with (first | ((with_reducible refine gate_callee (f := 80) rfl ?_); refine goesL_ (some 13) rfl rfl Try.func80 (by kernel_rfl) rfl #[.int .u64 (rd l0 q0)] rfl LMq ?_; (with_reducible refine (pat_Class.calls (rd l0 q0) q1 _ A5.out).mono ?_); rintro e w7 ⟨rfl, hb⟩; refine ⟨_, rfl, ?_⟩; replace HB := Aside0.mk (below_step (kH HB) hb); (try clear hb); (try clear hb2); (try clear hk); (try clear hi)))
           go_ret2
           exact ⟨by first | rfl | (simp [errW_none, errW_some] <;> rfl) | (simp [*, errW_none, errW_some] <;> rfl), kH HB⟩
         rw [if_neg c6] at H
         have q4 : (q1 == 5) = false := beq_eq_false_iff_ne.mpr c6; have q5 : (q1 != 5) = true := bne_iff_ne.mpr c6; have H' := Aside0.mk H; clear H; have p446 : 0 ≤ (q0 : Int) := of_decide_eq_true ASq; have q446 : q0 < (l0.length : Int) := of_decide_eq_true ASq; obtain ⟨ad446, e446, q2⟩ := Kd.at_int HR0.out q0 p446 q446
         cases e446
         replace q2 := (HB.out.cell (World.block_lt_of_cell? w _ q2)).trans q2; replace p446 := eq_true p446; replace q446 := eq_true q446
         go_wp2_with (first | ((with_reducible refine gate_callee (f := 80) rfl ?_); refine goesL_ (some 13) rfl rfl Try.func80 (by kernel_rfl) rfl #[.int .u64 (rd l0 q0)] rfl LMq ?_; (with_reducible refine (pat_Class.calls (rd l0 q0) q1 _ A5.out).mono ?_); rintro e w8 ⟨rfl, hb⟩; refine ⟨_, rfl, ?_⟩; replace HB := Aside0.mk (below_step (kH HB) hb); (try clear hb); (try clear hb2); (try clear hk); (try clear hi)))
         go_roundg k1
         case measure => have := HK1.out; omega
         case rel => exact ⟨(wrap64 (q0 + 1)), RSq, (by first | exact H' | (subst_vars; exact H')), ⟨by have := HK1.out; omega⟩, ⟨kH HB⟩⟩
       rw [if_neg c4] at H
       exact absurd H (by simp)
     rw [if_neg c3] at H
     exact absurd H (by simp)
   rw [if_neg c2] at H
   have q3 : decide (q0 < (l0.length : Int)) = false := decide_eq_false c2; clear c2
   simp only [Option.some.injEq, Prod.mk.injEq] at H
   obtain ⟨rfl, rfl⟩ := H
   go_wp2
   go_ret2
   exact ⟨by first | rfl | (simp [errW_none, errW_some] <;> rfl) | (simp [*, errW_none, errW_some] <;> rfl), kH HB⟩
end Go.Proofs.Ytbgefpeicmbgiaa.X
end
section
namespace Go.Proofs.Ytbgefpeicmbgiaa.X
open Go.RowKit Go.Proofs.YtbgefpeicmbgiaaW.PrintWords Go.Proofs.YtbgefpeicmbgiaaW.PrintLast Go.Proofs.YtbgefpeicmbgiaaW.PrintMore
attribute [local go_sem] max2_int min2_int max_two min_two max_three min_three max_four min_four   
set_option linter.unusedVariables false
set_option linter.unusedSimpArgs false
def sums_right.f (a0_0 : Bool) (a0_1 : Int) (a0_2 : Int) (a0_3 : Int) (a0_4 : Int) (a0_5 : Int) (a0_6 : Bool) : Option (Bool) := (wide_Len.f a0_2 a0_3 a0_4 a0_5).bind fun q2 => (if q2 ≤ 128 then (if a0_6 = true then (some false) else (if a0_1 ≥ (-100000) then (some (decide (a0_1 ≤ 100000))) else (some false))) else (some false))
set_option maxHeartbeats 8000000 in
set_option maxRecDepth 100000 in
theorem sums_right.calls (a0_0 : Bool) (a0_1 : Int) (a0_2 : Int) (a0_3 : Int) (a0_4 : Int) (a0_5 : Int) (a0_6 : Bool) (r : Bool) (w : World) (h : sums_right.f a0_0 a0_1 a0_2 a0_3 a0_4 a0_5 a0_6 = some r) :
 Calls Try.prog 84 #[.agg #[.bool a0_0, .int .i64 a0_1, .int .u64 a0_2, .int .u64 a0_3, .int .u64 a0_4, .int .u64 a0_5, .bool a0_6]] w fun e w' => e = .returned (.bool r) ∧ Below w.heap.size w w' := by
 have hu61 := Try.underlying61; have hu58 := Try.underlying58; have HB := Aside0.mk (Below.refl w.heap.size w); have H : ((wide_Len.f a0_2 a0_3 a0_4 a0_5).bind fun q2 => (if q2 ≤ 128 then (if a0_6 = true then (some false) else (if a0_1 ≥ (-100000) then (some (decide (a0_1 ≤ 100000))) else (some false))) else (some false))) = some r := h; clear h; replace H := Option.bind_eq_some_iff.mp H; obtain ⟨q2, A20, H⟩ := H; replace H : (if q2 ≤ 128 then (if a0_6 = true then (some false) else (if a0_1 ≥ (-100000) then (some (decide (a0_1 ≤ 100000))) else (some false))) else (some false)) = some r := H; have A2 := Aside0.mk A20; clear A20
 by_cases c3 : q2 ≤ 128
 · rw [if_pos c3] at H
   have q5 : decide (q2 ≤ 128) = true := decide_eq_true c3; clear c3
   by_cases c4 : a0_6 = true
   · subst c4
     have H1 : (some false) = some r := by rw [if_pos rfl] at H; exact H
     clear H; have H := H1; clear H1; obtain rfl := Option.some.inj H
     go_enter Try.func84, Try.ntmps84
     go_wp2_with (first | ((with_reducible refine gate_dst (N := 1) rfl ?_); refine box_event ?hg (N := 1) ?hd (cs := #[.bool a0_0, .int .i64 a0_1, .int .u64 a0_2, .int .u64 a0_3, .int .u64 a0_4, .int .u64 a0_5, .bool true]) (t := 61) ?hr ?_; (case hd => rfl); (case hg => rfl); (case hr => first | (go_simp; done) | (go_simp; rfl)); intro q1 hg w5 hbox hb; have q0 := Aside0.mk (hbox); have q4 := Aside0.mk ((by rw [hg]; exact (below_size (kH HB)) : w.heap.size ≤ q1)); have q3 := Aside0.mk ((by rw [hg]; exact (below_size (kH HB)) : w.heap.size ≤ q1)); replace HB := Aside0.mk (below_step (kH HB) hb); clear hb hbox hg; have hcz6_0 : w5.cell? ⟨q1, 0, none⟩ = some (.bool a0_0) := bc q0 0; have hcz6_1 : w5.cell? ⟨q1, 1, none⟩ = some (.int .i64 a0_1) := bc q0 1; have hcz6_2 : w5.cell? ⟨q1, 2, none⟩ = some (.int .u64 a0_2) := bc q0 2; have hcz6_3 : w5.cell? ⟨q1, 3, none⟩ = some (.int .u64 a0_3) := bc q0 3; have hcz6_4 : w5.cell? ⟨q1, 4, none⟩ = some (.int .u64 a0_4) := bc q0 4; have hcz6_5 : w5.cell? ⟨q1, 5, none⟩ = some (.int .u64 a0_5) := bc q0 5; have hcz6_6 : w5.cell? ⟨q1, 6, none⟩ = some (.bool true) := bc q0 6; have hfz6_0 := blk_frozen q0.out 0; have hfz6_1 := blk_frozen q0.out 1; have hfz6_2 := blk_frozen q0.out 2; have hfz6_3 := blk_frozen q0.out 3; have hfz6_4 := blk_frozen q0.out 4; have hfz6_5 := blk_frozen q0.out 5; have hfz6_6 := blk_frozen q0.out 6) | ((with_reducible refine gate_callee (f := 62) rfl ?_); refine goesL_ (some 5) rfl rfl Try.func62 (by kernel_rfl) rfl #[.agg #[.int .u64 a0_2, .int .u64 a0_3, .int .u64 a0_4, .int .u64 a0_5]] rfl LMq ?_; (with_reducible refine (wide_Len.calls a0_2 a0_3 a0_4 a0_5 q2 _ A2.out).mono ?_); rintro e w7 ⟨rfl, hb⟩; refine ⟨_, rfl, ?_⟩; replace q0 := Aside0.mk (blk_below (g := q1) (o := .cells #[.bool a0_0, .int .i64 a0_1, .int .u64 a0_2, .int .u64 a0_3, .int .u64 a0_4, .int .u64 a0_5, .bool true] 61 (0, 0)) (kB q0) hb); replace HB := Aside0.mk (below_step (kHs HB q3) hb); (try clear hb); (try clear hb2); (try clear hk); (try clear hi); have hcz8_0 : w7.cell? ⟨q1, 0, none⟩ = some (.bool a0_0) := bc q0 0; have hcz8_1 : w7.cell? ⟨q1, 1, none⟩ = some (.int .i64 a0_1) := bc q0 1; have hcz8_2 : w7.cell? ⟨q1, 2, none⟩ = some (.int .u64 a0_2) := bc q0 2; have hcz8_3 : w7.cell? ⟨q1, 3, none⟩ = some (.int .u64 a0_3) := bc q0 3; have hcz8_4 : w7.cell? ⟨q1, 4, none⟩ = some (.int .u64 a0_4) := bc q0 4; have hcz8_5 : w7.cell? ⟨q1, 5, none⟩ = some (.int .u64 a0_5) := bc q0 5; have hcz8_6 : w7.cell? ⟨q1, 6, none⟩ = some (.bool true) := bc q0 6; have hfz8_0 := blk_frozen q0.out 0; have hfz8_1 := blk_frozen q0.out 1; have hfz8_2 := blk_frozen q0.out 2; have hfz8_3 := blk_frozen q0.out 3; have hfz8_4 := blk_frozen q0.out 4; have hfz8_5 := blk_frozen q0.out 5; have hfz8_6 := blk_frozen q0.out 6))
     go_ret
     exact ⟨by first | rfl | (simp [errW_none, errW_some] <;> rfl) | (simp [*, errW_none, errW_some] <;> rfl), kHs HB q3⟩
   replace c4 := Bool.eq_false_iff.mpr c4; subst c4
   have H1 : (if a0_1 ≥ (-100000) then (some (decide (a0_1 ≤ 100000))) else (some false)) = some r := by rw [if_neg (show ¬ (false = true) by decide)] at H; exact H
   clear H; have H := H1; clear H1
   by_cases c9 : a0_1 ≥ (-100000)
   · rw [if_pos c9] at H
     have q6 : decide ((-100000) ≤ a0_1) = true := decide_eq_true c9; clear c9; obtain rfl := Option.some.inj H
     go_enter Try.func84, Try.ntmps84
     go_wp2_with (first | ((with_reducible refine gate_dst (N := 1) rfl ?_); refine box_event ?hg (N := 1) ?hd (cs := #[.bool a0_0, .int .i64 a0_1, .int .u64 a0_2, .int .u64 a0_3, .int .u64 a0_4, .int .u64 a0_5, .bool false]) (t := 61) ?hr ?_; (case hd => rfl); (case hg => rfl); (case hr => first | (go_simp; done) | (go_simp; rfl)); intro q1 hg w10 hbox hb; have q0 := Aside0.mk (hbox); have q4 := Aside0.mk ((by rw [hg]; exact (below_size (kH HB)) : w.heap.size ≤ q1)); have q3 := Aside0.mk ((by rw [hg]; exact (below_size (kH HB)) : w.heap.size ≤ q1)); replace HB := Aside0.mk (below_step (kH HB) hb); clear hb hbox hg; have hcz11_0 : w10.cell? ⟨q1, 0, none⟩ = some (.bool a0_0) := bc q0 0; have hcz11_1 : w10.cell? ⟨q1, 1, none⟩ = some (.int .i64 a0_1) := bc q0 1; have hcz11_2 : w10.cell? ⟨q1, 2, none⟩ = some (.int .u64 a0_2) := bc q0 2; have hcz11_3 : w10.cell? ⟨q1, 3, none⟩ = some (.int .u64 a0_3) := bc q0 3; have hcz11_4 : w10.cell? ⟨q1, 4, none⟩ = some (.int .u64 a0_4) := bc q0 4; have hcz11_5 : w10.cell? ⟨q1, 5, none⟩ = some (.int .u64 a0_5) := bc q0 5; have hcz11_6 : w10.cell? ⟨q1, 6, none⟩ = some (.bool false) := bc q0 6; have hfz11_0 := blk_frozen q0.out 0; have hfz11_1 := blk_frozen q0.out 1; have hfz11_2 := blk_frozen q0.out 2; have hfz11_3 := blk_frozen q0.out 3; have hfz11_4 := blk_frozen q0.out 4; have hfz11_5 := blk_frozen q0.out 5; have hfz11_6 := blk_frozen q0.out 6) | ((with_reducible refine gate_callee (f := 62) rfl ?_); refine goesL_ (some 5) rfl rfl Try.func62 (by kernel_rfl) rfl #[.agg #[.int .u64 a0_2, .int .u64 a0_3, .int .u64 a0_4, .int .u64 a0_5]] rfl LMq ?_; (with_reducible refine (wide_Len.calls a0_2 a0_3 a0_4 a0_5 q2 _ A2.out).mono ?_); rintro e w12 ⟨rfl, hb⟩; refine ⟨_, rfl, ?_⟩; replace q0 := Aside0.mk (blk_below (g := q1) (o := .cells #[.bool a0_0, .int .i64 a0_1, .int .u64 a0_2, .int .u64 a0_3, .int .u64 a0_4, .int .u64 a0_5, .bool false] 61 (0, 0)) (kB q0) hb); replace HB := Aside0.mk (below_step (kHs HB q3) hb); (try clear hb); (try clear hb2); (try clear hk); (try clear hi); have hcz13_0 : w12.cell? ⟨q1, 0, none⟩ = some (.bool a0_0) := bc q0 0; have hcz13_1 : w12.cell? ⟨q1, 1, none⟩ = some (.int .i64 a0_1) := bc q0 1; have hcz13_2 : w12.cell? ⟨q1, 2, none⟩ = some (.int .u64 a0_2) := bc q0 2; have hcz13_3 : w12.cell? ⟨q1, 3, none⟩ = some (.int .u64 a0_3) := bc q0 3; have hcz13_4 : w12.cell? ⟨q1, 4, none⟩ = some (.int .u64 a0_4) := bc q0 4; have hcz13_5 : w12.cell? ⟨q1, 5, none⟩ = some (.int .u64 a0_5) := bc q0 5; have hcz13_6 : w12.cell? ⟨q1, 6, none⟩ = some (.bool false) := bc q0 6; have hfz13_0 := blk_frozen q0.out 0; have hfz13_1 := blk_frozen q0.out 1; have hfz13_2 := blk_frozen q0.out 2; have hfz13_3 := blk_frozen q0.out 3; have hfz13_4 := blk_frozen q0.out 4; have hfz13_5 := blk_frozen q0.out 5; have hfz13_6 := blk_frozen q0.out 6))
     go_ret
     exact ⟨by first | rfl | (simp [errW_none, errW_some] <;> rfl) | (simp [*, errW_none, errW_some] <;> rfl), kHs HB q3⟩
   rw [if_neg c9] at H
   have q6 : decide ((-100000) ≤ a0_1) = false := decide_eq_false c9; clear c9; obtain rfl := Option.some.inj H
   go_enter Try.func84, Try.ntmps84
   go_wp2_with (first | ((with_reducible refine gate_dst (N := 1) rfl ?_); refine box_event ?hg (N := 1) ?hd (cs := #[.bool a0_0, .int .i64 a0_1, .int .u64 a0_2, .int .u64 a0_3, .int .u64 a0_4, .int .u64 a0_5, .bool false]) (t := 61) ?hr ?_; (case hd => rfl); (case hg => rfl); (case hr => first | (go_simp; done) | (go_simp; rfl)); intro q1 hg w14 hbox hb; have q0 := Aside0.mk (hbox); have q4 := Aside0.mk ((by rw [hg]; exact (below_size (kH HB)) : w.heap.size ≤ q1)); have q3 := Aside0.mk ((by rw [hg]; exact (below_size (kH HB)) : w.heap.size ≤ q1)); replace HB := Aside0.mk (below_step (kH HB) hb); clear hb hbox hg; have hcz15_0 : w14.cell? ⟨q1, 0, none⟩ = some (.bool a0_0) := bc q0 0; have hcz15_1 : w14.cell? ⟨q1, 1, none⟩ = some (.int .i64 a0_1) := bc q0 1; have hcz15_2 : w14.cell? ⟨q1, 2, none⟩ = some (.int .u64 a0_2) := bc q0 2; have hcz15_3 : w14.cell? ⟨q1, 3, none⟩ = some (.int .u64 a0_3) := bc q0 3; have hcz15_4 : w14.cell? ⟨q1, 4, none⟩ = some (.int .u64 a0_4) := bc q0 4; have hcz15_5 : w14.cell? ⟨q1, 5, none⟩ = some (.int .u64 a0_5) := bc q0 5; have hcz15_6 : w14.cell? ⟨q1, 6, none⟩ = some (.bool false) := bc q0 6; have hfz15_0 := blk_frozen q0.out 0; have hfz15_1 := blk_frozen q0.out 1; have hfz15_2 := blk_frozen q0.out 2; have hfz15_3 := blk_frozen q0.out 3; have hfz15_4 := blk_frozen q0.out 4; have hfz15_5 := blk_frozen q0.out 5; have hfz15_6 := blk_frozen q0.out 6) | ((with_reducible refine gate_callee (f := 62) rfl ?_); refine goesL_ (some 5) rfl rfl Try.func62 (by kernel_rfl) rfl #[.agg #[.int .u64 a0_2, .int .u64 a0_3, .int .u64 a0_4, .int .u64 a0_5]] rfl LMq ?_; (with_reducible refine (wide_Len.calls a0_2 a0_3 a0_4 a0_5 q2 _ A2.out).mono ?_); rintro e w16 ⟨rfl, hb⟩; refine ⟨_, rfl, ?_⟩; replace q0 := Aside0.mk (blk_below (g := q1) (o := .cells #[.bool a0_0, .int .i64 a0_1, .int .u64 a0_2, .int .u64 a0_3, .int .u64 a0_4, .int .u64 a0_5, .bool false] 61 (0, 0)) (kB q0) hb); replace HB := Aside0.mk (below_step (kHs HB q3) hb); (try clear hb); (try clear hb2); (try clear hk); (try clear hi); have hcz17_0 : w16.cell? ⟨q1, 0, none⟩ = some (.bool a0_0) := bc q0 0; have hcz17_1 : w16.cell? ⟨q1, 1, none⟩ = some (.int .i64 a0_1) := bc q0 1; have hcz17_2 : w16.cell? ⟨q1, 2, none⟩ = some (.int .u64 a0_2) := bc q0 2; have hcz17_3 : w16.cell? ⟨q1, 3, none⟩ = some (.int .u64 a0_3) := bc q0 3; have hcz17_4 : w16.cell? ⟨q1, 4, none⟩ = some (.int .u64 a0_4) := bc q0 4; have hcz17_5 : w16.cell? ⟨q1, 5, none⟩ = some (.int .u64 a0_5) := bc q0 5; have hcz17_6 : w16.cell? ⟨q1, 6, none⟩ = some (.bool false) := bc q0 6; have hfz17_0 := blk_frozen q0.out 0; have hfz17_1 := blk_frozen q0.out 1; have hfz17_2 := blk_frozen q0.out 2; have hfz17_3 := blk_frozen q0.out 3; have hfz17_4 := blk_frozen q0.out 4; have hfz17_5 := blk_frozen q0.out 5; have hfz17_6 := blk_frozen q0.out 6))
   go_ret
   exact ⟨by first | rfl | (simp [errW_none, errW_some] <;> rfl) | (simp [*, errW_none, errW_some] <;> rfl), kHs HB q3⟩
 rw [if_neg c3] at H
 have q5 : decide (q2 ≤ 128) = false := decide_eq_false c3; clear c3; obtain rfl := Option.some.inj H
 go_enter Try.func84, Try.ntmps84
 go_wp2_with (first | ((with_reducible refine gate_dst (N := 1) rfl ?_); refine box_event ?hg (N := 1) ?hd (cs := #[.bool a0_0, .int .i64 a0_1, .int .u64 a0_2, .int .u64 a0_3, .int .u64 a0_4, .int .u64 a0_5, .bool a0_6]) (t := 61) ?hr ?_; (case hd => rfl); (case hg => rfl); (case hr => first | (go_simp; done) | (go_simp; rfl)); intro q1 hg w18 hbox hb; have q0 := Aside0.mk (hbox); have q4 := Aside0.mk ((by rw [hg]; exact (below_size (kH HB)) : w.heap.size ≤ q1)); have q3 := Aside0.mk ((by rw [hg]; exact (below_size (kH HB)) : w.heap.size ≤ q1)); replace HB := Aside0.mk (below_step (kH HB) hb); clear hb hbox hg; have hcz19_0 : w18.cell? ⟨q1, 0, none⟩ = some (.bool a0_0) := bc q0 0; have hcz19_1 : w18.cell? ⟨q1, 1, none⟩ = some (.int .i64 a0_1) := bc q0 1; have hcz19_2 : w18.cell? ⟨q1, 2, none⟩ = some (.int .u64 a0_2) := bc q0 2; have hcz19_3 : w18.cell? ⟨q1, 3, none⟩ = some (.int .u64 a0_3) := bc q0 3; have hcz19_4 : w18.cell? ⟨q1, 4, none⟩ = some (.int .u64 a0_4) := bc q0 4; have hcz19_5 : w18.cell? ⟨q1, 5, none⟩ = some (.int .u64 a0_5) := bc q0 5; have hcz19_6 : w18.cell? ⟨q1, 6, none⟩ = some (.bool a0_6) := bc q0 6; have hfz19_0 := blk_frozen q0.out 0; have hfz19_1 := blk_frozen q0.out 1; have hfz19_2 := blk_frozen q0.out 2; have hfz19_3 := blk_frozen q0.out 3; have hfz19_4 := blk_frozen q0.out 4; have hfz19_5 := blk_frozen q0.out 5; have hfz19_6 := blk_frozen q0.out 6) | ((with_reducible refine gate_callee (f := 62) rfl ?_); refine goesL_ (some 5) rfl rfl Try.func62 (by kernel_rfl) rfl #[.agg #[.int .u64 a0_2, .int .u64 a0_3, .int .u64 a0_4, .int .u64 a0_5]] rfl LMq ?_; (with_reducible refine (wide_Len.calls a0_2 a0_3 a0_4 a0_5 q2 _ A2.out).mono ?_); rintro e w20 ⟨rfl, hb⟩; refine ⟨_, rfl, ?_⟩; replace q0 := Aside0.mk (blk_below (g := q1) (o := .cells #[.bool a0_0, .int .i64 a0_1, .int .u64 a0_2, .int .u64 a0_3, .int .u64 a0_4, .int .u64 a0_5, .bool a0_6] 61 (0, 0)) (kB q0) hb); replace HB := Aside0.mk (below_step (kHs HB q3) hb); (try clear hb); (try clear hb2); (try clear hk); (try clear hi)))
 go_ret
 exact ⟨by first | rfl | (simp [errW_none, errW_some] <;> rfl) | (simp [*, errW_none, errW_some] <;> rfl), kHs HB q3⟩
end Go.Proofs.Ytbgefpeicmbgiaa.X
end
