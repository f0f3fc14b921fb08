import Derived.Test.YtbgefpeicmbgiaaKI4
import Derived.Test.YtbgefpeicmbgiaaKI5
import Derived.Test.YtbgefpeicmbgiaaKIXrndWhole
import Derived.Test.YtbgefpeicmbgiaaKIXwholeRound
import Derived.Test.YtbgefpeicmbgiaaKIXintsamong
section
namespace Go.Proofs.Ytbgefpeicmbgiaa.X
open Go.RowKit Go.Proofs.YtbgefpeicmbgiaaW.PrintWords Go.Proofs.YtbgefpeicmbgiaaW.PrintLast Go.Proofs.YtbgefpeicmbgiaaW.PrintMore
attribute [local go_sem] max2_int min2_int max_two min_two max_three min_three max_four min_four   
set_option linter.unusedVariables false
set_option linter.unusedSimpArgs false
def ints_To.f (k : Nat) (a0 : Int) (a1 : Int) (a2 : Bool) : Option (Int × Int) := (ints_among.f k a0 a1 a2 9223372036854775808 9223372036854775807).bind fun q1 => ((ints_signed_int64.f q1.1 q1.2.1).bind fun q0 => (some (q0, q1.2.2)))
theorem ints_To.mono : ∀ a0 a1 a2 k, LeO (ints_To.f k a0 a1 a2) (ints_To.f (k + 1) a0 a1 a2) := by
 intro a0 a1 a2 k
 unfold ints_To.f
 repeat' first
  | (with_reducible exact ints_among.mono _ _ _ _ _ _)
  | (with_reducible exact LeO.refl _)
  | (with_reducible exact LeO.none _)
  | (with_reducible refine LeO.ite ?_ ?_)
  | (with_reducible refine LeO.bind ?_ (fun _ => ?_))
  | exact ints_among.mono _ _ _ _ _ _
  | exact LeO.none _
  | refine LeO.ite ?_ ?_
  | refine LeO.bind ?_ (fun _ => ?_)
set_option maxHeartbeats 8000000 in
set_option maxRecDepth 100000 in
theorem ints_To.calls (k : Nat) (a0 : Int) (a1 : Int) (a2 : Bool) (r1 : Int) (r2 : Int) (w : World) (h : ints_To.f k a0 a1 a2 = some (r1, r2)) :
 Calls Try.prog 17 #[.int .u64 a0, .int .i64 a1, .bool a2] w fun e w' => e = .returned (.tuple #[.int .i64 r1, .int .u8 r2]) ∧ Below w.heap.size w w' := by
 have HB := Aside0.mk (Below.refl w.heap.size w); have H : ((ints_among.f k a0 a1 a2 9223372036854775808 9223372036854775807).bind fun q1 => ((ints_signed_int64.f q1.1 q1.2.1).bind fun q0 => (some (q0, q1.2.2)))) = some (r1, r2) := h; clear h; replace H := Option.bind_eq_some_iff.mp H; obtain ⟨⟨q2, q3, q4⟩, A40, H⟩ := H; replace H : ((ints_signed_int64.f q2 q3).bind fun q0 => (some (q0, q4))) = some (r1, r2) := H; have A4 := Aside0.mk A40; clear A40; replace H := Option.bind_eq_some_iff.mp H; obtain ⟨q0, A50, H⟩ := H; replace H : (some (q0, q4)) = some (r1, r2) := H; have A5 := Aside0.mk A50; clear A50
 simp only [Option.some.injEq, Prod.mk.injEq] at H
 obtain ⟨rfl, rfl⟩ := H
 go_enter Try.func17, Try.ntmps17
 go_wp2_with (first | ((with_reducible refine gate_callee (f := 34) rfl ?_); refine goesL_ (some 15) rfl rfl Try.func34 (by kernel_rfl) rfl #[.int .u64 a0, .int .i64 a1, .bool a2, .int .u64 9223372036854775808, .int .u64 9223372036854775807] rfl LMq ?_; (with_reducible refine (ints_among.calls k a0 a1 a2 9223372036854775808 9223372036854775807 q2 q3 q4 _ A4.out).mono ?_); rintro e w6 ⟨rfl, hb⟩; refine ⟨_, rfl, ?_⟩; replace HB := Aside0.mk (below_step (kH HB) hb); (try clear hb); (try clear hb2); (try clear hk); (try clear hi)) | ((with_reducible refine gate_callee (f := 35) rfl ?_); refine goesL_ (some 21) rfl rfl Try.func35 (by kernel_rfl) rfl #[.bool q2, .int .u64 q3] rfl LMq ?_; (with_reducible refine (ints_signed_int64.calls q2 q3 q0 _ A5.out).mono ?_); rintro e w' ⟨rfl, ⟨nd, rfl⟩⟩; refine ⟨_, rfl, ?_⟩))
 go_ret2
 exact ⟨by first | rfl | (simp [errW_none, errW_some] <;> rfl) | (simp [*, errW_none, errW_some] <;> rfl), kH HB⟩
end Go.Proofs.Ytbgefpeicmbgiaa.X
end
section
namespace Go.Proofs.Ytbgefpeicmbgiaa.X
open Go.RowKit Go.Proofs.YtbgefpeicmbgiaaW.PrintWords Go.Proofs.YtbgefpeicmbgiaaW.PrintLast Go.Proofs.YtbgefpeicmbgiaaW.PrintMore
attribute [local go_sem] max2_int min2_int max_two min_two max_three min_three max_four min_four   
set_option linter.unusedVariables false
set_option linter.unusedSimpArgs false
def ints_ToPlain.f (k : Nat) (a0 : Int) (a1 : Int) (a2 : Bool) : Option (Int × Int) := (ints_among.f k a0 a1 a2 0 18446744073709551615).bind fun q0 => (some (q0.2.1, q0.2.2))
theorem ints_ToPlain.mono : ∀ a0 a1 a2 k, LeO (ints_ToPlain.f k a0 a1 a2) (ints_ToPlain.f (k + 1) a0 a1 a2) := by
 intro a0 a1 a2 k
 unfold ints_ToPlain.f
 repeat' first
  | (with_reducible exact ints_among.mono _ _ _ _ _ _)
  | (with_reducible exact LeO.refl _)
  | (with_reducible exact LeO.none _)
  | (with_reducible refine LeO.ite ?_ ?_)
  | (with_reducible refine LeO.bind ?_ (fun _ => ?_))
  | exact ints_among.mono _ _ _ _ _ _
  | exact LeO.none _
  | refine LeO.ite ?_ ?_
  | refine LeO.bind ?_ (fun _ => ?_)
set_option maxHeartbeats 8000000 in
set_option maxRecDepth 100000 in
theorem ints_ToPlain.calls (k : Nat) (a0 : Int) (a1 : Int) (a2 : Bool) (r1 : Int) (r2 : Int) (w : World) (h : ints_ToPlain.f k a0 a1 a2 = some (r1, r2)) :
 Calls Try.prog 19 #[.int .u64 a0, .int .i64 a1, .bool a2] w fun e w' => e = .returned (.tuple #[.int .u64 r1, .int .u8 r2]) ∧ Below w.heap.size w w' := by
 have HB := Aside0.mk (Below.refl w.heap.size w); have H : ((ints_among.f k a0 a1 a2 0 18446744073709551615).bind fun q0 => (some (q0.2.1, q0.2.2))) = some (r1, r2) := h; clear h; replace H := Option.bind_eq_some_iff.mp H; obtain ⟨⟨q3, q1, q2⟩, A40, H⟩ := H; replace H : (some (q1, q2)) = some (r1, r2) := H; have A4 := Aside0.mk A40; clear A40
 simp only [Option.some.injEq, Prod.mk.injEq] at H
 obtain ⟨rfl, rfl⟩ := H
 go_enter Try.func19, Try.ntmps19
 go_wp2_with (first | ((with_reducible refine gate_callee (f := 34) rfl ?_); refine goesL_ (some 15) rfl rfl Try.func34 (by kernel_rfl) rfl #[.int .u64 a0, .int .i64 a1, .bool a2, .int .u64 0, .int .u64 18446744073709551615] rfl LMq ?_; (with_reducible refine (ints_among.calls k a0 a1 a2 0 18446744073709551615 q3 q1 q2 _ A4.out).mono ?_); rintro e w5 ⟨rfl, hb⟩; refine ⟨_, rfl, ?_⟩; replace HB := Aside0.mk (below_step (kH HB) hb); (try clear hb); (try clear hb2); (try clear hk); (try clear hi)))
 go_ret2
 exact ⟨by first | rfl | (simp [errW_none, errW_some] <;> rfl) | (simp [*, errW_none, errW_some] <;> rfl), kH HB⟩
end Go.Proofs.Ytbgefpeicmbgiaa.X
end
section
namespace Go.Proofs.Ytbgefpeicmbgiaa.X
open Go.RowKit Go.Proofs.YtbgefpeicmbgiaaW.PrintWords Go.Proofs.YtbgefpeicmbgiaaW.PrintLast Go.Proofs.YtbgefpeicmbgiaaW.PrintMore
attribute [local go_sem] max2_int min2_int max_two min_two max_three min_three max_four min_four   
set_option linter.unusedVariables false
set_option linter.unusedSimpArgs false
def ints_ToPlainHalf.f (k : Nat) (a0 : Int) (a1 : Int) (a2 : Bool) : Option (Int × Int) := (ints_among.f k a0 a1 a2 0 4294967295).bind fun q0 => (some ((q0.2.1) % 4294967296, q0.2.2))
theorem ints_ToPlainHalf.mono : ∀ a0 a1 a2 k, LeO (ints_ToPlainHalf.f k a0 a1 a2) (ints_ToPlainHalf.f (k + 1) a0 a1 a2) := by
 intro a0 a1 a2 k
 unfold ints_ToPlainHalf.f
 repeat' first
  | (with_reducible exact ints_among.mono _ _ _ _ _ _)
  | (with_reducible exact LeO.refl _)
  | (with_reducible exact LeO.none _)
  | (with_reducible refine LeO.ite ?_ ?_)
  | (with_reducible refine LeO.bind ?_ (fun _ => ?_))
  | exact ints_among.mono _ _ _ _ _ _
  | exact LeO.none _
  | refine LeO.ite ?_ ?_
  | refine LeO.bind ?_ (fun _ => ?_)
set_option maxHeartbeats 8000000 in
set_option maxRecDepth 100000 in
theorem ints_ToPlainHalf.calls (k : Nat) (a0 : Int) (a1 : Int) (a2 : Bool) (r1 : Int) (r2 : Int) (w : World) (h : ints_ToPlainHalf.f k a0 a1 a2 = some (r1, r2)) :
 Calls Try.prog 22 #[.int .u64 a0, .int .i64 a1, .bool a2] w fun e w' => e = .returned (.tuple #[.int .u32 r1, .int .u8 r2]) ∧ Below w.heap.size w w' := by
 have HB := Aside0.mk (Below.refl w.heap.size w); have H : ((ints_among.f k a0 a1 a2 0 4294967295).bind fun q0 => (some ((q0.2.1) % 4294967296, q0.2.2))) = some (r1, r2) := h; clear h; replace H := Option.bind_eq_some_iff.mp H; obtain ⟨⟨q3, q1, q2⟩, A40, H⟩ := H; replace H : (some ((q1) % 4294967296, q2)) = some (r1, r2) := H; have A4 := Aside0.mk A40; clear A40
 simp only [Option.some.injEq, Prod.mk.injEq] at H
 obtain ⟨rfl, rfl⟩ := H
 go_enter Try.func22, Try.ntmps22
 go_wp2_with (first | ((with_reducible refine gate_callee (f := 34) rfl ?_); refine goesL_ (some 15) rfl rfl Try.func34 (by kernel_rfl) rfl #[.int .u64 a0, .int .i64 a1, .bool a2, .int .u64 0, .int .u64 4294967295] rfl LMq ?_; (with_reducible refine (ints_among.calls k a0 a1 a2 0 4294967295 q3 q1 q2 _ A4.out).mono ?_); rintro e w5 ⟨rfl, hb⟩; refine ⟨_, rfl, ?_⟩; replace HB := Aside0.mk (below_step (kH HB) hb); (try clear hb); (try clear hb2); (try clear hk); (try clear hi)))
 go_ret2
 exact ⟨by first | rfl | (simp [errW_none, errW_some] <;> rfl) | (simp [*, errW_none, errW_some] <;> rfl), kH HB⟩
end Go.Proofs.Ytbgefpeicmbgiaa.X
end
section
namespace Go.Proofs.Ytbgefpeicmbgiaa.X
open Go.RowKit Go.Proofs.YtbgefpeicmbgiaaW.PrintWords Go.Proofs.YtbgefpeicmbgiaaW.PrintLast Go.Proofs.YtbgefpeicmbgiaaW.PrintMore
attribute [local go_sem] max2_int min2_int max_two min_two max_three min_three max_four min_four   
set_option linter.unusedVariables false
set_option linter.unusedSimpArgs false
def tillerlaw11_sure.f (k : Nat)  : Option (Bool) := (ints_ToPlainHalf.f k 13830554455654793216 0 false).bind fun q8 => ((ints_To.f k 4612811918334230528 3 false).bind fun q6 => ((ints_Of.f (-2) 0).bind fun q5 => (if q8.1 = 0 then (if q8.2 = 1 then (if q6.1 = 3 then (if q6.2 = 0 then (if q5.1 = 13835058055282163712 then (some (q5.2 == 0)) else (some false)) else (some false)) else (some false)) else (some false)) else (some false))))
theorem tillerlaw11_sure.mono : ∀ k, LeO (tillerlaw11_sure.f k ) (tillerlaw11_sure.f (k + 1) ) := by
 intro  k
 unfold tillerlaw11_sure.f
 repeat' first
  | (with_reducible exact ints_To.mono _ _ _ _)
  | (with_reducible exact ints_ToPlainHalf.mono _ _ _ _)
  | (with_reducible exact LeO.refl _)
  | (with_reducible exact LeO.none _)
  | (with_reducible refine LeO.ite ?_ ?_)
  | (with_reducible refine LeO.bind ?_ (fun _ => ?_))
  | exact ints_To.mono _ _ _ _
  | exact ints_ToPlainHalf.mono _ _ _ _
  | exact LeO.none _
  | refine LeO.ite ?_ ?_
  | refine LeO.bind ?_ (fun _ => ?_)
set_option maxHeartbeats 8000000 in
set_option maxRecDepth 100000 in
theorem tillerlaw11_sure.calls (k : Nat)  (r : Bool) (w : World) (h : tillerlaw11_sure.f k  = some r) :
 Calls Try.prog 16 #[] w fun e w' => e = .returned (.bool r) ∧ Below w.heap.size w w' := by
 have HB := Aside0.mk (Below.refl w.heap.size w); have H : ((ints_ToPlainHalf.f k 13830554455654793216 0 false).bind fun q8 => ((ints_To.f k 4612811918334230528 3 false).bind fun q6 => ((ints_Of.f (-2) 0).bind fun q5 => (if q8.1 = 0 then (if q8.2 = 1 then (if q6.1 = 3 then (if q6.2 = 0 then (if q5.1 = 13835058055282163712 then (some (q5.2 == 0)) else (some false)) else (some false)) else (some false)) else (some false)) else (some false))))) = some r := h; clear h; replace H := Option.bind_eq_some_iff.mp H; obtain ⟨⟨q0, q1⟩, A10, H⟩ := H; replace H : ((ints_To.f k 4612811918334230528 3 false).bind fun q6 => ((ints_Of.f (-2) 0).bind fun q5 => (if q0 = 0 then (if q1 = 1 then (if q6.1 = 3 then (if q6.2 = 0 then (if q5.1 = 13835058055282163712 then (some (q5.2 == 0)) else (some false)) else (some false)) else (some false)) else (some false)) else (some false)))) = some r := H; have A1 := Aside0.mk A10; clear A10; replace H := Option.bind_eq_some_iff.mp H; obtain ⟨⟨q2, q3⟩, A20, H⟩ := H; replace H : ((ints_Of.f (-2) 0).bind fun q5 => (if q0 = 0 then (if q1 = 1 then (if q2 = 3 then (if q3 = 0 then (if q5.1 = 13835058055282163712 then (some (q5.2 == 0)) else (some false)) else (some false)) else (some false)) else (some false)) else (some false))) = some r := H; have A2 := Aside0.mk A20; clear A20; replace H := Option.bind_eq_some_iff.mp H; obtain ⟨⟨q4, q7⟩, A30, H⟩ := H; replace H : (if q0 = 0 then (if q1 = 1 then (if q2 = 3 then (if q3 = 0 then (if q4 = 13835058055282163712 then (some (q7 == 0)) else (some false)) else (some false)) else (some false)) else (some false)) else (some false)) = some r := H; have A3 := Aside0.mk A30; clear A30
 by_cases c4 : q0 = 0
 · rw [if_pos c4] at H
   have q9 : (q0 == 0) = true := beq_iff_eq.mpr c4; have qa : (q0 != 0) = false := bne_eq_false_iff_eq.mpr c4; clear c4
   by_cases c5 : q1 = 1
   · rw [if_pos c5] at H
     have qb : (q1 == 1) = true := beq_iff_eq.mpr c5; have qc : (q1 != 1) = false := bne_eq_false_iff_eq.mpr c5; clear c5
     by_cases c6 : q2 = 3
     · rw [if_pos c6] at H
       have qd : (q2 == 3) = true := beq_iff_eq.mpr c6; have qe : (q2 != 3) = false := bne_eq_false_iff_eq.mpr c6; clear c6
       by_cases c7 : q3 = 0
       · rw [if_pos c7] at H
         have qf : (q3 == 0) = true := beq_iff_eq.mpr c7; have qg : (q3 != 0) = false := bne_eq_false_iff_eq.mpr c7; clear c7
         by_cases c8 : q4 = 13835058055282163712
         · rw [if_pos c8] at H
           have qh : (q4 == 13835058055282163712) = true := beq_iff_eq.mpr c8; have qi : (q4 != 13835058055282163712) = false := bne_eq_false_iff_eq.mpr c8; clear c8; obtain rfl := Option.some.inj H
           go_enter Try.func16, Try.ntmps16
           go_wp2_with (first | ((with_reducible refine gate_callee (f := 22) rfl ?_); refine goesL_ (some 8) rfl rfl Try.func22 (by kernel_rfl) rfl #[.int .u64 13830554455654793216, .int .i64 0, .bool false] rfl LMq ?_; (with_reducible refine (ints_ToPlainHalf.calls k 13830554455654793216 0 false q0 q1 _ A1.out).mono ?_); rintro e w9 ⟨rfl, hb⟩; refine ⟨_, rfl, ?_⟩; replace HB := Aside0.mk (below_step (kH HB) hb); (try clear hb); (try clear hb2); (try clear hk); (try clear hi)) | ((with_reducible refine gate_callee (f := 17) rfl ?_); refine goesL_ (some 12) rfl rfl Try.func17 (by kernel_rfl) rfl #[.int .u64 4612811918334230528, .int .i64 3, .bool false] rfl LMq ?_; (with_reducible refine (ints_To.calls k 4612811918334230528 3 false q2 q3 _ A2.out).mono ?_); rintro e w10 ⟨rfl, hb⟩; refine ⟨_, rfl, ?_⟩; replace HB := Aside0.mk (below_step (kH HB) hb); (try clear hb); (try clear hb2); (try clear hk); (try clear hi)) | ((with_reducible refine gate_callee (f := 13) rfl ?_); refine goesL_ (some 16) rfl rfl Try.func13 (by kernel_rfl) rfl #[.int .i64 (-2), .int .i64 0] rfl LMq ?_; (with_reducible refine (ints_Of.calls (-2) 0 q4 q7 _ A3.out).mono ?_); rintro e w11 ⟨rfl, hb⟩; refine ⟨_, rfl, ?_⟩; replace HB := Aside0.mk (below_step (kH HB) hb); (try clear hb); (try clear hb2); (try clear hk); (try clear hi)))
           go_ret
           exact ⟨by first | rfl | (simp [errW_none, errW_some] <;> rfl) | (simp [*, errW_none, errW_some] <;> rfl), kH HB⟩
         rw [if_neg c8] at H
         have qh : (q4 == 13835058055282163712) = false := beq_eq_false_iff_ne.mpr c8; have qi : (q4 != 13835058055282163712) = true := bne_iff_ne.mpr c8; obtain rfl := Option.some.inj H
         go_enter Try.func16, Try.ntmps16
         go_wp2_with (first | ((with_reducible refine gate_callee (f := 22) rfl ?_); refine goesL_ (some 8) rfl rfl Try.func22 (by kernel_rfl) rfl #[.int .u64 13830554455654793216, .int .i64 0, .bool false] rfl LMq ?_; (with_reducible refine (ints_ToPlainHalf.calls k 13830554455654793216 0 false q0 q1 _ A1.out).mono ?_); rintro e w12 ⟨rfl, hb⟩; refine ⟨_, rfl, ?_⟩; replace HB := Aside0.mk (below_step (kH HB) hb); (try clear hb); (try clear hb2); (try clear hk); (try clear hi)) | ((with_reducible refine gate_callee (f := 17) rfl ?_); refine goesL_ (some 12) rfl rfl Try.func17 (by kernel_rfl) rfl #[.int .u64 4612811918334230528, .int .i64 3, .bool false] rfl LMq ?_; (with_reducible refine (ints_To.calls k 4612811918334230528 3 false q2 q3 _ A2.out).mono ?_); rintro e w13 ⟨rfl, hb⟩; refine ⟨_, rfl, ?_⟩; replace HB := Aside0.mk (below_step (kH HB) hb); (try clear hb); (try clear hb2); (try clear hk); (try clear hi)) | ((with_reducible refine gate_callee (f := 13) rfl ?_); refine goesL_ (some 16) rfl rfl Try.func13 (by kernel_rfl) rfl #[.int .i64 (-2), .int .i64 0] rfl LMq ?_; (with_reducible refine (ints_Of.calls (-2) 0 q4 q7 _ A3.out).mono ?_); rintro e w14 ⟨rfl, hb⟩; refine ⟨_, rfl, ?_⟩; replace HB := Aside0.mk (below_step (kH HB) hb); (try clear hb); (try clear hb2); (try clear hk); (try clear hi)))
         go_ret
         exact ⟨by first | rfl | (simp [errW_none, errW_some] <;> rfl) | (simp [*, errW_none, errW_some] <;> rfl), kH HB⟩
       rw [if_neg c7] at H
       have qf : (q3 == 0) = false := beq_eq_false_iff_ne.mpr c7; have qg : (q3 != 0) = true := bne_iff_ne.mpr c7; obtain rfl := Option.some.inj H
       go_enter Try.func16, Try.ntmps16
       go_wp2_with (first | ((with_reducible refine gate_callee (f := 22) rfl ?_); refine goesL_ (some 8) rfl rfl Try.func22 (by kernel_rfl) rfl #[.int .u64 13830554455654793216, .int .i64 0, .bool false] rfl LMq ?_; (with_reducible refine (ints_ToPlainHalf.calls k 13830554455654793216 0 false q0 q1 _ A1.out).mono ?_); rintro e w15 ⟨rfl, hb⟩; refine ⟨_, rfl, ?_⟩; replace HB := Aside0.mk (below_step (kH HB) hb); (try clear hb); (try clear hb2); (try clear hk); (try clear hi)) | ((with_reducible refine gate_callee (f := 17) rfl ?_); refine goesL_ (some 12) rfl rfl Try.func17 (by kernel_rfl) rfl #[.int .u64 4612811918334230528, .int .i64 3, .bool false] rfl LMq ?_; (with_reducible refine (ints_To.calls k 4612811918334230528 3 false q2 q3 _ A2.out).mono ?_); rintro e w16 ⟨rfl, hb⟩; refine ⟨_, rfl, ?_⟩; replace HB := Aside0.mk (below_step (kH HB) hb); (try clear hb); (try clear hb2); (try clear hk); (try clear hi)) | ((with_reducible refine gate_callee (f := 13) rfl ?_); refine goesL_ (some 16) rfl rfl Try.func13 (by kernel_rfl) rfl #[.int .i64 (-2), .int .i64 0] rfl LMq ?_; (with_reducible refine (ints_Of.calls (-2) 0 q4 q7 _ A3.out).mono ?_); rintro e w17 ⟨rfl, hb⟩; refine ⟨_, rfl, ?_⟩; replace HB := Aside0.mk (below_step (kH HB) hb); (try clear hb); (try clear hb2); (try clear hk); (try clear hi)))
       go_ret
       exact ⟨by first | rfl | (simp [errW_none, errW_some] <;> rfl) | (simp [*, errW_none, errW_some] <;> rfl), kH HB⟩
     rw [if_neg c6] at H
     have qd : (q2 == 3) = false := beq_eq_false_iff_ne.mpr c6; have qe : (q2 != 3) = true := bne_iff_ne.mpr c6; obtain rfl := Option.some.inj H
     go_enter Try.func16, Try.ntmps16
     go_wp2_with (first | ((with_reducible refine gate_callee (f := 22) rfl ?_); refine goesL_ (some 8) rfl rfl Try.func22 (by kernel_rfl) rfl #[.int .u64 13830554455654793216, .int .i64 0, .bool false] rfl LMq ?_; (with_reducible refine (ints_ToPlainHalf.calls k 13830554455654793216 0 false q0 q1 _ A1.out).mono ?_); rintro e w18 ⟨rfl, hb⟩; refine ⟨_, rfl, ?_⟩; replace HB := Aside0.mk (below_step (kH HB) hb); (try clear hb); (try clear hb2); (try clear hk); (try clear hi)) | ((with_reducible refine gate_callee (f := 17) rfl ?_); refine goesL_ (some 12) rfl rfl Try.func17 (by kernel_rfl) rfl #[.int .u64 4612811918334230528, .int .i64 3, .bool false] rfl LMq ?_; (with_reducible refine (ints_To.calls k 4612811918334230528 3 false q2 q3 _ A2.out).mono ?_); rintro e w19 ⟨rfl, hb⟩; refine ⟨_, rfl, ?_⟩; replace HB := Aside0.mk (below_step (kH HB) hb); (try clear hb); (try clear hb2); (try clear hk); (try clear hi)) | ((with_reducible refine gate_callee (f := 13) rfl ?_); refine goesL_ (some 16) rfl rfl Try.func13 (by kernel_rfl) rfl #[.int .i64 (-2), .int .i64 0] rfl LMq ?_; (with_reducible refine (ints_Of.calls (-2) 0 q4 q7 _ A3.out).mono ?_); rintro e w20 ⟨rfl, hb⟩; refine ⟨_, rfl, ?_⟩; replace HB := Aside0.mk (below_step (kH HB) hb); (try clear hb); (try clear hb2); (try clear hk); (try clear hi)))
     go_ret
     exact ⟨by first | rfl | (simp [errW_none, errW_some] <;> rfl) | (simp [*, errW_none, errW_some] <;> rfl), kH HB⟩
   rw [if_neg c5] at H
   have qb : (q1 == 1) = false := beq_eq_false_iff_ne.mpr c5; have qc : (q1 != 1) = true := bne_iff_ne.mpr c5; obtain rfl := Option.some.inj H
   go_enter Try.func16, Try.ntmps16
   go_wp2_with (first | ((with_reducible refine gate_callee (f := 22) rfl ?_); refine goesL_ (some 8) rfl rfl Try.func22 (by kernel_rfl) rfl #[.int .u64 13830554455654793216, .int .i64 0, .bool false] rfl LMq ?_; (with_reducible refine (ints_ToPlainHalf.calls k 13830554455654793216 0 false q0 q1 _ A1.out).mono ?_); rintro e w21 ⟨rfl, hb⟩; refine ⟨_, rfl, ?_⟩; replace HB := Aside0.mk (below_step (kH HB) hb); (try clear hb); (try clear hb2); (try clear hk); (try clear hi)) | ((with_reducible refine gate_callee (f := 17) rfl ?_); refine goesL_ (some 12) rfl rfl Try.func17 (by kernel_rfl) rfl #[.int .u64 4612811918334230528, .int .i64 3, .bool false] rfl LMq ?_; (with_reducible refine (ints_To.calls k 4612811918334230528 3 false q2 q3 _ A2.out).mono ?_); rintro e w22 ⟨rfl, hb⟩; refine ⟨_, rfl, ?_⟩; replace HB := Aside0.mk (below_step (kH HB) hb); (try clear hb); (try clear hb2); (try clear hk); (try clear hi)) | ((with_reducible refine gate_callee (f := 13) rfl ?_); refine goesL_ (some 16) rfl rfl Try.func13 (by kernel_rfl) rfl #[.int .i64 (-2), .int .i64 0] rfl LMq ?_; (with_reducible refine (ints_Of.calls (-2) 0 q4 q7 _ A3.out).mono ?_); rintro e w23 ⟨rfl, hb⟩; refine ⟨_, rfl, ?_⟩; replace HB := Aside0.mk (below_step (kH HB) hb); (try clear hb); (try clear hb2); (try clear hk); (try clear hi)))
   go_ret
   exact ⟨by first | rfl | (simp [errW_none, errW_some] <;> rfl) | (simp [*, errW_none, errW_some] <;> rfl), kH HB⟩
 rw [if_neg c4] at H
 have q9 : (q0 == 0) = false := beq_eq_false_iff_ne.mpr c4; have qa : (q0 != 0) = true := bne_iff_ne.mpr c4; obtain rfl := Option.some.inj H
 go_enter Try.func16, Try.ntmps16
 go_wp2_with (first | ((with_reducible refine gate_callee (f := 22) rfl ?_); refine goesL_ (some 8) rfl rfl Try.func22 (by kernel_rfl) rfl #[.int .u64 13830554455654793216, .int .i64 0, .bool false] rfl LMq ?_; (with_reducible refine (ints_ToPlainHalf.calls k 13830554455654793216 0 false q0 q1 _ A1.out).mono ?_); rintro e w24 ⟨rfl, hb⟩; refine ⟨_, rfl, ?_⟩; replace HB := Aside0.mk (below_step (kH HB) hb); (try clear hb); (try clear hb2); (try clear hk); (try clear hi)) | ((with_reducible refine gate_callee (f := 17) rfl ?_); refine goesL_ (some 12) rfl rfl Try.func17 (by kernel_rfl) rfl #[.int .u64 4612811918334230528, .int .i64 3, .bool false] rfl LMq ?_; (with_reducible refine (ints_To.calls k 4612811918334230528 3 false q2 q3 _ A2.out).mono ?_); rintro e w25 ⟨rfl, hb⟩; refine ⟨_, rfl, ?_⟩; replace HB := Aside0.mk (below_step (kH HB) hb); (try clear hb); (try clear hb2); (try clear hk); (try clear hi)) | ((with_reducible refine gate_callee (f := 13) rfl ?_); refine goesL_ (some 16) rfl rfl Try.func13 (by kernel_rfl) rfl #[.int .i64 (-2), .int .i64 0] rfl LMq ?_; (with_reducible refine (ints_Of.calls (-2) 0 q4 q7 _ A3.out).mono ?_); rintro e w26 ⟨rfl, hb⟩; refine ⟨_, rfl, ?_⟩; replace HB := Aside0.mk (below_step (kH HB) hb); (try clear hb); (try clear hb2); (try clear hk); (try clear hi)))
 go_ret
 exact ⟨by first | rfl | (simp [errW_none, errW_some] <;> rfl) | (simp [*, errW_none, errW_some] <;> rfl), kH HB⟩
end Go.Proofs.Ytbgefpeicmbgiaa.X
end
section
namespace Go.Proofs.Ytbgefpeicmbgiaa
set_option linter.unusedVariables false
set_option linter.unusedSimpArgs false
open Go.RowKit X
theorem nil_all {r : Nat} (h : r < T256) : (l0 r == 0 && (l1 r == 0 && (l2 r == 0 && l3 r == 0))) = decide (r = 0) := by
  have := l_eq_zero h
  rw [Bool.eq_iff_iff]
  simp only [Bool.and_eq_true, beq_iff_eq, decide_eq_true_eq]
  rw [← this]
theorem tQ_zero (mi : Bool) (x n m : Int) : tQ mi x 0 n m = 0 := by
  unfold tQ tU cutH cutR
  split
  · rw [Nat.zero_mul]
  · next h =>
    simp [upB_no]
theorem odd_zero (x n : Int) : rOdd 0 x n = false := by
  unfold rOdd cutH cutR
  split
  · rfl
  · rw [Nat.zero_div, Nat.zero_mod]; rfl
theorem tQ_neg {mi : Bool} {x n m : Int} {s : Nat} (h : x < n) : tQ mi x s n m = cutQ s x n + if upB m mi (decide (cutQ s x n % 2 = 1)) (cutH s x n) (cutR s x n) = true then 1 else 0 := by
  have hn : ¬ n ≤ x := by omega
  unfold tQ tU cutQ
  rw [if_neg hn, if_neg hn]
theorem whole_pos (k : Nat) (mi : Bool) (x : Int) (a b c d m : Int) (h : 0 ≤ x) : rnd_Whole.f (k + 1) mi x a b c d false m = some (mi, x, a, b, c, d, false, false) := by
  unfold rnd_Whole.f
  by_cases g : x > 0
  · rw [if_pos g]
    simp only [rnd_Whole.j0]
    rw [if_pos trivial]
  · rw [if_neg g, if_pos (by omega)]
    simp only [rnd_Whole.j0]
    rw [if_pos (by rfl)]
theorem whole_j3 (k : Nat) (mi : Bool) {x : Int} {s : Nat} (m : Int) (hs : s < 2 ^ 254) (h0 : -131072 ≤ x) (h1 : x < 0) :
    rnd_Whole.j3 (k + 1) m false mi x (l0 s) (l1 s) (l2 s) (l3 s) false = some (mi, 0, l0 (tQ mi x s 0 m), l1 (tQ mi x s 0 m), l2 (tQ mi x s 0 m), l3 (tQ mi x s 0 m), false, rOdd s x 0) := by
  have hT : s < T256 := by rw [T256_eq]; exact Nat.lt_trans hs (by decide)
  have hq := cutQ_lt s x 0 hT
  have hq2 : cutQ s x 0 < 2 ^ 254 := by
    unfold cutQ
    rw [if_neg (by omega)]
    exact Nat.lt_of_le_of_lt (Nat.div_le_self _ _) hs
  have eC := rnd_Num_cut.eq hT mi x false 0 rfl (by omega) (by omega) (by omega) (by omega)
  have hsm : cutQ s x 0 + Int.toNat 1 < T256 := by
    rw [T256_eq, show Int.toNat 1 = 1 from rfl]
    have : (2 : Nat) ^ 254 < 2 ^ 256 := by decide
    omega
  have eA := wide_Add.eq hq (show Int.toNat 1 < T256 by decide)
  rw [Nat.mod_eq_of_lt hsm, decide_eq_false (by omega)] at eA
  have eO := wide_Of.eq 1 (by decide)
  rw [tQ_neg h1]
  have hodd : rOdd s x 0 = (cutH s x 0 || cutR s x 0) := rfl
  simp only [rnd_Whole.j3]
  rw [if_neg (by decide), eC]
  simp only [Option.bind_some]
  rw [low_bit]
  unfold rnd_up.f
  simp only [Option.bind_some]
  cases hu : upB m mi (decide (cutQ s x 0 % 2 = 1)) (cutH s x 0) (cutR s x 0)
  · simp only [Bool.false_eq_true, if_false, Nat.add_zero, hodd]
    cases cutH s x 0 <;> simp
  · simp only [if_true]
    rw [eO]
    simp only [Option.bind_some]
    rw [eA]
    simp only [Option.bind_some, Bool.false_eq_true, if_false, hodd]
    rw [show Int.toNat 1 = 1 from rfl]
    cases cutH s x 0 <;> simp
theorem whole_neg (k : Nat) (mi : Bool) {x : Int} {s : Nat} (m : Int) (hs : s < 2 ^ 254) (h0 : -131072 ≤ x) (h1 : x < 0) :
    rnd_Whole.f (k + 4) mi x (l0 s) (l1 s) (l2 s) (l3 s) false m = some (mi, 0, l0 (tQ mi x s 0 m), l1 (tQ mi x s 0 m), l2 (tQ mi x s 0 m), l3 (tQ mi x s 0 m), false, rOdd s x 0) := by
  have hT : s < T256 := by rw [T256_eq]; exact Nat.lt_trans hs (by decide)
  have eN := rnd_Num_near.eq hT mi x false h0 (by omega)
  have eE := rnd_Num_exact.eq hT mi x false hs h0 (by omega)
  unfold rnd_Whole.f
  rw [if_neg (by omega), if_neg (by omega)]
  simp only [rnd_Whole.j0]
  rw [if_neg (by decide), eN]
  simp only [Option.bind_some]
  rw [if_pos h1]
  simp only [rnd_Whole.j1]
  rw [if_pos trivial, eE, if_neg (by decide)]
  simp only [Option.bind_some]
  simp only [rnd_Whole.j2]
  rw [nil_all hT]
  by_cases z : s = 0
  · rw [decide_eq_true z, if_pos rfl]
    simp only [rnd_Whole.j3]
    rw [if_pos (by rfl)]
    subst z
    rw [tQ_zero, odd_zero]
    rfl
  · rw [decide_eq_false z, if_neg (by decide)]
    exact whole_j3 k mi m hs h0 h1
end Go.Proofs.Ytbgefpeicmbgiaa
end
section
namespace Go.Proofs.Ytbgefpeicmbgiaa
set_option linter.unusedVariables false
set_option linter.unusedSimpArgs false
open Go.RowKit X
theorem whole_none_eq {a b : Int} (ha : U a) (hb : U b) : whole_none.f a b = some (qNone a b) := by
  unfold whole_none.f qNone
  rw [pat_Class.eq a (inU_of ha), Option.bind_some, pat_Class.eq b (inU_of hb)]
  by_cases h1 : pC a = 5
  · rw [if_pos h1, if_pos (.inl h1)]
  · rw [if_neg h1, Option.bind_some]
    by_cases h2 : pC b = 5
    · rw [if_pos h2, if_pos (.inr h2)]
    · rw [if_neg h2, if_neg (fun h => h.elim h1 h2)]
theorem rnd_eq (mi : Bool) {x : Int} {s : Nat} (m : Int) (hs : s < 2 ^ 254) (h0 : -131072 ≤ x) (h1 : x ≤ 131072) :
    rnd_Round.f mi x (l0 s) (l1 s) (l2 s) (l3 s) false m = some (rRound mi x s m) := by
  have hT : s < T256 := by rw [T256_eq]; exact Nat.lt_trans hs (by decide)
  have eR := rnd_Round.eq hT mi x false m hs h0 h1
  rw [eR]
  rfl
theorem wround_spec (k : Nat) {a : Int} (m : Int) (told : Bool) (ha : U a) : whole_Round.f (k + 4) a m told = some (wRnd a m told) := by
  have hc := pC_bd a
  have hx := pX_bd a
  have hs := pS_53 a
  unfold whole_Round.f wRnd
  rw [rnd_Of.eq a (inU_of ha), pat_IsNaN.eq a (inU_of ha)]
  by_cases c5 : 3 < pC a
  · rw [if_neg (by omega), Option.bind_some, Option.bind_some, decide_eq_true c5, if_pos rfl, if_pos c5, whole_none_eq ha ha]
    rfl
  · rw [if_neg c5]
    by_cases c3 : pC a = 3
    · rw [if_neg (by omega), Option.bind_some, Option.bind_some, decide_eq_false c5, if_neg (by decide), if_neg (by decide), if_pos c3]
    · rw [if_pos (by omega), Option.bind_some, Option.bind_some, decide_eq_false c5, if_neg (by decide), if_pos (by rfl), if_neg c3]
      by_cases c : 0 ≤ pX a
      · rw [whole_pos (k + 3) (pM a) (pX a) _ _ _ _ m c, if_pos c]
        simp only [Option.bind_some]
        have e := round_exact ha (by omega) 0 0
        rw [Nat.pow_zero, Nat.mul_one, show pX a - ((0 : Nat) : Int) = pX a by omega] at e
        rw [rnd_eq (pM a) 0 (Nat.lt_trans hs (by decide)) (by omega) (by omega), e]
        rfl
      · rw [whole_neg k (pM a) (x := pX a) m (Nat.lt_trans hs (by decide)) (by omega) (by omega), if_neg c]
        simp only [Option.bind_some]
        have hq := wQ_lt m (show pX a < 0 by omega)
        unfold wQ at hq ⊢
        rw [rnd_eq (pM a) 0 (Nat.lt_trans hq (by decide)) (by omega) (by omega)]
        simp only [Option.bind_some]
        cases rOdd (pS a).toNat (pX a) 0
        · simp
        · cases told <;> simp
end Go.Proofs.Ytbgefpeicmbgiaa
end
section
namespace Go.Proofs.Ytbgefpeicmbgiaa.X
open Go.RowKit Go.Proofs.YtbgefpeicmbgiaaW.PrintWords Go.Proofs.YtbgefpeicmbgiaaW.PrintLast Go.Proofs.YtbgefpeicmbgiaaW.PrintMore
attribute [local go_sem] max2_int min2_int max_two min_two max_three min_three max_four min_four   
set_option linter.unusedVariables false
set_option linter.unusedSimpArgs false
def ints_ToHalf.f (k : Nat) (a0 : Int) (a1 : Int) (a2 : Bool) : Option (Int × Int) := (ints_among.f k a0 a1 a2 2147483648 2147483647).bind fun q1 => ((ints_signed_int32.f q1.1 q1.2.1).bind fun q0 => (some (q0, q1.2.2)))
theorem ints_ToHalf.mono : ∀ a0 a1 a2 k, LeO (ints_ToHalf.f k a0 a1 a2) (ints_ToHalf.f (k + 1) a0 a1 a2) := by
 intro a0 a1 a2 k
 unfold ints_ToHalf.f
 repeat' first
  | (with_reducible exact ints_among.mono _ _ _ _ _ _)
  | (with_reducible exact LeO.refl _)
  | (with_reducible exact LeO.none _)
  | (with_reducible refine LeO.ite ?_ ?_)
  | (with_reducible refine LeO.bind ?_ (fun _ => ?_))
  | exact ints_among.mono _ _ _ _ _ _
  | exact LeO.none _
  | refine LeO.ite ?_ ?_
  | refine LeO.bind ?_ (fun _ => ?_)
set_option maxHeartbeats 8000000 in
set_option maxRecDepth 100000 in
theorem ints_ToHalf.calls (k : Nat) (a0 : Int) (a1 : Int) (a2 : Bool) (r1 : Int) (r2 : Int) (w : World) (h : ints_ToHalf.f k a0 a1 a2 = some (r1, r2)) :
 Calls Try.prog 21 #[.int .u64 a0, .int .i64 a1, .bool a2] w fun e w' => e = .returned (.tuple #[.int .i32 r1, .int .u8 r2]) ∧ Below w.heap.size w w' := by
 have HB := Aside0.mk (Below.refl w.heap.size w); have H : ((ints_among.f k a0 a1 a2 2147483648 2147483647).bind fun q1 => ((ints_signed_int32.f q1.1 q1.2.1).bind fun q0 => (some (q0, q1.2.2)))) = some (r1, r2) := h; clear h; replace H := Option.bind_eq_some_iff.mp H; obtain ⟨⟨q2, q3, q4⟩, A40, H⟩ := H; replace H : ((ints_signed_int32.f q2 q3).bind fun q0 => (some (q0, q4))) = some (r1, r2) := H; have A4 := Aside0.mk A40; clear A40; replace H := Option.bind_eq_some_iff.mp H; obtain ⟨q0, A50, H⟩ := H; replace H : (some (q0, q4)) = some (r1, r2) := H; have A5 := Aside0.mk A50; clear A50
 simp only [Option.some.injEq, Prod.mk.injEq] at H
 obtain ⟨rfl, rfl⟩ := H
 go_enter Try.func21, Try.ntmps21
 go_wp2_with (first | ((with_reducible refine gate_callee (f := 34) rfl ?_); refine goesL_ (some 15) rfl rfl Try.func34 (by kernel_rfl) rfl #[.int .u64 a0, .int .i64 a1, .bool a2, .int .u64 2147483648, .int .u64 2147483647] rfl LMq ?_; (with_reducible refine (ints_among.calls k a0 a1 a2 2147483648 2147483647 q2 q3 q4 _ A4.out).mono ?_); rintro e w6 ⟨rfl, hb⟩; refine ⟨_, rfl, ?_⟩; replace HB := Aside0.mk (below_step (kH HB) hb); (try clear hb); (try clear hb2); (try clear hk); (try clear hi)) | ((with_reducible refine gate_callee (f := 42) rfl ?_); refine goesL_ (some 21) rfl rfl Try.func42 (by kernel_rfl) rfl #[.bool q2, .int .u64 q3] rfl LMq ?_; (with_reducible refine (ints_signed_int32.calls q2 q3 q0 _ A5.out).mono ?_); rintro e w' ⟨rfl, ⟨nd, rfl⟩⟩; refine ⟨_, rfl, ?_⟩))
 go_ret2
 exact ⟨by first | rfl | (simp [errW_none, errW_some] <;> rfl) | (simp [*, errW_none, errW_some] <;> rfl), kH HB⟩
end Go.Proofs.Ytbgefpeicmbgiaa.X
end
section
namespace Go.Proofs.Ytbgefpeicmbgiaa
set_option linter.unusedVariables false
set_option linter.unusedSimpArgs false
open Go.RowKit X Go.Proofs.YtbgefpeicmbgiaaW.PrintWords Go.Proofs.YtbgefpeicmbgiaaW.PrintLast Go.Proofs.YtbgefpeicmbgiaaW.PrintMore
theorem among_eq (k : Nat) {p : Int} (m : Int) (told : Bool) (B A : Int) (hp : U p) (hB : B ≤ 18446744073709551615) (hA : A ≤ 18446744073709551615) :
    ints_among.f (k + 5) p m told B A = some (nAm p m told B A) := by
  have hc := pC_bd p
  unfold ints_among.f nAm
  rw [pat_IsNaN.eq p (inU_of hp), Option.bind_some]
  by_cases c5 : 3 < pC p
  · rw [decide_eq_true c5, if_pos rfl, if_pos c5]
  · rw [decide_eq_false c5, if_neg (by decide), if_neg c5]
    unfold ints_find.f
    rw [wround_spec (k + 1) m told hp, Option.bind_some]
    by_cases c3 : pC p = 3
    · have e : wRnd p m told = (p, 0) := by unfold wRnd; rw [if_neg c5, if_pos c3]
      rw [e, pat_Take.eq p (inU_of hp), if_pos (.inl c3)]
      simp only [Option.bind_some]
      rw [if_pos c3]
      simp only [ints_find.j0]
      rw [if_pos trivial]
      simp only [Option.bind_some]
      cases pM p
      · simp
      · simp
    · obtain ⟨N, hN⟩ : ∃ N : Nat, N = 1073 := ⟨_, rfl⟩
      obtain ⟨q, q0, q1, q2, q3, q4⟩ := wRnd_find hp (by omega) m told hN
      obtain ⟨c1, c2, c4⟩ := C_same (sgAA q (pM p))
      have hU := sgU q0 (by omega) (pM p)
      obtain ⟨f1, f2, f3⟩ := find_size q2 hN q3
      have hs := pS_bd q
      have hx := pX_bd q
      rw [q4, pat_Take.eq _ (inU_of hU), c1, c2, c4, sgM q0 (by omega) (pM p)]
      simp only [Option.bind_some]
      rw [if_neg (by omega)]
      generalize (if rOdd (pS p).toNat (pX p) 0 = true then (if told = true then 16 else 0) else 0 : Int) = fl
      generalize wQ p m = R at *
      by_cases g : pX q > 11
      · have hR := f1 g
        rw [decide_eq_true g]
        simp only [ints_find.j0]
        rw [if_pos trivial]
        simp only [Option.bind_some]
        cases pM p
        · simp only [Bool.false_eq_true, if_false, if_true]
          rw [if_pos (.inr (by omega))]
        · simp only [if_true]
          rw [if_pos (.inr (by omega))]
      · have key : ints_find.j0 (k + 5) (decide (pX q > 11)) (pM p) (pC q) (pX q) (pS q) (pM p) 0 false fl = some (pM p, (R : Int), false, fl) := by
          rw [decide_eq_false g]
          simp only [ints_find.j0]
          rw [if_neg (by decide)]
          by_cases h : pX q ≥ 0
          · have e := f2 h (by omega)
            have eI : pS q * 2 ^ (pX q).toNat = (R : Int) := by
              rw [← e, Int.natCast_mul, Int.natCast_pow, Int.toNat_of_nonneg hs.1]
              rfl
            have hlt : R < 18446744073709551616 := by
              rw [← e]
              refine Nat.lt_of_lt_of_le (Nat.mul_lt_mul_of_lt_of_le (pS_53 q) (Nat.pow_le_pow_right (by omega) (show (pX q).toNat ≤ 11 by omega)) (by decide)) (by decide)
            have es : shl .u64 (pS q) (pX q) = (R : Int) := by
              unfold shl
              rw [Nat.min_eq_left (show (pX q).toNat ≤ IntKind.u64.bits by show _ ≤ 64; omega), eI, IntKind.wrap_u64]
              omega
            rw [if_pos h, if_pos (by omega), es]
          · have e := f3 (by omega)
            have ew : wrap64 (-pX q) = -pX q := by unfold wrap64; omega
            rw [if_neg h, ew]
            by_cases h2 : 63 < -pX q
            · rw [Nat.min_eq_right (show 63 ≤ (-pX q).toNat by omega)] at e
              rw [if_pos h2, show pS q / 9223372036854775808 = (R : Int) by rw [← e, show (2 : Nat) ^ 63 = 9223372036854775808 from rfl]; omega]
            · rw [Nat.min_eq_left (show (-pX q).toNat ≤ 63 by omega)] at e
              have es : shr .u64 (pS q) (-pX q) = (R : Int) := by
                unfold shr
                rw [Nat.min_eq_left (show (-pX q).toNat ≤ IntKind.u64.bits by show _ ≤ 64; omega), ← e, Int.natCast_ediv, Int.natCast_pow, Int.toNat_of_nonneg hs.1]
                rfl
              rw [if_neg h2, if_pos (by omega), es]
        rw [key]
        simp only [Option.bind_some]
        cases pM p
        · simp only [Bool.false_eq_true, if_false]
          by_cases h : A < (R : Int)
          · rw [if_pos h, if_pos (.inr h)]
          · rw [if_neg h, if_neg (by omega)]
        · simp only [if_true, Bool.false_eq_true, if_false]
          by_cases h : B < (R : Int)
          · rw [if_pos h, if_pos (.inr h)]
          · rw [if_neg h, if_neg (by omega)]
def sgn (b : Bool) (x : Int) : Int := if b = true then -x else x
theorem nAm_bd (p m : Int) (told : Bool) (B A : Int) (hB : 0 ≤ B) (hA : 0 ≤ A) : 0 ≤ (nAm p m told B A).2.1 ∧ (nAm p m told B A).2.1 ≤ (if (nAm p m told B A).1 = true then B else A) ∧ 0 ≤ (nAm p m told B A).2.2 ∧ (nAm p m told B A).2.2 ≤ 255 := by
  unfold nAm
  by_cases c5 : 3 < pC p
  · rw [if_pos c5]
    refine ⟨by decide, ?_, by decide, by decide⟩
    show (0 : Int) ≤ (if false = true then B else A)
    rw [if_neg (by decide)]
    exact hA
  · rw [if_neg c5]
    by_cases h : pC p = 3 ∨ (if pM p = true then B else A) < (wQ p m : Int)
    · rw [if_pos h]
      have hb : 0 ≤ (if pM p = true then B else A) := by split <;> omega
      exact ⟨hb, Int.le_refl _, by show (0 : Int) ≤ 1; decide, by show (1 : Int) ≤ 255; decide⟩
    · rw [if_neg h]
      have h2 : (wQ p m : Int) ≤ (if pM p = true then B else A) := by
        have h3 : ¬ (if pM p = true then B else A) < (wQ p m : Int) := fun g => h (Or.inr g)
        omega
      have hf : 0 ≤ (if rOdd (pS p).toNat (pX p) 0 = true then (if told = true then 16 else 0) else 0 : Int) ∧ (if rOdd (pS p).toNat (pX p) 0 = true then (if told = true then 16 else 0) else 0 : Int) ≤ 255 := by
        split
        · split <;> omega
        · omega
      exact ⟨Int.natCast_nonneg _, h2, hf.1, hf.2⟩
theorem to_eq (k : Nat) {p : Int} (m : Int) (told : Bool) (hp : U p) : ints_To.f (k + 5) p m told = some (sgn (nAm p m told 9223372036854775808 9223372036854775807).1 (nAm p m told 9223372036854775808 9223372036854775807).2.1, (nAm p m told 9223372036854775808 9223372036854775807).2.2) := by
  unfold ints_To.f
  rw [among_eq k m told _ _ hp (by omega) (by omega), Option.bind_some]
  obtain ⟨h1, h2, _, _⟩ := nAm_bd p m told 9223372036854775808 9223372036854775807 (by omega) (by omega)
  generalize nAm p m told 9223372036854775808 9223372036854775807 = z at *
  obtain ⟨b, x, f⟩ := z
  dsimp only at *
  unfold ints_signed_int64.f sgn
  cases b
  · rw [if_neg (by decide)] at h2
    rw [if_neg (by decide), if_neg (by decide), Option.bind_some, show wrap64 x = x by unfold wrap64; omega]
  · rw [if_pos rfl] at h2
    rw [if_pos rfl, if_pos rfl, Option.bind_some, show wrap64 (-(wrap64 x)) = -x by unfold wrap64; omega]
theorem toPlain_eq (k : Nat) {p : Int} (m : Int) (told : Bool) (hp : U p) : ints_ToPlain.f (k + 5) p m told = some ((nAm p m told 0 18446744073709551615).2.1, (nAm p m told 0 18446744073709551615).2.2) := by
  unfold ints_ToPlain.f
  rw [among_eq k m told _ _ hp (by omega) (by omega), Option.bind_some]
theorem toHalf_eq (k : Nat) {p : Int} (m : Int) (told : Bool) (hp : U p) : ints_ToHalf.f (k + 5) p m told = some (sgn (nAm p m told 2147483648 2147483647).1 (nAm p m told 2147483648 2147483647).2.1, (nAm p m told 2147483648 2147483647).2.2) := by
  unfold ints_ToHalf.f
  rw [among_eq k m told _ _ hp (by omega) (by omega), Option.bind_some]
  obtain ⟨h1, h2, _, _⟩ := nAm_bd p m told 2147483648 2147483647 (by omega) (by omega)
  generalize nAm p m told 2147483648 2147483647 = z at *
  obtain ⟨b, x, f⟩ := z
  dsimp only at *
  unfold ints_signed_int32.f sgn
  cases b
  · rw [if_neg (by decide)] at h2
    rw [if_neg (by decide), if_neg (by decide), Option.bind_some, show wrap32 x = x by unfold wrap32; omega]
  · rw [if_pos rfl] at h2
    rw [if_pos rfl, if_pos rfl, Option.bind_some, show wrap32 (-(wrap32 x)) = -x by unfold wrap32; omega]
theorem toPlainHalf_eq (k : Nat) {p : Int} (m : Int) (told : Bool) (hp : U p) : ints_ToPlainHalf.f (k + 5) p m told = some ((nAm p m told 0 4294967295).2.1, (nAm p m told 0 4294967295).2.2) := by
  unfold ints_ToPlainHalf.f
  rw [among_eq k m told _ _ hp (by omega) (by omega), Option.bind_some]
  obtain ⟨h1, h2, _, _⟩ := nAm_bd p m told 0 4294967295 (by omega) (by omega)
  rw [Int.emod_eq_of_lt h1 (by split at h2 <;> omega)]
theorem ofPlain_eq {n : Int} (m : Int) (h : U n) : ints_OfPlain.f n m = some (rRound false 0 n.toNat m) := by
  unfold ints_OfPlain.f
  rw [wide_Of.eq n (inU_of h)]
  simp only [Option.bind_some]
  rw [rnd_eq false m (Nat.lt_trans (show n.toNat < 2 ^ 64 by rw [show (2 : Nat) ^ 64 = 18446744073709551616 from rfl]; unfold U at h; omega) (by decide)) (by omega) (by omega)]
  rfl
def I64 (n : Int) : Prop := -9223372036854775808 ≤ n ∧ n ≤ 9223372036854775807
theorem of_eq {n : Int} (m : Int) (h : I64 n) : ints_Of.f n m = some (rRound (decide (n < 0)) 0 n.natAbs m) := by
  unfold I64 at h
  unfold ints_Of.f
  by_cases c : n ≥ 0
  · have e : IntKind.u64.wrap n = n := by rw [IntKind.wrap_u64]; omega
    rw [if_pos c, e, ofPlain_eq m (by unfold U; omega), Option.bind_some, decide_eq_false (by omega), show n.toNat = n.natAbs by omega]
  · have e : IntKind.u64.wrap (-(IntKind.u64.wrap n)) = -n := by simp only [IntKind.wrap_u64]; omega
    have hl : (-n).toNat < 2 ^ 64 := by rw [show (2 : Nat) ^ 64 = 18446744073709551616 from rfl]; omega
    rw [if_neg c, e, wide_Of.eq (-n) (inU_of (by unfold U; omega))]
    simp only [Option.bind_some]
    rw [rnd_eq true m (Nat.lt_trans hl (by decide)) (by omega) (by omega), decide_eq_true (by omega), show (-n).toNat = n.natAbs by omega]
    rfl
theorem sure11 (k : Nat) : tillerlaw11_sure.f (k + 5) = some true := by
  unfold tillerlaw11_sure.f
  rw [toPlainHalf_eq k 0 false (by unfold U; omega), Option.bind_some, to_eq k 3 false (by unfold U; omega), Option.bind_some, of_eq 0 (by unfold I64; omega), Option.bind_some]
  decide +kernel
theorem I64_wf {a : Int} (h : (Lit.int .i64 a).wf = true) : I64 a := by
  unfold Lit.wf at h
  simp only [Bool.and_eq_true, decide_eq_true_eq] at h
  exact h
end Go.Proofs.Ytbgefpeicmbgiaa
end
