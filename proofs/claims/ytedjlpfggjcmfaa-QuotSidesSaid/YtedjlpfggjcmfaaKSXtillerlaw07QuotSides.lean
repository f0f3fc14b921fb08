import Derived.Test.YtedjlpfggjcmfaaKS3
import Derived.Test.YtedjlpfggjcmfaaKSXquotDiv
import Derived.Test.YtedjlpfggjcmfaaKS6
namespace Go.Proofs.Ytedjlpfggjcmfaa.X
open Go.RowKit Go.Proofs.YtedjlpfggjcmfaaW.PrintWords Go.Proofs.YtedjlpfggjcmfaaW.PrintLast Go.Proofs.YtedjlpfggjcmfaaW.PrintMore
attribute [local go_sem] max2_int min2_int max_two min_two max_three min_three max_four min_four   
set_option linter.unusedVariables false
set_option linter.unusedSimpArgs false
def tillerlaw07_QuotSides.j0 : Nat → Int → Int → Int → Int → Int → Int → Bool → Option (Bool)
 | 0, _, _, _, _, _, _, _ => none
 | k + 1, x7, x8, x9, x10, x11, x12, x43 => if x43 = true then (if x7 = x9 then (if x11 = x7 then (if x8 = x10 then ((tillerlaw07_sure.f k).bind fun t488 => (some t488)) else (some false)) else (some false)) else (some false)) else (if x11 = x7 then (if x9 = x7 then (if (((Go.bits .and .u8 x8 16) != 0) == (x9 != x7)) = true then (if (((Go.bits .and .u8 x10 16) != 0) == (x9 != x7)) = true then (if (((Go.bits .and .u8 x12 16) != 0) == (x9 != x7)) = true then ((tillerlaw07_sure.f k).bind fun t489 => (some t489)) else (some false)) else (some false)) else (some false)) else (if x9 = (IntKind.u64.wrap (x7 + 1)) then (if (((Go.bits .and .u8 x8 16) != 0) == (x9 != x7)) = true then (if (((Go.bits .and .u8 x10 16) != 0) == (x9 != x7)) = true then (if (((Go.bits .and .u8 x12 16) != 0) == (x9 != x7)) = true then ((tillerlaw07_sure.f k).bind fun t490 => (some t490)) else (some false)) else (some false)) else (some false)) else (some false))) else (if x11 = x9 then (if x9 = x7 then (if (((Go.bits .and .u8 x8 16) != 0) == (x9 != x7)) = true then (if (((Go.bits .and .u8 x10 16) != 0) == (x9 != x7)) = true then (if (((Go.bits .and .u8 x12 16) != 0) == (x9 != x7)) = true then ((tillerlaw07_sure.f k).bind fun t491 => (some t491)) else (some false)) else (some false)) else (some false)) else (if x9 = (IntKind.u64.wrap (x7 + 1)) then (if (((Go.bits .and .u8 x8 16) != 0) == (x9 != x7)) = true then (if (((Go.bits .and .u8 x10 16) != 0) == (x9 != x7)) = true then (if (((Go.bits .and .u8 x12 16) != 0) == (x9 != x7)) = true then ((tillerlaw07_sure.f k).bind fun t492 => (some t492)) else (some false)) else (some false)) else (some false)) else (some false))) else (some false)))
def tillerlaw07_QuotSides.f (k : Nat) (a0 : Int) (a1 : Int) (a2 : Int) : Option (Bool) := (quot_Div.f k (Go.bits .andNot .u64 a0 9223372036854775808) (Go.bits .andNot .u64 a1 9223372036854775808) 4).bind fun bt482 => ((quot_Div.f k (Go.bits .andNot .u64 a0 9223372036854775808) (Go.bits .andNot .u64 a1 9223372036854775808) 3).bind fun bt484 => ((quot_Div.f k (Go.bits .andNot .u64 a0 9223372036854775808) (Go.bits .andNot .u64 a1 9223372036854775808) a2).bind fun bt486 => (if bt482.1 = 9221120237041090560 then (tillerlaw07_QuotSides.j0 k bt482.1 bt482.2 bt484.1 bt484.2 bt486.1 bt486.2 true) else (tillerlaw07_QuotSides.j0 k bt482.1 bt482.2 bt484.1 bt484.2 bt486.1 bt486.2 (bt484.1 == 9221120237041090560)))))
theorem tillerlaw07_QuotSides.mono_l : ∀ k, (∀ y0 y1 y2 y3 y4 y5 y6, LeO (tillerlaw07_QuotSides.j0 k y0 y1 y2 y3 y4 y5 y6) (tillerlaw07_QuotSides.j0 (k + 1) y0 y1 y2 y3 y4 y5 y6))
 | 0 => fun _ _ _ _ _ _ _ r h => by simp [tillerlaw07_QuotSides.j0] at h
 | k + 1 => by
  have ih0 := tillerlaw07_QuotSides.mono_l k
  · intro y0 y1 y2 y3 y4 y5 y6
    unfold tillerlaw07_QuotSides.j0
    repeat' first
    | (with_reducible exact ih0 _ _ _ _ _ _ _)
    | (with_reducible exact quot_Div.mono _ _ _ _)
    | (with_reducible exact tillerlaw07_sure.mono _)
    | (with_reducible exact LeO.refl _)
    | (with_reducible exact LeO.none _)
    | (with_reducible refine LeO.ite ?_ ?_)
    | (with_reducible refine LeO.bind ?_ (fun _ => ?_))
    | exact ih0 _ _ _ _ _ _ _
    | exact quot_Div.mono _ _ _ _
    | exact tillerlaw07_sure.mono _
    | exact LeO.none _
    | refine LeO.ite ?_ ?_
    | refine LeO.bind ?_ (fun _ => ?_)
theorem tillerlaw07_QuotSides.mono : ∀ a0 a1 a2 k, LeO (tillerlaw07_QuotSides.f k a0 a1 a2) (tillerlaw07_QuotSides.f (k + 1) a0 a1 a2) := by
 intro a0 a1 a2 k; have ih0 := tillerlaw07_QuotSides.mono_l k
 unfold tillerlaw07_QuotSides.f
 repeat' first
  | (with_reducible exact ih0 _ _ _ _ _ _ _)
  | (with_reducible exact quot_Div.mono _ _ _ _)
  | (with_reducible exact tillerlaw07_sure.mono _)
  | (with_reducible exact LeO.refl _)
  | (with_reducible exact LeO.none _)
  | (with_reducible refine LeO.ite ?_ ?_)
  | (with_reducible refine LeO.bind ?_ (fun _ => ?_))
  | exact ih0 _ _ _ _ _ _ _
  | exact quot_Div.mono _ _ _ _
  | exact tillerlaw07_sure.mono _
  | exact LeO.none _
  | refine LeO.ite ?_ ?_
  | refine LeO.bind ?_ (fun _ => ?_)
set_option maxHeartbeats 8000000 in
set_option maxRecDepth 100000 in
theorem tillerlaw07_QuotSides.calls (k : Nat) (a0 : Int) (a1 : Int) (a2 : Int) (r : Bool) (w : World) (h : tillerlaw07_QuotSides.f k a0 a1 a2 = some r) :
 Calls Try.prog 6 #[.int .u64 a0, .int .u64 a1, .int .i64 a2] w fun e w' => e = .returned (.bool r) ∧ Below w.heap.size w w' := by
 have HB := Aside0.mk (Below.refl w.heap.size w); have H : ((quot_Div.f k (Go.bits .andNot .u64 a0 9223372036854775808) (Go.bits .andNot .u64 a1 9223372036854775808) 4).bind fun bt482 => ((quot_Div.f k (Go.bits .andNot .u64 a0 9223372036854775808) (Go.bits .andNot .u64 a1 9223372036854775808) 3).bind fun bt484 => ((quot_Div.f k (Go.bits .andNot .u64 a0 9223372036854775808) (Go.bits .andNot .u64 a1 9223372036854775808) a2).bind fun bt486 => (if bt482.1 = 9221120237041090560 then (tillerlaw07_QuotSides.j0 k bt482.1 bt482.2 bt484.1 bt484.2 bt486.1 bt486.2 true) else (tillerlaw07_QuotSides.j0 k bt482.1 bt482.2 bt484.1 bt484.2 bt486.1 bt486.2 (bt484.1 == 9221120237041090560)))))) = some r := h; clear h; replace H := Option.bind_eq_some_iff.mp H; obtain ⟨⟨t482, t483⟩, A40, H⟩ := H; replace H : ((quot_Div.f k (Go.bits .andNot .u64 a0 9223372036854775808) (Go.bits .andNot .u64 a1 9223372036854775808) 3).bind fun bt484 => ((quot_Div.f k (Go.bits .andNot .u64 a0 9223372036854775808) (Go.bits .andNot .u64 a1 9223372036854775808) a2).bind fun bt486 => (if t482 = 9221120237041090560 then (tillerlaw07_QuotSides.j0 k t482 t483 bt484.1 bt484.2 bt486.1 bt486.2 true) else (tillerlaw07_QuotSides.j0 k t482 t483 bt484.1 bt484.2 bt486.1 bt486.2 (bt484.1 == 9221120237041090560))))) = some r := H; have A4 := Aside0.mk A40; clear A40; replace H := Option.bind_eq_some_iff.mp H; obtain ⟨⟨t484, t485⟩, A50, H⟩ := H; replace H : ((quot_Div.f k (Go.bits .andNot .u64 a0 9223372036854775808) (Go.bits .andNot .u64 a1 9223372036854775808) a2).bind fun bt486 => (if t482 = 9221120237041090560 then (tillerlaw07_QuotSides.j0 k t482 t483 t484 t485 bt486.1 bt486.2 true) else (tillerlaw07_QuotSides.j0 k t482 t483 t484 t485 bt486.1 bt486.2 (t484 == 9221120237041090560)))) = some r := H; have A5 := Aside0.mk A50; clear A50; replace H := Option.bind_eq_some_iff.mp H; obtain ⟨⟨t486, t487⟩, A60, H⟩ := H; replace H : (if t482 = 9221120237041090560 then (tillerlaw07_QuotSides.j0 k t482 t483 t484 t485 t486 t487 true) else (tillerlaw07_QuotSides.j0 k t482 t483 t484 t485 t486 t487 (t484 == 9221120237041090560))) = some r := H; have A6 := Aside0.mk A60; clear A60; have HC7 := Aside0.mk H; clear H
 go_enter Try.func6, Try.ntmps6
 go_upto_region 4 with (first | ((with_reducible refine gate_callee (f := 8) rfl ?_); refine goesL_ (some 18) rfl rfl Try.func8 (by kernel_rfl) rfl #[.int .u64 (Go.bits .andNot .u64 a0 9223372036854775808), .int .u64 (Go.bits .andNot .u64 a1 9223372036854775808), .int .i64 4] rfl LMq ?_; (with_reducible refine (quot_Div.calls k (Go.bits .andNot .u64 a0 9223372036854775808) (Go.bits .andNot .u64 a1 9223372036854775808) 4 t482 t483 _ A4.out).mono ?_); rintro e w8 ⟨rfl, hb⟩; refine ⟨_, rfl, ?_⟩; replace HB := Aside0.mk (below_step (kH HB) hb); (try clear hb); (try clear hb2); (try clear hk); (try clear hi)) | ((with_reducible refine gate_callee (f := 8) rfl ?_); refine goesL_ (some 26) rfl rfl Try.func8 (by kernel_rfl) rfl #[.int .u64 (Go.bits .andNot .u64 a0 9223372036854775808), .int .u64 (Go.bits .andNot .u64 a1 9223372036854775808), .int .i64 3] rfl LMq ?_; (with_reducible refine (quot_Div.calls k (Go.bits .andNot .u64 a0 9223372036854775808) (Go.bits .andNot .u64 a1 9223372036854775808) 3 t484 t485 _ A5.out).mono ?_); rintro e w9 ⟨rfl, hb⟩; refine ⟨_, rfl, ?_⟩; replace HB := Aside0.mk (below_step (kH HB) hb); (try clear hb); (try clear hb2); (try clear hk); (try clear hi)) | ((with_reducible refine gate_callee (f := 8) rfl ?_); refine goesL_ (some 35) rfl rfl Try.func8 (by kernel_rfl) rfl #[.int .u64 (Go.bits .andNot .u64 a0 9223372036854775808), .int .u64 (Go.bits .andNot .u64 a1 9223372036854775808), .int .i64 a2] rfl LMq ?_; (with_reducible refine (quot_Div.calls k (Go.bits .andNot .u64 a0 9223372036854775808) (Go.bits .andNot .u64 a1 9223372036854775808) a2 t486 t487 _ A6.out).mono ?_); rintro e w10 ⟨rfl, hb⟩; refine ⟨_, rfl, ?_⟩; replace HB := Aside0.mk (below_step (kH HB) hb); (try clear hb); (try clear hb2); (try clear hk); (try clear hi)))
 (try simp only [Act.put, List.setIfInBounds_toArray, List.set_cons_zero, List.set_cons_succ])
 go_cut [43] (fun v43 wc => ∃ (kq : Nat) (x43_6 : Bool), v43 = .bool x43_6 ∧ Aside0 (tillerlaw07_QuotSides.j0 kq t482 t483 t484 t485 t486 t487 x43_6 = some r) ∧ Aside0 (kq ≤ k) ∧ Aside0 (Below w.heap.size w wc))
 case first =>
  have H := HC7.out; clear HC7
  by_cases c11 : t482 = 9221120237041090560
  · rw [if_pos c11] at H
    have c11b0 : (t482 == 9221120237041090560) = true := beq_iff_eq.mpr c11; have c11b1 : (t482 != 9221120237041090560) = false := bne_eq_false_iff_eq.mpr c11; clear c11
    (first | rw [c11b0] | (simp only [i64_w, i32_w]; rw [c11b0]) | skip)
    have H' := Aside0.mk H; clear H
    go_wp2
    go_meet
    case rel => exact ⟨_, (true), RSq, (by first | exact H' | (subst_vars; exact H')), ⟨by first | omega | exact Nat.le_refl _⟩, ⟨kH HB⟩⟩
  rw [if_neg c11] at H
  have c11b0 : (t482 == 9221120237041090560) = false := beq_eq_false_iff_ne.mpr c11; have c11b1 : (t482 != 9221120237041090560) = true := bne_iff_ne.mpr c11
  (first | rw [c11b0] | (simp only [i64_w, i32_w]; rw [c11b0]) | skip)
  have H' := Aside0.mk H; clear H
  go_wp2
  go_meet
  case rel => exact ⟨_, ((t484 == 9221120237041090560)), RSq, (by first | exact H' | (subst_vars; exact H')), ⟨by first | omega | exact Nat.le_refl _⟩, ⟨kH HB⟩⟩
 case rest =>
  clear HC7; (try clear c1); (try clear p2); (try clear c6); (try clear p6); (try clear c8); (try clear c11); (try clear c11b0); (try clear c11b1); obtain ⟨kq, x43_6, rfl, HA, HJ6, HB⟩ := hcut
  cases kq with
  | zero => exact absurd HA.out (by simp [tillerlaw07_QuotSides.j0])
  | succ kj6 =>
   have H := HA.out; clear HA
   simp only [tillerlaw07_QuotSides.j0] at H
   by_cases c12 : x43_6 = true
   · subst c12
     have H1 : (if t482 = t484 then (if t486 = t482 then (if t483 = t485 then ((tillerlaw07_sure.f kj6).bind fun t488 => (some t488)) else (some false)) else (some false)) else (some false)) = some r := by rw [if_pos rfl] at H; exact H
     clear H; have H := H1; clear H1
     by_cases c13 : t482 = t484
     · rw [if_pos c13] at H
       have c13b0 : (t482 == t484) = true := beq_iff_eq.mpr c13; have c13b1 : (t482 != t484) = false := bne_eq_false_iff_eq.mpr c13; clear c13
       by_cases c14 : t486 = t482
       · rw [if_pos c14] at H
         have c14b0 : (t486 == t482) = true := beq_iff_eq.mpr c14; have c14b1 : (t486 != t482) = false := bne_eq_false_iff_eq.mpr c14; clear c14
         by_cases c15 : t483 = t485
         · rw [if_pos c15] at H
           have c15b0 : (t483 == t485) = true := beq_iff_eq.mpr c15; have c15b1 : (t483 != t485) = false := bne_eq_false_iff_eq.mpr c15; clear c15; replace H := Option.bind_eq_some_iff.mp H; obtain ⟨t488, A160, H⟩ := H; replace H : (some t488) = some r := H; have A16 := Aside0.mk A160; clear A160; obtain rfl := Option.some.inj H
           go_wp2_with (first | (go_at_call 10; (with_reducible refine (tillerlaw07_sure.calls kj6  t488 _ A16.out).mono ?_); rintro e w17 ⟨rfl, hb⟩; replace HB := Aside0.mk (below_step (kH HB) hb); (try clear hb); (try clear hb2); (try clear hk); (try clear hi)))
           go_ret
           exact ⟨by first | rfl | (simp [errW_none, errW_some] <;> rfl) | (simp [*, errW_none, errW_some] <;> rfl), kH HB⟩
         rw [if_neg c15] at H
         have c15b0 : (t483 == t485) = false := beq_eq_false_iff_ne.mpr c15; have c15b1 : (t483 != t485) = true := bne_iff_ne.mpr c15; obtain rfl := Option.some.inj H
         go_wp2
         go_ret
         exact ⟨by first | rfl | (simp [errW_none, errW_some] <;> rfl) | (simp [*, errW_none, errW_some] <;> rfl), kH HB⟩
       rw [if_neg c14] at H
       have c14b0 : (t486 == t482) = false := beq_eq_false_iff_ne.mpr c14; have c14b1 : (t486 != t482) = true := bne_iff_ne.mpr c14; obtain rfl := Option.some.inj H
       go_wp2
       go_ret
       exact ⟨by first | rfl | (simp [errW_none, errW_some] <;> rfl) | (simp [*, errW_none, errW_some] <;> rfl), kH HB⟩
     rw [if_neg c13] at H
     have c13b0 : (t482 == t484) = false := beq_eq_false_iff_ne.mpr c13; have c13b1 : (t482 != t484) = true := bne_iff_ne.mpr c13; obtain rfl := Option.some.inj H
     go_wp2
     go_ret
     exact ⟨by first | rfl | (simp [errW_none, errW_some] <;> rfl) | (simp [*, errW_none, errW_some] <;> rfl), kH HB⟩
   replace c12 := Bool.eq_false_iff.mpr c12; subst c12
   have H1 : (if t486 = t482 then (if t484 = t482 then (if (((Go.bits .and .u8 t483 16) != 0) == (t484 != t482)) = true then (if (((Go.bits .and .u8 t485 16) != 0) == (t484 != t482)) = true then (if (((Go.bits .and .u8 t487 16) != 0) == (t484 != t482)) = true then ((tillerlaw07_sure.f kj6).bind fun t489 => (some t489)) else (some false)) else (some false)) else (some false)) else (if t484 = (IntKind.u64.wrap (t482 + 1)) then (if (((Go.bits .and .u8 t483 16) != 0) == (t484 != t482)) = true then (if (((Go.bits .and .u8 t485 16) != 0) == (t484 != t482)) = true then (if (((Go.bits .and .u8 t487 16) != 0) == (t484 != t482)) = true then ((tillerlaw07_sure.f kj6).bind fun t490 => (some t490)) else (some false)) else (some false)) else (some false)) else (some false))) else (if t486 = t484 then (if t484 = t482 then (if (((Go.bits .and .u8 t483 16) != 0) == (t484 != t482)) = true then (if (((Go.bits .and .u8 t485 16) != 0) == (t484 != t482)) = true then (if (((Go.bits .and .u8 t487 16) != 0) == (t484 != t482)) = true then ((tillerlaw07_sure.f kj6).bind fun t491 => (some t491)) else (some false)) else (some false)) else (some false)) else (if t484 = (IntKind.u64.wrap (t482 + 1)) then (if (((Go.bits .and .u8 t483 16) != 0) == (t484 != t482)) = true then (if (((Go.bits .and .u8 t485 16) != 0) == (t484 != t482)) = true then (if (((Go.bits .and .u8 t487 16) != 0) == (t484 != t482)) = true then ((tillerlaw07_sure.f kj6).bind fun t492 => (some t492)) else (some false)) else (some false)) else (some false)) else (some false))) else (some false))) = some r := by rw [if_neg (show ¬ (false = true) by decide)] at H; exact H
   clear H; have H := H1; clear H1
   by_cases c18 : t486 = t482
   · rw [if_pos c18] at H
     have c18b0 : (t486 == t482) = true := beq_iff_eq.mpr c18; have c18b1 : (t486 != t482) = false := bne_eq_false_iff_eq.mpr c18; clear c18
     by_cases c19 : t484 = t482
     · rw [if_pos c19] at H
       have c19b0 : (t484 == t482) = true := beq_iff_eq.mpr c19; have c19b1 : (t484 != t482) = false := bne_eq_false_iff_eq.mpr c19; clear c19
       by_cases c20 : (((Go.bits .and .u8 t483 16) != 0) == (t484 != t482)) = true
       · rw [if_pos c20] at H
         have c20b0 : (((Go.bits .and .u8 t483 16) != 0) == (t484 != t482)) = true := c20
         (try (have c20b1 : decide (((Go.bits .and .u8 t483 16) != 0) = (t484 != t482)) = true := by simpa using c20))
         (try (have c20b2 : (((Go.bits .and .u8 t483 16) != 0) == (t484 != t482)) = true := by simpa using c20))
         (try (have c20b3 : (Go.bits .and .u8 t483 16) = 0 := by first | (refine (fun (c_ : (((Go.bits .and .u8 t483 16) != 0) == (t484 != t482)) = true) (h_ : (t484 != t482) = false) => (by rw [h_] at c_; simpa using c_ : (Go.bits .and .u8 t483 16) = 0)) c20 ?_; assumption) | (refine (fun (c_ : ¬ (((Go.bits .and .u8 t483 16) != 0) == (t484 != t482)) = true) (h_ : (t484 != t482) = true) => (by rw [h_] at c_; simpa using c_ : (Go.bits .and .u8 t483 16) = 0)) c20 ?_; assumption)))
         (try (have c20b4 : ¬ (Go.bits .and .u8 t483 16) = 0 := by first | (refine (fun (c_ : (((Go.bits .and .u8 t483 16) != 0) == (t484 != t482)) = true) (h_ : (t484 != t482) = true) => (by rw [h_] at c_; simpa using c_ : ¬ (Go.bits .and .u8 t483 16) = 0)) c20 ?_; assumption) | (refine (fun (c_ : ¬ (((Go.bits .and .u8 t483 16) != 0) == (t484 != t482)) = true) (h_ : (t484 != t482) = false) => (by rw [h_] at c_; simpa using c_ : ¬ (Go.bits .and .u8 t483 16) = 0)) c20 ?_; assumption)))
         clear c20
         by_cases c21 : (((Go.bits .and .u8 t485 16) != 0) == (t484 != t482)) = true
         · rw [if_pos c21] at H
           have c21b0 : (((Go.bits .and .u8 t485 16) != 0) == (t484 != t482)) = true := c21
           (try (have c21b1 : decide (((Go.bits .and .u8 t485 16) != 0) = (t484 != t482)) = true := by simpa using c21))
           (try (have c21b2 : (((Go.bits .and .u8 t485 16) != 0) == (t484 != t482)) = true := by simpa using c21))
           (try (have c21b3 : (Go.bits .and .u8 t485 16) = 0 := by first | (refine (fun (c_ : (((Go.bits .and .u8 t485 16) != 0) == (t484 != t482)) = true) (h_ : (t484 != t482) = false) => (by rw [h_] at c_; simpa using c_ : (Go.bits .and .u8 t485 16) = 0)) c21 ?_; assumption) | (refine (fun (c_ : ¬ (((Go.bits .and .u8 t485 16) != 0) == (t484 != t482)) = true) (h_ : (t484 != t482) = true) => (by rw [h_] at c_; simpa using c_ : (Go.bits .and .u8 t485 16) = 0)) c21 ?_; assumption)))
           (try (have c21b4 : ¬ (Go.bits .and .u8 t485 16) = 0 := by first | (refine (fun (c_ : (((Go.bits .and .u8 t485 16) != 0) == (t484 != t482)) = true) (h_ : (t484 != t482) = true) => (by rw [h_] at c_; simpa using c_ : ¬ (Go.bits .and .u8 t485 16) = 0)) c21 ?_; assumption) | (refine (fun (c_ : ¬ (((Go.bits .and .u8 t485 16) != 0) == (t484 != t482)) = true) (h_ : (t484 != t482) = false) => (by rw [h_] at c_; simpa using c_ : ¬ (Go.bits .and .u8 t485 16) = 0)) c21 ?_; assumption)))
           clear c21
           by_cases c22 : (((Go.bits .and .u8 t487 16) != 0) == (t484 != t482)) = true
           · rw [if_pos c22] at H
             have c22b0 : (((Go.bits .and .u8 t487 16) != 0) == (t484 != t482)) = true := c22
             (try (have c22b1 : decide (((Go.bits .and .u8 t487 16) != 0) = (t484 != t482)) = true := by simpa using c22))
             (try (have c22b2 : (((Go.bits .and .u8 t487 16) != 0) == (t484 != t482)) = true := by simpa using c22))
             (try (have c22b3 : (Go.bits .and .u8 t487 16) = 0 := by first | (refine (fun (c_ : (((Go.bits .and .u8 t487 16) != 0) == (t484 != t482)) = true) (h_ : (t484 != t482) = false) => (by rw [h_] at c_; simpa using c_ : (Go.bits .and .u8 t487 16) = 0)) c22 ?_; assumption) | (refine (fun (c_ : ¬ (((Go.bits .and .u8 t487 16) != 0) == (t484 != t482)) = true) (h_ : (t484 != t482) = true) => (by rw [h_] at c_; simpa using c_ : (Go.bits .and .u8 t487 16) = 0)) c22 ?_; assumption)))
             (try (have c22b4 : ¬ (Go.bits .and .u8 t487 16) = 0 := by first | (refine (fun (c_ : (((Go.bits .and .u8 t487 16) != 0) == (t484 != t482)) = true) (h_ : (t484 != t482) = true) => (by rw [h_] at c_; simpa using c_ : ¬ (Go.bits .and .u8 t487 16) = 0)) c22 ?_; assumption) | (refine (fun (c_ : ¬ (((Go.bits .and .u8 t487 16) != 0) == (t484 != t482)) = true) (h_ : (t484 != t482) = false) => (by rw [h_] at c_; simpa using c_ : ¬ (Go.bits .and .u8 t487 16) = 0)) c22 ?_; assumption)))
             clear c22; replace H := Option.bind_eq_some_iff.mp H; obtain ⟨t489, A230, H⟩ := H; replace H : (some t489) = some r := H; have A23 := Aside0.mk A230; clear A230; obtain rfl := Option.some.inj H
             go_wp2_with (first | (go_at_call 10; (with_reducible refine (tillerlaw07_sure.calls kj6  t489 _ A23.out).mono ?_); rintro e w24 ⟨rfl, hb⟩; replace HB := Aside0.mk (below_step (kH HB) hb); (try clear hb); (try clear hb2); (try clear hk); (try clear hi)))
             go_ret
             exact ⟨by first | rfl | (simp [errW_none, errW_some] <;> rfl) | (simp [*, errW_none, errW_some] <;> rfl), kH HB⟩
           rw [if_neg c22] at H
           have c22b0 : (((Go.bits .and .u8 t487 16) != 0) == (t484 != t482)) = false := by simpa using c22
           (try (have c22b1 : decide (((Go.bits .and .u8 t487 16) != 0) = (t484 != t482)) = false := by simpa using c22))
           (try (have c22b2 : (((Go.bits .and .u8 t487 16) != 0) == (t484 != t482)) = false := by simpa using c22))
           (try (have c22b3 : (Go.bits .and .u8 t487 16) = 0 := by first | (refine (fun (c_ : (((Go.bits .and .u8 t487 16) != 0) == (t484 != t482)) = true) (h_ : (t484 != t482) = false) => (by rw [h_] at c_; simpa using c_ : (Go.bits .and .u8 t487 16) = 0)) c22 ?_; assumption) | (refine (fun (c_ : ¬ (((Go.bits .and .u8 t487 16) != 0) == (t484 != t482)) = true) (h_ : (t484 != t482) = true) => (by rw [h_] at c_; simpa using c_ : (Go.bits .and .u8 t487 16) = 0)) c22 ?_; assumption)))
           (try (have c22b4 : ¬ (Go.bits .and .u8 t487 16) = 0 := by first | (refine (fun (c_ : (((Go.bits .and .u8 t487 16) != 0) == (t484 != t482)) = true) (h_ : (t484 != t482) = true) => (by rw [h_] at c_; simpa using c_ : ¬ (Go.bits .and .u8 t487 16) = 0)) c22 ?_; assumption) | (refine (fun (c_ : ¬ (((Go.bits .and .u8 t487 16) != 0) == (t484 != t482)) = true) (h_ : (t484 != t482) = false) => (by rw [h_] at c_; simpa using c_ : ¬ (Go.bits .and .u8 t487 16) = 0)) c22 ?_; assumption)))
           (try (have c22b5 : ¬ (((Go.bits .and .u8 t487 16) != 0) = (t484 != t482)) := by simpa using c22))
           clear c22; obtain rfl := Option.some.inj H
           go_wp2
           go_ret
           exact ⟨by first | rfl | (simp [errW_none, errW_some] <;> rfl) | (simp [*, errW_none, errW_some] <;> rfl), kH HB⟩
         rw [if_neg c21] at H
         have c21b0 : (((Go.bits .and .u8 t485 16) != 0) == (t484 != t482)) = false := by simpa using c21
         (try (have c21b1 : decide (((Go.bits .and .u8 t485 16) != 0) = (t484 != t482)) = false := by simpa using c21))
         (try (have c21b2 : (((Go.bits .and .u8 t485 16) != 0) == (t484 != t482)) = false := by simpa using c21))
         (try (have c21b3 : (Go.bits .and .u8 t485 16) = 0 := by first | (refine (fun (c_ : (((Go.bits .and .u8 t485 16) != 0) == (t484 != t482)) = true) (h_ : (t484 != t482) = false) => (by rw [h_] at c_; simpa using c_ : (Go.bits .and .u8 t485 16) = 0)) c21 ?_; assumption) | (refine (fun (c_ : ¬ (((Go.bits .and .u8 t485 16) != 0) == (t484 != t482)) = true) (h_ : (t484 != t482) = true) => (by rw [h_] at c_; simpa using c_ : (Go.bits .and .u8 t485 16) = 0)) c21 ?_; assumption)))
         (try (have c21b4 : ¬ (Go.bits .and .u8 t485 16) = 0 := by first | (refine (fun (c_ : (((Go.bits .and .u8 t485 16) != 0) == (t484 != t482)) = true) (h_ : (t484 != t482) = true) => (by rw [h_] at c_; simpa using c_ : ¬ (Go.bits .and .u8 t485 16) = 0)) c21 ?_; assumption) | (refine (fun (c_ : ¬ (((Go.bits .and .u8 t485 16) != 0) == (t484 != t482)) = true) (h_ : (t484 != t482) = false) => (by rw [h_] at c_; simpa using c_ : ¬ (Go.bits .and .u8 t485 16) = 0)) c21 ?_; assumption)))
         (try (have c21b5 : ¬ (((Go.bits .and .u8 t485 16) != 0) = (t484 != t482)) := by simpa using c21))
         clear c21; obtain rfl := Option.some.inj H
         go_wp2
         go_ret
         exact ⟨by first | rfl | (simp [errW_none, errW_some] <;> rfl) | (simp [*, errW_none, errW_some] <;> rfl), kH HB⟩
       rw [if_neg c20] at H
       have c20b0 : (((Go.bits .and .u8 t483 16) != 0) == (t484 != t482)) = false := by simpa using c20
       (try (have c20b1 : decide (((Go.bits .and .u8 t483 16) != 0) = (t484 != t482)) = false := by simpa using c20))
       (try (have c20b2 : (((Go.bits .and .u8 t483 16) != 0) == (t484 != t482)) = false := by simpa using c20))
       (try (have c20b3 : (Go.bits .and .u8 t483 16) = 0 := by first | (refine (fun (c_ : (((Go.bits .and .u8 t483 16) != 0) == (t484 != t482)) = true) (h_ : (t484 != t482) = false) => (by rw [h_] at c_; simpa using c_ : (Go.bits .and .u8 t483 16) = 0)) c20 ?_; assumption) | (refine (fun (c_ : ¬ (((Go.bits .and .u8 t483 16) != 0) == (t484 != t482)) = true) (h_ : (t484 != t482) = true) => (by rw [h_] at c_; simpa using c_ : (Go.bits .and .u8 t483 16) = 0)) c20 ?_; assumption)))
       (try (have c20b4 : ¬ (Go.bits .and .u8 t483 16) = 0 := by first | (refine (fun (c_ : (((Go.bits .and .u8 t483 16) != 0) == (t484 != t482)) = true) (h_ : (t484 != t482) = true) => (by rw [h_] at c_; simpa using c_ : ¬ (Go.bits .and .u8 t483 16) = 0)) c20 ?_; assumption) | (refine (fun (c_ : ¬ (((Go.bits .and .u8 t483 16) != 0) == (t484 != t482)) = true) (h_ : (t484 != t482) = false) => (by rw [h_] at c_; simpa using c_ : ¬ (Go.bits .and .u8 t483 16) = 0)) c20 ?_; assumption)))
       (try (have c20b5 : ¬ (((Go.bits .and .u8 t483 16) != 0) = (t484 != t482)) := by simpa using c20))
       clear c20; obtain rfl := Option.some.inj H
       go_wp2
       go_ret
       exact ⟨by first | rfl | (simp [errW_none, errW_some] <;> rfl) | (simp [*, errW_none, errW_some] <;> rfl), kH HB⟩
     rw [if_neg c19] at H
     have c19b0 : (t484 == t482) = false := beq_eq_false_iff_ne.mpr c19; have c19b1 : (t484 != t482) = true := bne_iff_ne.mpr c19
     by_cases c25 : t484 = (IntKind.u64.wrap (t482 + 1))
     · rw [if_pos c25] at H
       have c25b0 : (t484 == (IntKind.u64.wrap (t482 + 1))) = true := beq_iff_eq.mpr c25; have c25b1 : (t484 != (IntKind.u64.wrap (t482 + 1))) = false := bne_eq_false_iff_eq.mpr c25; clear c25
       by_cases c26 : (((Go.bits .and .u8 t483 16) != 0) == (t484 != t482)) = true
       · rw [if_pos c26] at H
         have c26b0 : (((Go.bits .and .u8 t483 16) != 0) == (t484 != t482)) = true := c26
         (try (have c26b1 : decide (((Go.bits .and .u8 t483 16) != 0) = (t484 != t482)) = true := by simpa using c26))
         (try (have c26b2 : (((Go.bits .and .u8 t483 16) != 0) == (t484 != t482)) = true := by simpa using c26))
         (try (have c26b3 : (Go.bits .and .u8 t483 16) = 0 := by first | (refine (fun (c_ : (((Go.bits .and .u8 t483 16) != 0) == (t484 != t482)) = true) (h_ : (t484 != t482) = false) => (by rw [h_] at c_; simpa using c_ : (Go.bits .and .u8 t483 16) = 0)) c26 ?_; assumption) | (refine (fun (c_ : ¬ (((Go.bits .and .u8 t483 16) != 0) == (t484 != t482)) = true) (h_ : (t484 != t482) = true) => (by rw [h_] at c_; simpa using c_ : (Go.bits .and .u8 t483 16) = 0)) c26 ?_; assumption)))
         (try (have c26b4 : ¬ (Go.bits .and .u8 t483 16) = 0 := by first | (refine (fun (c_ : (((Go.bits .and .u8 t483 16) != 0) == (t484 != t482)) = true) (h_ : (t484 != t482) = true) => (by rw [h_] at c_; simpa using c_ : ¬ (Go.bits .and .u8 t483 16) = 0)) c26 ?_; assumption) | (refine (fun (c_ : ¬ (((Go.bits .and .u8 t483 16) != 0) == (t484 != t482)) = true) (h_ : (t484 != t482) = false) => (by rw [h_] at c_; simpa using c_ : ¬ (Go.bits .and .u8 t483 16) = 0)) c26 ?_; assumption)))
         clear c26
         by_cases c27 : (((Go.bits .and .u8 t485 16) != 0) == (t484 != t482)) = true
         · rw [if_pos c27] at H
           have c27b0 : (((Go.bits .and .u8 t485 16) != 0) == (t484 != t482)) = true := c27
           (try (have c27b1 : decide (((Go.bits .and .u8 t485 16) != 0) = (t484 != t482)) = true := by simpa using c27))
           (try (have c27b2 : (((Go.bits .and .u8 t485 16) != 0) == (t484 != t482)) = true := by simpa using c27))
           (try (have c27b3 : (Go.bits .and .u8 t485 16) = 0 := by first | (refine (fun (c_ : (((Go.bits .and .u8 t485 16) != 0) == (t484 != t482)) = true) (h_ : (t484 != t482) = false) => (by rw [h_] at c_; simpa using c_ : (Go.bits .and .u8 t485 16) = 0)) c27 ?_; assumption) | (refine (fun (c_ : ¬ (((Go.bits .and .u8 t485 16) != 0) == (t484 != t482)) = true) (h_ : (t484 != t482) = true) => (by rw [h_] at c_; simpa using c_ : (Go.bits .and .u8 t485 16) = 0)) c27 ?_; assumption)))
           (try (have c27b4 : ¬ (Go.bits .and .u8 t485 16) = 0 := by first | (refine (fun (c_ : (((Go.bits .and .u8 t485 16) != 0) == (t484 != t482)) = true) (h_ : (t484 != t482) = true) => (by rw [h_] at c_; simpa using c_ : ¬ (Go.bits .and .u8 t485 16) = 0)) c27 ?_; assumption) | (refine (fun (c_ : ¬ (((Go.bits .and .u8 t485 16) != 0) == (t484 != t482)) = true) (h_ : (t484 != t482) = false) => (by rw [h_] at c_; simpa using c_ : ¬ (Go.bits .and .u8 t485 16) = 0)) c27 ?_; assumption)))
           clear c27
           by_cases c28 : (((Go.bits .and .u8 t487 16) != 0) == (t484 != t482)) = true
           · rw [if_pos c28] at H
             have c28b0 : (((Go.bits .and .u8 t487 16) != 0) == (t484 != t482)) = true := c28
             (try (have c28b1 : decide (((Go.bits .and .u8 t487 16) != 0) = (t484 != t482)) = true := by simpa using c28))
             (try (have c28b2 : (((Go.bits .and .u8 t487 16) != 0) == (t484 != t482)) = true := by simpa using c28))
             (try (have c28b3 : (Go.bits .and .u8 t487 16) = 0 := by first | (refine (fun (c_ : (((Go.bits .and .u8 t487 16) != 0) == (t484 != t482)) = true) (h_ : (t484 != t482) = false) => (by rw [h_] at c_; simpa using c_ : (Go.bits .and .u8 t487 16) = 0)) c28 ?_; assumption) | (refine (fun (c_ : ¬ (((Go.bits .and .u8 t487 16) != 0) == (t484 != t482)) = true) (h_ : (t484 != t482) = true) => (by rw [h_] at c_; simpa using c_ : (Go.bits .and .u8 t487 16) = 0)) c28 ?_; assumption)))
             (try (have c28b4 : ¬ (Go.bits .and .u8 t487 16) = 0 := by first | (refine (fun (c_ : (((Go.bits .and .u8 t487 16) != 0) == (t484 != t482)) = true) (h_ : (t484 != t482) = true) => (by rw [h_] at c_; simpa using c_ : ¬ (Go.bits .and .u8 t487 16) = 0)) c28 ?_; assumption) | (refine (fun (c_ : ¬ (((Go.bits .and .u8 t487 16) != 0) == (t484 != t482)) = true) (h_ : (t484 != t482) = false) => (by rw [h_] at c_; simpa using c_ : ¬ (Go.bits .and .u8 t487 16) = 0)) c28 ?_; assumption)))
             clear c28; replace H := Option.bind_eq_some_iff.mp H; obtain ⟨t490, A290, H⟩ := H; replace H : (some t490) = some r := H; have A29 := Aside0.mk A290; clear A290; obtain rfl := Option.some.inj H
             go_wp2_with (first | (go_at_call 10; (with_reducible refine (tillerlaw07_sure.calls kj6  t490 _ A29.out).mono ?_); rintro e w30 ⟨rfl, hb⟩; replace HB := Aside0.mk (below_step (kH HB) hb); (try clear hb); (try clear hb2); (try clear hk); (try clear hi)))
             go_ret
             exact ⟨by first | rfl | (simp [errW_none, errW_some] <;> rfl) | (simp [*, errW_none, errW_some] <;> rfl), kH HB⟩
           rw [if_neg c28] at H
           have c28b0 : (((Go.bits .and .u8 t487 16) != 0) == (t484 != t482)) = false := by simpa using c28
           (try (have c28b1 : decide (((Go.bits .and .u8 t487 16) != 0) = (t484 != t482)) = false := by simpa using c28))
           (try (have c28b2 : (((Go.bits .and .u8 t487 16) != 0) == (t484 != t482)) = false := by simpa using c28))
           (try (have c28b3 : (Go.bits .and .u8 t487 16) = 0 := by first | (refine (fun (c_ : (((Go.bits .and .u8 t487 16) != 0) == (t484 != t482)) = true) (h_ : (t484 != t482) = false) => (by rw [h_] at c_; simpa using c_ : (Go.bits .and .u8 t487 16) = 0)) c28 ?_; assumption) | (refine (fun (c_ : ¬ (((Go.bits .and .u8 t487 16) != 0) == (t484 != t482)) = true) (h_ : (t484 != t482) = true) => (by rw [h_] at c_; simpa using c_ : (Go.bits .and .u8 t487 16) = 0)) c28 ?_; assumption)))
           (try (have c28b4 : ¬ (Go.bits .and .u8 t487 16) = 0 := by first | (refine (fun (c_ : (((Go.bits .and .u8 t487 16) != 0) == (t484 != t482)) = true) (h_ : (t484 != t482) = true) => (by rw [h_] at c_; simpa using c_ : ¬ (Go.bits .and .u8 t487 16) = 0)) c28 ?_; assumption) | (refine (fun (c_ : ¬ (((Go.bits .and .u8 t487 16) != 0) == (t484 != t482)) = true) (h_ : (t484 != t482) = false) => (by rw [h_] at c_; simpa using c_ : ¬ (Go.bits .and .u8 t487 16) = 0)) c28 ?_; assumption)))
           (try (have c28b5 : ¬ (((Go.bits .and .u8 t487 16) != 0) = (t484 != t482)) := by simpa using c28))
           clear c28; obtain rfl := Option.some.inj H
           go_wp2
           go_ret
           exact ⟨by first | rfl | (simp [errW_none, errW_some] <;> rfl) | (simp [*, errW_none, errW_some] <;> rfl), kH HB⟩
         rw [if_neg c27] at H
         have c27b0 : (((Go.bits .and .u8 t485 16) != 0) == (t484 != t482)) = false := by simpa using c27
         (try (have c27b1 : decide (((Go.bits .and .u8 t485 16) != 0) = (t484 != t482)) = false := by simpa using c27))
         (try (have c27b2 : (((Go.bits .and .u8 t485 16) != 0) == (t484 != t482)) = false := by simpa using c27))
         (try (have c27b3 : (Go.bits .and .u8 t485 16) = 0 := by first | (refine (fun (c_ : (((Go.bits .and .u8 t485 16) != 0) == (t484 != t482)) = true) (h_ : (t484 != t482) = false) => (by rw [h_] at c_; simpa using c_ : (Go.bits .and .u8 t485 16) = 0)) c27 ?_; assumption) | (refine (fun (c_ : ¬ (((Go.bits .and .u8 t485 16) != 0) == (t484 != t482)) = true) (h_ : (t484 != t482) = true) => (by rw [h_] at c_; simpa using c_ : (Go.bits .and .u8 t485 16) = 0)) c27 ?_; assumption)))
         (try (have c27b4 : ¬ (Go.bits .and .u8 t485 16) = 0 := by first | (refine (fun (c_ : (((Go.bits .and .u8 t485 16) != 0) == (t484 != t482)) = true) (h_ : (t484 != t482) = true) => (by rw [h_] at c_; simpa using c_ : ¬ (Go.bits .and .u8 t485 16) = 0)) c27 ?_; assumption) | (refine (fun (c_ : ¬ (((Go.bits .and .u8 t485 16) != 0) == (t484 != t482)) = true) (h_ : (t484 != t482) = false) => (by rw [h_] at c_; simpa using c_ : ¬ (Go.bits .and .u8 t485 16) = 0)) c27 ?_; assumption)))
         (try (have c27b5 : ¬ (((Go.bits .and .u8 t485 16) != 0) = (t484 != t482)) := by simpa using c27))
         clear c27; obtain rfl := Option.some.inj H
         go_wp2
         go_ret
         exact ⟨by first | rfl | (simp [errW_none, errW_some] <;> rfl) | (simp [*, errW_none, errW_some] <;> rfl), kH HB⟩
       rw [if_neg c26] at H
       have c26b0 : (((Go.bits .and .u8 t483 16) != 0) == (t484 != t482)) = false := by simpa using c26
       (try (have c26b1 : decide (((Go.bits .and .u8 t483 16) != 0) = (t484 != t482)) = false := by simpa using c26))
       (try (have c26b2 : (((Go.bits .and .u8 t483 16) != 0) == (t484 != t482)) = false := by simpa using c26))
       (try (have c26b3 : (Go.bits .and .u8 t483 16) = 0 := by first | (refine (fun (c_ : (((Go.bits .and .u8 t483 16) != 0) == (t484 != t482)) = true) (h_ : (t484 != t482) = false) => (by rw [h_] at c_; simpa using c_ : (Go.bits .and .u8 t483 16) = 0)) c26 ?_; assumption) | (refine (fun (c_ : ¬ (((Go.bits .and .u8 t483 16) != 0) == (t484 != t482)) = true) (h_ : (t484 != t482) = true) => (by rw [h_] at c_; simpa using c_ : (Go.bits .and .u8 t483 16) = 0)) c26 ?_; assumption)))
       (try (have c26b4 : ¬ (Go.bits .and .u8 t483 16) = 0 := by first | (refine (fun (c_ : (((Go.bits .and .u8 t483 16) != 0) == (t484 != t482)) = true) (h_ : (t484 != t482) = true) => (by rw [h_] at c_; simpa using c_ : ¬ (Go.bits .and .u8 t483 16) = 0)) c26 ?_; assumption) | (refine (fun (c_ : ¬ (((Go.bits .and .u8 t483 16) != 0) == (t484 != t482)) = true) (h_ : (t484 != t482) = false) => (by rw [h_] at c_; simpa using c_ : ¬ (Go.bits .and .u8 t483 16) = 0)) c26 ?_; assumption)))
       (try (have c26b5 : ¬ (((Go.bits .and .u8 t483 16) != 0) = (t484 != t482)) := by simpa using c26))
       clear c26; obtain rfl := Option.some.inj H
       go_wp2
       go_ret
       exact ⟨by first | rfl | (simp [errW_none, errW_some] <;> rfl) | (simp [*, errW_none, errW_some] <;> rfl), kH HB⟩
     rw [if_neg c25] at H
     have c25b0 : (t484 == (IntKind.u64.wrap (t482 + 1))) = false := beq_eq_false_iff_ne.mpr c25; have c25b1 : (t484 != (IntKind.u64.wrap (t482 + 1))) = true := bne_iff_ne.mpr c25; obtain rfl := Option.some.inj H
     go_wp2
     go_ret
     exact ⟨by first | rfl | (simp [errW_none, errW_some] <;> rfl) | (simp [*, errW_none, errW_some] <;> rfl), kH HB⟩
   rw [if_neg c18] at H
   have c18b0 : (t486 == t482) = false := beq_eq_false_iff_ne.mpr c18; have c18b1 : (t486 != t482) = true := bne_iff_ne.mpr c18
   by_cases c31 : t486 = t484
   · rw [if_pos c31] at H
     have c31b0 : (t486 == t484) = true := beq_iff_eq.mpr c31; have c31b1 : (t486 != t484) = false := bne_eq_false_iff_eq.mpr c31; clear c31
     by_cases c32 : t484 = t482
     · rw [if_pos c32] at H
       have c32b0 : (t484 == t482) = true := beq_iff_eq.mpr c32; have c32b1 : (t484 != t482) = false := bne_eq_false_iff_eq.mpr c32; clear c32
       by_cases c33 : (((Go.bits .and .u8 t483 16) != 0) == (t484 != t482)) = true
       · rw [if_pos c33] at H
         have c33b0 : (((Go.bits .and .u8 t483 16) != 0) == (t484 != t482)) = true := c33
         (try (have c33b1 : decide (((Go.bits .and .u8 t483 16) != 0) = (t484 != t482)) = true := by simpa using c33))
         (try (have c33b2 : (((Go.bits .and .u8 t483 16) != 0) == (t484 != t482)) = true := by simpa using c33))
         (try (have c33b3 : (Go.bits .and .u8 t483 16) = 0 := by first | (refine (fun (c_ : (((Go.bits .and .u8 t483 16) != 0) == (t484 != t482)) = true) (h_ : (t484 != t482) = false) => (by rw [h_] at c_; simpa using c_ : (Go.bits .and .u8 t483 16) = 0)) c33 ?_; assumption) | (refine (fun (c_ : ¬ (((Go.bits .and .u8 t483 16) != 0) == (t484 != t482)) = true) (h_ : (t484 != t482) = true) => (by rw [h_] at c_; simpa using c_ : (Go.bits .and .u8 t483 16) = 0)) c33 ?_; assumption)))
         (try (have c33b4 : ¬ (Go.bits .and .u8 t483 16) = 0 := by first | (refine (fun (c_ : (((Go.bits .and .u8 t483 16) != 0) == (t484 != t482)) = true) (h_ : (t484 != t482) = true) => (by rw [h_] at c_; simpa using c_ : ¬ (Go.bits .and .u8 t483 16) = 0)) c33 ?_; assumption) | (refine (fun (c_ : ¬ (((Go.bits .and .u8 t483 16) != 0) == (t484 != t482)) = true) (h_ : (t484 != t482) = false) => (by rw [h_] at c_; simpa using c_ : ¬ (Go.bits .and .u8 t483 16) = 0)) c33 ?_; assumption)))
         clear c33
         by_cases c34 : (((Go.bits .and .u8 t485 16) != 0) == (t484 != t482)) = true
         · rw [if_pos c34] at H
           have c34b0 : (((Go.bits .and .u8 t485 16) != 0) == (t484 != t482)) = true := c34
           (try (have c34b1 : decide (((Go.bits .and .u8 t485 16) != 0) = (t484 != t482)) = true := by simpa using c34))
           (try (have c34b2 : (((Go.bits .and .u8 t485 16) != 0) == (t484 != t482)) = true := by simpa using c34))
           (try (have c34b3 : (Go.bits .and .u8 t485 16) = 0 := by first | (refine (fun (c_ : (((Go.bits .and .u8 t485 16) != 0) == (t484 != t482)) = true) (h_ : (t484 != t482) = false) => (by rw [h_] at c_; simpa using c_ : (Go.bits .and .u8 t485 16) = 0)) c34 ?_; assumption) | (refine (fun (c_ : ¬ (((Go.bits .and .u8 t485 16) != 0) == (t484 != t482)) = true) (h_ : (t484 != t482) = true) => (by rw [h_] at c_; simpa using c_ : (Go.bits .and .u8 t485 16) = 0)) c34 ?_; assumption)))
           (try (have c34b4 : ¬ (Go.bits .and .u8 t485 16) = 0 := by first | (refine (fun (c_ : (((Go.bits .and .u8 t485 16) != 0) == (t484 != t482)) = true) (h_ : (t484 != t482) = true) => (by rw [h_] at c_; simpa using c_ : ¬ (Go.bits .and .u8 t485 16) = 0)) c34 ?_; assumption) | (refine (fun (c_ : ¬ (((Go.bits .and .u8 t485 16) != 0) == (t484 != t482)) = true) (h_ : (t484 != t482) = false) => (by rw [h_] at c_; simpa using c_ : ¬ (Go.bits .and .u8 t485 16) = 0)) c34 ?_; assumption)))
           clear c34
           by_cases c35 : (((Go.bits .and .u8 t487 16) != 0) == (t484 != t482)) = true
           · rw [if_pos c35] at H
             have c35b0 : (((Go.bits .and .u8 t487 16) != 0) == (t484 != t482)) = true := c35
             (try (have c35b1 : decide (((Go.bits .and .u8 t487 16) != 0) = (t484 != t482)) = true := by simpa using c35))
             (try (have c35b2 : (((Go.bits .and .u8 t487 16) != 0) == (t484 != t482)) = true := by simpa using c35))
             (try (have c35b3 : (Go.bits .and .u8 t487 16) = 0 := by first | (refine (fun (c_ : (((Go.bits .and .u8 t487 16) != 0) == (t484 != t482)) = true) (h_ : (t484 != t482) = false) => (by rw [h_] at c_; simpa using c_ : (Go.bits .and .u8 t487 16) = 0)) c35 ?_; assumption) | (refine (fun (c_ : ¬ (((Go.bits .and .u8 t487 16) != 0) == (t484 != t482)) = true) (h_ : (t484 != t482) = true) => (by rw [h_] at c_; simpa using c_ : (Go.bits .and .u8 t487 16) = 0)) c35 ?_; assumption)))
             (try (have c35b4 : ¬ (Go.bits .and .u8 t487 16) = 0 := by first | (refine (fun (c_ : (((Go.bits .and .u8 t487 16) != 0) == (t484 != t482)) = true) (h_ : (t484 != t482) = true) => (by rw [h_] at c_; simpa using c_ : ¬ (Go.bits .and .u8 t487 16) = 0)) c35 ?_; assumption) | (refine (fun (c_ : ¬ (((Go.bits .and .u8 t487 16) != 0) == (t484 != t482)) = true) (h_ : (t484 != t482) = false) => (by rw [h_] at c_; simpa using c_ : ¬ (Go.bits .and .u8 t487 16) = 0)) c35 ?_; assumption)))
             clear c35; replace H := Option.bind_eq_some_iff.mp H; obtain ⟨t491, A360, H⟩ := H; replace H : (some t491) = some r := H; have A36 := Aside0.mk A360; clear A360; obtain rfl := Option.some.inj H
             go_wp2_with (first | (go_at_call 10; (with_reducible refine (tillerlaw07_sure.calls kj6  t491 _ A36.out).mono ?_); rintro e w37 ⟨rfl, hb⟩; replace HB := Aside0.mk (below_step (kH HB) hb); (try clear hb); (try clear hb2); (try clear hk); (try clear hi)))
             go_ret
             exact ⟨by first | rfl | (simp [errW_none, errW_some] <;> rfl) | (simp [*, errW_none, errW_some] <;> rfl), kH HB⟩
           rw [if_neg c35] at H
           have c35b0 : (((Go.bits .and .u8 t487 16) != 0) == (t484 != t482)) = false := by simpa using c35
           (try (have c35b1 : decide (((Go.bits .and .u8 t487 16) != 0) = (t484 != t482)) = false := by simpa using c35))
           (try (have c35b2 : (((Go.bits .and .u8 t487 16) != 0) == (t484 != t482)) = false := by simpa using c35))
           (try (have c35b3 : (Go.bits .and .u8 t487 16) = 0 := by first | (refine (fun (c_ : (((Go.bits .and .u8 t487 16) != 0) == (t484 != t482)) = true) (h_ : (t484 != t482) = false) => (by rw [h_] at c_; simpa using c_ : (Go.bits .and .u8 t487 16) = 0)) c35 ?_; assumption) | (refine (fun (c_ : ¬ (((Go.bits .and .u8 t487 16) != 0) == (t484 != t482)) = true) (h_ : (t484 != t482) = true) => (by rw [h_] at c_; simpa using c_ : (Go.bits .and .u8 t487 16) = 0)) c35 ?_; assumption)))
           (try (have c35b4 : ¬ (Go.bits .and .u8 t487 16) = 0 := by first | (refine (fun (c_ : (((Go.bits .and .u8 t487 16) != 0) == (t484 != t482)) = true) (h_ : (t484 != t482) = true) => (by rw [h_] at c_; simpa using c_ : ¬ (Go.bits .and .u8 t487 16) = 0)) c35 ?_; assumption) | (refine (fun (c_ : ¬ (((Go.bits .and .u8 t487 16) != 0) == (t484 != t482)) = true) (h_ : (t484 != t482) = false) => (by rw [h_] at c_; simpa using c_ : ¬ (Go.bits .and .u8 t487 16) = 0)) c35 ?_; assumption)))
           (try (have c35b5 : ¬ (((Go.bits .and .u8 t487 16) != 0) = (t484 != t482)) := by simpa using c35))
           clear c35; obtain rfl := Option.some.inj H
           go_wp2
           go_ret
           exact ⟨by first | rfl | (simp [errW_none, errW_some] <;> rfl) | (simp [*, errW_none, errW_some] <;> rfl), kH HB⟩
         rw [if_neg c34] at H
         have c34b0 : (((Go.bits .and .u8 t485 16) != 0) == (t484 != t482)) = false := by simpa using c34
         (try (have c34b1 : decide (((Go.bits .and .u8 t485 16) != 0) = (t484 != t482)) = false := by simpa using c34))
         (try (have c34b2 : (((Go.bits .and .u8 t485 16) != 0) == (t484 != t482)) = false := by simpa using c34))
         (try (have c34b3 : (Go.bits .and .u8 t485 16) = 0 := by first | (refine (fun (c_ : (((Go.bits .and .u8 t485 16) != 0) == (t484 != t482)) = true) (h_ : (t484 != t482) = false) => (by rw [h_] at c_; simpa using c_ : (Go.bits .and .u8 t485 16) = 0)) c34 ?_; assumption) | (refine (fun (c_ : ¬ (((Go.bits .and .u8 t485 16) != 0) == (t484 != t482)) = true) (h_ : (t484 != t482) = true) => (by rw [h_] at c_; simpa using c_ : (Go.bits .and .u8 t485 16) = 0)) c34 ?_; assumption)))
         (try (have c34b4 : ¬ (Go.bits .and .u8 t485 16) = 0 := by first | (refine (fun (c_ : (((Go.bits .and .u8 t485 16) != 0) == (t484 != t482)) = true) (h_ : (t484 != t482) = true) => (by rw [h_] at c_; simpa using c_ : ¬ (Go.bits .and .u8 t485 16) = 0)) c34 ?_; assumption) | (refine (fun (c_ : ¬ (((Go.bits .and .u8 t485 16) != 0) == (t484 != t482)) = true) (h_ : (t484 != t482) = false) => (by rw [h_] at c_; simpa using c_ : ¬ (Go.bits .and .u8 t485 16) = 0)) c34 ?_; assumption)))
         (try (have c34b5 : ¬ (((Go.bits .and .u8 t485 16) != 0) = (t484 != t482)) := by simpa using c34))
         clear c34; obtain rfl := Option.some.inj H
         go_wp2
         go_ret
         exact ⟨by first | rfl | (simp [errW_none, errW_some] <;> rfl) | (simp [*, errW_none, errW_some] <;> rfl), kH HB⟩
       rw [if_neg c33] at H
       have c33b0 : (((Go.bits .and .u8 t483 16) != 0) == (t484 != t482)) = false := by simpa using c33
       (try (have c33b1 : decide (((Go.bits .and .u8 t483 16) != 0) = (t484 != t482)) = false := by simpa using c33))
       (try (have c33b2 : (((Go.bits .and .u8 t483 16) != 0) == (t484 != t482)) = false := by simpa using c33))
       (try (have c33b3 : (Go.bits .and .u8 t483 16) = 0 := by first | (refine (fun (c_ : (((Go.bits .and .u8 t483 16) != 0) == (t484 != t482)) = true) (h_ : (t484 != t482) = false) => (by rw [h_] at c_; simpa using c_ : (Go.bits .and .u8 t483 16) = 0)) c33 ?_; assumption) | (refine (fun (c_ : ¬ (((Go.bits .and .u8 t483 16) != 0) == (t484 != t482)) = true) (h_ : (t484 != t482) = true) => (by rw [h_] at c_; simpa using c_ : (Go.bits .and .u8 t483 16) = 0)) c33 ?_; assumption)))
       (try (have c33b4 : ¬ (Go.bits .and .u8 t483 16) = 0 := by first | (refine (fun (c_ : (((Go.bits .and .u8 t483 16) != 0) == (t484 != t482)) = true) (h_ : (t484 != t482) = true) => (by rw [h_] at c_; simpa using c_ : ¬ (Go.bits .and .u8 t483 16) = 0)) c33 ?_; assumption) | (refine (fun (c_ : ¬ (((Go.bits .and .u8 t483 16) != 0) == (t484 != t482)) = true) (h_ : (t484 != t482) = false) => (by rw [h_] at c_; simpa using c_ : ¬ (Go.bits .and .u8 t483 16) = 0)) c33 ?_; assumption)))
       (try (have c33b5 : ¬ (((Go.bits .and .u8 t483 16) != 0) = (t484 != t482)) := by simpa using c33))
       clear c33; obtain rfl := Option.some.inj H
       go_wp2
       go_ret
       exact ⟨by first | rfl | (simp [errW_none, errW_some] <;> rfl) | (simp [*, errW_none, errW_some] <;> rfl), kH HB⟩
     rw [if_neg c32] at H
     have c32b0 : (t484 == t482) = false := beq_eq_false_iff_ne.mpr c32; have c32b1 : (t484 != t482) = true := bne_iff_ne.mpr c32
     by_cases c38 : t484 = (IntKind.u64.wrap (t482 + 1))
     · rw [if_pos c38] at H
       have c38b0 : (t484 == (IntKind.u64.wrap (t482 + 1))) = true := beq_iff_eq.mpr c38; have c38b1 : (t484 != (IntKind.u64.wrap (t482 + 1))) = false := bne_eq_false_iff_eq.mpr c38; clear c38
       by_cases c39 : (((Go.bits .and .u8 t483 16) != 0) == (t484 != t482)) = true
       · rw [if_pos c39] at H
         have c39b0 : (((Go.bits .and .u8 t483 16) != 0) == (t484 != t482)) = true := c39
         (try (have c39b1 : decide (((Go.bits .and .u8 t483 16) != 0) = (t484 != t482)) = true := by simpa using c39))
         (try (have c39b2 : (((Go.bits .and .u8 t483 16) != 0) == (t484 != t482)) = true := by simpa using c39))
         (try (have c39b3 : (Go.bits .and .u8 t483 16) = 0 := by first | (refine (fun (c_ : (((Go.bits .and .u8 t483 16) != 0) == (t484 != t482)) = true) (h_ : (t484 != t482) = false) => (by rw [h_] at c_; simpa using c_ : (Go.bits .and .u8 t483 16) = 0)) c39 ?_; assumption) | (refine (fun (c_ : ¬ (((Go.bits .and .u8 t483 16) != 0) == (t484 != t482)) = true) (h_ : (t484 != t482) = true) => (by rw [h_] at c_; simpa using c_ : (Go.bits .and .u8 t483 16) = 0)) c39 ?_; assumption)))
         (try (have c39b4 : ¬ (Go.bits .and .u8 t483 16) = 0 := by first | (refine (fun (c_ : (((Go.bits .and .u8 t483 16) != 0) == (t484 != t482)) = true) (h_ : (t484 != t482) = true) => (by rw [h_] at c_; simpa using c_ : ¬ (Go.bits .and .u8 t483 16) = 0)) c39 ?_; assumption) | (refine (fun (c_ : ¬ (((Go.bits .and .u8 t483 16) != 0) == (t484 != t482)) = true) (h_ : (t484 != t482) = false) => (by rw [h_] at c_; simpa using c_ : ¬ (Go.bits .and .u8 t483 16) = 0)) c39 ?_; assumption)))
         clear c39
         by_cases c40 : (((Go.bits .and .u8 t485 16) != 0) == (t484 != t482)) = true
         · rw [if_pos c40] at H
           have c40b0 : (((Go.bits .and .u8 t485 16) != 0) == (t484 != t482)) = true := c40
           (try (have c40b1 : decide (((Go.bits .and .u8 t485 16) != 0) = (t484 != t482)) = true := by simpa using c40))
           (try (have c40b2 : (((Go.bits .and .u8 t485 16) != 0) == (t484 != t482)) = true := by simpa using c40))
           (try (have c40b3 : (Go.bits .and .u8 t485 16) = 0 := by first | (refine (fun (c_ : (((Go.bits .and .u8 t485 16) != 0) == (t484 != t482)) = true) (h_ : (t484 != t482) = false) => (by rw [h_] at c_; simpa using c_ : (Go.bits .and .u8 t485 16) = 0)) c40 ?_; assumption) | (refine (fun (c_ : ¬ (((Go.bits .and .u8 t485 16) != 0) == (t484 != t482)) = true) (h_ : (t484 != t482) = true) => (by rw [h_] at c_; simpa using c_ : (Go.bits .and .u8 t485 16) = 0)) c40 ?_; assumption)))
           (try (have c40b4 : ¬ (Go.bits .and .u8 t485 16) = 0 := by first | (refine (fun (c_ : (((Go.bits .and .u8 t485 16) != 0) == (t484 != t482)) = true) (h_ : (t484 != t482) = true) => (by rw [h_] at c_; simpa using c_ : ¬ (Go.bits .and .u8 t485 16) = 0)) c40 ?_; assumption) | (refine (fun (c_ : ¬ (((Go.bits .and .u8 t485 16) != 0) == (t484 != t482)) = true) (h_ : (t484 != t482) = false) => (by rw [h_] at c_; simpa using c_ : ¬ (Go.bits .and .u8 t485 16) = 0)) c40 ?_; assumption)))
           clear c40
           by_cases c41 : (((Go.bits .and .u8 t487 16) != 0) == (t484 != t482)) = true
           · rw [if_pos c41] at H
             have c41b0 : (((Go.bits .and .u8 t487 16) != 0) == (t484 != t482)) = true := c41
             (try (have c41b1 : decide (((Go.bits .and .u8 t487 16) != 0) = (t484 != t482)) = true := by simpa using c41))
             (try (have c41b2 : (((Go.bits .and .u8 t487 16) != 0) == (t484 != t482)) = true := by simpa using c41))
             (try (have c41b3 : (Go.bits .and .u8 t487 16) = 0 := by first | (refine (fun (c_ : (((Go.bits .and .u8 t487 16) != 0) == (t484 != t482)) = true) (h_ : (t484 != t482) = false) => (by rw [h_] at c_; simpa using c_ : (Go.bits .and .u8 t487 16) = 0)) c41 ?_; assumption) | (refine (fun (c_ : ¬ (((Go.bits .and .u8 t487 16) != 0) == (t484 != t482)) = true) (h_ : (t484 != t482) = true) => (by rw [h_] at c_; simpa using c_ : (Go.bits .and .u8 t487 16) = 0)) c41 ?_; assumption)))
             (try (have c41b4 : ¬ (Go.bits .and .u8 t487 16) = 0 := by first | (refine (fun (c_ : (((Go.bits .and .u8 t487 16) != 0) == (t484 != t482)) = true) (h_ : (t484 != t482) = true) => (by rw [h_] at c_; simpa using c_ : ¬ (Go.bits .and .u8 t487 16) = 0)) c41 ?_; assumption) | (refine (fun (c_ : ¬ (((Go.bits .and .u8 t487 16) != 0) == (t484 != t482)) = true) (h_ : (t484 != t482) = false) => (by rw [h_] at c_; simpa using c_ : ¬ (Go.bits .and .u8 t487 16) = 0)) c41 ?_; assumption)))
             clear c41; replace H := Option.bind_eq_some_iff.mp H; obtain ⟨t492, A420, H⟩ := H; replace H : (some t492) = some r := H; have A42 := Aside0.mk A420; clear A420; obtain rfl := Option.some.inj H
             go_wp2_with (first | (go_at_call 10; (with_reducible refine (tillerlaw07_sure.calls kj6  t492 _ A42.out).mono ?_); rintro e w43 ⟨rfl, hb⟩; replace HB := Aside0.mk (below_step (kH HB) hb); (try clear hb); (try clear hb2); (try clear hk); (try clear hi)))
             go_ret
             exact ⟨by first | rfl | (simp [errW_none, errW_some] <;> rfl) | (simp [*, errW_none, errW_some] <;> rfl), kH HB⟩
           rw [if_neg c41] at H
           have c41b0 : (((Go.bits .and .u8 t487 16) != 0) == (t484 != t482)) = false := by simpa using c41
           (try (have c41b1 : decide (((Go.bits .and .u8 t487 16) != 0) = (t484 != t482)) = false := by simpa using c41))
           (try (have c41b2 : (((Go.bits .and .u8 t487 16) != 0) == (t484 != t482)) = false := by simpa using c41))
           (try (have c41b3 : (Go.bits .and .u8 t487 16) = 0 := by first | (refine (fun (c_ : (((Go.bits .and .u8 t487 16) != 0) == (t484 != t482)) = true) (h_ : (t484 != t482) = false) => (by rw [h_] at c_; simpa using c_ : (Go.bits .and .u8 t487 16) = 0)) c41 ?_; assumption) | (refine (fun (c_ : ¬ (((Go.bits .and .u8 t487 16) != 0) == (t484 != t482)) = true) (h_ : (t484 != t482) = true) => (by rw [h_] at c_; simpa using c_ : (Go.bits .and .u8 t487 16) = 0)) c41 ?_; assumption)))
           (try (have c41b4 : ¬ (Go.bits .and .u8 t487 16) = 0 := by first | (refine (fun (c_ : (((Go.bits .and .u8 t487 16) != 0) == (t484 != t482)) = true) (h_ : (t484 != t482) = true) => (by rw [h_] at c_; simpa using c_ : ¬ (Go.bits .and .u8 t487 16) = 0)) c41 ?_; assumption) | (refine (fun (c_ : ¬ (((Go.bits .and .u8 t487 16) != 0) == (t484 != t482)) = true) (h_ : (t484 != t482) = false) => (by rw [h_] at c_; simpa using c_ : ¬ (Go.bits .and .u8 t487 16) = 0)) c41 ?_; assumption)))
           (try (have c41b5 : ¬ (((Go.bits .and .u8 t487 16) != 0) = (t484 != t482)) := by simpa using c41))
           clear c41; obtain rfl := Option.some.inj H
           go_wp2
           go_ret
           exact ⟨by first | rfl | (simp [errW_none, errW_some] <;> rfl) | (simp [*, errW_none, errW_some] <;> rfl), kH HB⟩
         rw [if_neg c40] at H
         have c40b0 : (((Go.bits .and .u8 t485 16) != 0) == (t484 != t482)) = false := by simpa using c40
         (try (have c40b1 : decide (((Go.bits .and .u8 t485 16) != 0) = (t484 != t482)) = false := by simpa using c40))
         (try (have c40b2 : (((Go.bits .and .u8 t485 16) != 0) == (t484 != t482)) = false := by simpa using c40))
         (try (have c40b3 : (Go.bits .and .u8 t485 16) = 0 := by first | (refine (fun (c_ : (((Go.bits .and .u8 t485 16) != 0) == (t484 != t482)) = true) (h_ : (t484 != t482) = false) => (by rw [h_] at c_; simpa using c_ : (Go.bits .and .u8 t485 16) = 0)) c40 ?_; assumption) | (refine (fun (c_ : ¬ (((Go.bits .and .u8 t485 16) != 0) == (t484 != t482)) = true) (h_ : (t484 != t482) = true) => (by rw [h_] at c_; simpa using c_ : (Go.bits .and .u8 t485 16) = 0)) c40 ?_; assumption)))
         (try (have c40b4 : ¬ (Go.bits .and .u8 t485 16) = 0 := by first | (refine (fun (c_ : (((Go.bits .and .u8 t485 16) != 0) == (t484 != t482)) = true) (h_ : (t484 != t482) = true) => (by rw [h_] at c_; simpa using c_ : ¬ (Go.bits .and .u8 t485 16) = 0)) c40 ?_; assumption) | (refine (fun (c_ : ¬ (((Go.bits .and .u8 t485 16) != 0) == (t484 != t482)) = true) (h_ : (t484 != t482) = false) => (by rw [h_] at c_; simpa using c_ : ¬ (Go.bits .and .u8 t485 16) = 0)) c40 ?_; assumption)))
         (try (have c40b5 : ¬ (((Go.bits .and .u8 t485 16) != 0) = (t484 != t482)) := by simpa using c40))
         clear c40; obtain rfl := Option.some.inj H
         go_wp2
         go_ret
         exact ⟨by first | rfl | (simp [errW_none, errW_some] <;> rfl) | (simp [*, errW_none, errW_some] <;> rfl), kH HB⟩
       rw [if_neg c39] at H
       have c39b0 : (((Go.bits .and .u8 t483 16) != 0) == (t484 != t482)) = false := by simpa using c39
       (try (have c39b1 : decide (((Go.bits .and .u8 t483 16) != 0) = (t484 != t482)) = false := by simpa using c39))
       (try (have c39b2 : (((Go.bits .and .u8 t483 16) != 0) == (t484 != t482)) = false := by simpa using c39))
       (try (have c39b3 : (Go.bits .and .u8 t483 16) = 0 := by first | (refine (fun (c_ : (((Go.bits .and .u8 t483 16) != 0) == (t484 != t482)) = true) (h_ : (t484 != t482) = false) => (by rw [h_] at c_; simpa using c_ : (Go.bits .and .u8 t483 16) = 0)) c39 ?_; assumption) | (refine (fun (c_ : ¬ (((Go.bits .and .u8 t483 16) != 0) == (t484 != t482)) = true) (h_ : (t484 != t482) = true) => (by rw [h_] at c_; simpa using c_ : (Go.bits .and .u8 t483 16) = 0)) c39 ?_; assumption)))
       (try (have c39b4 : ¬ (Go.bits .and .u8 t483 16) = 0 := by first | (refine (fun (c_ : (((Go.bits .and .u8 t483 16) != 0) == (t484 != t482)) = true) (h_ : (t484 != t482) = true) => (by rw [h_] at c_; simpa using c_ : ¬ (Go.bits .and .u8 t483 16) = 0)) c39 ?_; assumption) | (refine (fun (c_ : ¬ (((Go.bits .and .u8 t483 16) != 0) == (t484 != t482)) = true) (h_ : (t484 != t482) = false) => (by rw [h_] at c_; simpa using c_ : ¬ (Go.bits .and .u8 t483 16) = 0)) c39 ?_; assumption)))
       (try (have c39b5 : ¬ (((Go.bits .and .u8 t483 16) != 0) = (t484 != t482)) := by simpa using c39))
       clear c39; obtain rfl := Option.some.inj H
       go_wp2
       go_ret
       exact ⟨by first | rfl | (simp [errW_none, errW_some] <;> rfl) | (simp [*, errW_none, errW_some] <;> rfl), kH HB⟩
     rw [if_neg c38] at H
     have c38b0 : (t484 == (IntKind.u64.wrap (t482 + 1))) = false := beq_eq_false_iff_ne.mpr c38; have c38b1 : (t484 != (IntKind.u64.wrap (t482 + 1))) = true := bne_iff_ne.mpr c38; obtain rfl := Option.some.inj H
     go_wp2
     go_ret
     exact ⟨by first | rfl | (simp [errW_none, errW_some] <;> rfl) | (simp [*, errW_none, errW_some] <;> rfl), kH HB⟩
   rw [if_neg c31] at H
   have c31b0 : (t486 == t484) = false := beq_eq_false_iff_ne.mpr c31; have c31b1 : (t486 != t484) = true := bne_iff_ne.mpr c31; obtain rfl := Option.some.inj H
   go_wp2
   go_ret
   exact ⟨by first | rfl | (simp [errW_none, errW_some] <;> rfl) | (simp [*, errW_none, errW_some] <;> rfl), kH HB⟩
def tillerlaw07_QuotSides.Pure : Prop := ∀ (a0 : Int) (a1 : Int) (a2 : Int), (Lit.int .u64 a0).wf = true → (Lit.int .u64 a1).wf = true → (Lit.int .i64 a2).wf = true → ∃ k, tillerlaw07_QuotSides.f k a0 a1 a2 = some true
theorem tillerlaw07_QuotSides.walk (P : tillerlaw07_QuotSides.Pure) (a0 : Int) (a1 : Int) (a2 : Int) (w : World) (w0 : (Lit.int .u64 a0).wf = true) (w1 : (Lit.int .u64 a1).wf = true) (w2 : (Lit.int .i64 a2).wf = true) :
 Calls Try.prog 6 #[.int .u64 a0, .int .u64 a1, .int .i64 a2] w fun e w' => e = .returned (.bool true) ∧ Below w.heap.size w w' := by
 obtain ⟨k, h⟩ := P a0 a1 a2 w0 w1 w2; refine (tillerlaw07_QuotSides.calls k a0 a1 a2 true w h).mono ?_; rintro e w' ⟨rfl, hd⟩; exact ⟨rfl, hd⟩
end Go.Proofs.Ytedjlpfggjcmfaa.X
