-- printed by a turned print of this work's own (wip/mp.sh): Lean checks it
import Derived.Test.YtedjlpfggjcmfaaX0
import Derived.Test.YtedjlpfggjcmfaaXquotDiv
import Derived.Test.YtedjlpfggjcmfaaXtillerlaw07sure
namespace Go.Proofs.Ytedjlpfggjcmfaa.X
open Go.RowKit Go.Proofs.YtedjlpfggjcmfaaW.PrintWords Go.Proofs.YtedjlpfggjcmfaaW.PrintLast Go.Proofs.YtedjlpfggjcmfaaW.PrintMore
attribute [local go_sem] max2_int min2_int max_two min_two max_three min_three max_four min_four   -- for this text's walks alone
set_option linter.unusedVariables false
set_option linter.unusedSimpArgs false

/-! ### tillerlaw07_QuotBack: function 5 -/
mutual
def tillerlaw07_QuotBack.j0 : Nat → Int → Int → Int → Int → Int → Int → Int → Bool → Option (Bool)
 | 0, _, _, _, _, _, _, _, _ => none
 | k + 1, x0, x1, x7, x8, x9, x10, x11, x12 => if x8 = x0 then (if x9 = 0 then (if x12 = true then (if x10 = 4607182418800017408 then (if x11 = 0 then (tillerlaw07_QuotBack.j1 k x0 x1 x7 false) else (tillerlaw07_QuotBack.j1 k x0 x1 x7 true)) else (tillerlaw07_QuotBack.j1 k x0 x1 x7 true)) else (if x10 = 9221120237041090560 then (tillerlaw07_QuotBack.j1 k x0 x1 x7 (x11 != 1)) else (tillerlaw07_QuotBack.j1 k x0 x1 x7 true))) else (tillerlaw07_QuotBack.j1 k x0 x1 x7 true)) else (tillerlaw07_QuotBack.j1 k x0 x1 x7 true)
def tillerlaw07_QuotBack.j1 : Nat → Int → Int → Int → Bool → Option (Bool)
 | 0, _, _, _, _ => none
 | k + 1, x0, x1, x7, x76 => if x76 = true then (some false) else (if x7 = 3 then (tillerlaw07_QuotBack.j2 k x0 x1 x7 true) else (if x7 = 4 then (tillerlaw07_QuotBack.j2 k x0 x1 x7 true) else (tillerlaw07_QuotBack.j2 k x0 x1 x7 (decide ((Go.bits .andNot .u64 x1 9223372036854775808) > 9218868437227405312)))))
def tillerlaw07_QuotBack.j2 : Nat → Int → Int → Int → Bool → Option (Bool)
 | 0, _, _, _, _ => none
 | k + 1, x0, x1, x7, x87 => if x87 = true then ((tillerlaw07_sure.f k).bind fun t474 => (some t474)) else ((quot_Div.f k x0 x1 x7).bind fun bt475 => ((quot_Div.f k x0 (Go.bits .xor .u64 x1 9223372036854775808) x7).bind fun bt477 => (if bt475.1 = 9221120237041090560 then (if bt477.1 = bt475.1 then (if bt475.2 = bt477.2 then ((tillerlaw07_sure.f k).bind fun t479 => (some t479)) else (some false)) else (if (Go.bits .xor .u64 bt475.1 9223372036854775808) = bt477.1 then (if bt475.2 = bt477.2 then ((tillerlaw07_sure.f k).bind fun t480 => (some t480)) else (some false)) else (some false))) else (if (Go.bits .xor .u64 bt475.1 9223372036854775808) = bt477.1 then (if bt475.2 = bt477.2 then ((tillerlaw07_sure.f k).bind fun t481 => (some t481)) else (some false)) else (some false)))))
end
def tillerlaw07_QuotBack.f (k : Nat) (a0 : Int) (a1 : Int) (a2 : Int) : Option (Bool) := (quot_Div.f k a0 4607182418800017408 a2).bind fun bt469 => (if (Go.bits .andNot .u64 a0 9223372036854775808) > 9218868437227405312 then (if bt469.1 = 9221120237041090560 then ((tillerlaw07_sure.f k).bind fun t471 => (some t471)) else (some false)) else ((quot_Div.f k a0 a0 a2).bind fun bt472 => (if (Go.bits .andNot .u64 a0 9223372036854775808) = 0 then (tillerlaw07_QuotBack.j0 k a0 a1 a2 bt469.1 bt469.2 bt472.1 bt472.2 false) else (tillerlaw07_QuotBack.j0 k a0 a1 a2 bt469.1 bt469.2 bt472.1 bt472.2 ((Go.bits .andNot .u64 a0 9223372036854775808) != 9218868437227405312)))))
theorem tillerlaw07_QuotBack.mono_l : ∀ k, (∀ y0 y1 y2 y3 y4 y5 y6 y7, LeO (tillerlaw07_QuotBack.j0 k y0 y1 y2 y3 y4 y5 y6 y7) (tillerlaw07_QuotBack.j0 (k + 1) y0 y1 y2 y3 y4 y5 y6 y7)) ∧ (∀ y0 y1 y2 y3, LeO (tillerlaw07_QuotBack.j1 k y0 y1 y2 y3) (tillerlaw07_QuotBack.j1 (k + 1) y0 y1 y2 y3)) ∧ (∀ y0 y1 y2 y3, LeO (tillerlaw07_QuotBack.j2 k y0 y1 y2 y3) (tillerlaw07_QuotBack.j2 (k + 1) y0 y1 y2 y3))
 | 0 => ⟨fun _ _ _ _ _ _ _ _ r h => by simp [tillerlaw07_QuotBack.j0] at h, fun _ _ _ _ r h => by simp [tillerlaw07_QuotBack.j1] at h, fun _ _ _ _ r h => by simp [tillerlaw07_QuotBack.j2] at h⟩
 | k + 1 => by
  obtain ⟨ih0, ih1, ih2⟩ := tillerlaw07_QuotBack.mono_l k
  refine ⟨?_, ?_, ?_⟩
  · intro y0 y1 y2 y3 y4 y5 y6 y7
    unfold tillerlaw07_QuotBack.j0
    repeat' first
    | (with_reducible exact ih0 _ _ _ _ _ _ _ _)
    | (with_reducible exact ih1 _ _ _ _)
    | (with_reducible exact ih2 _ _ _ _)
    | (with_reducible exact quot_Div.mono _ _ _ _)
    | (with_reducible exact tillerlaw07_sure.mono _)
    | (with_reducible exact LeO.refl _)
    | (with_reducible exact LeO.none _)
    | (with_reducible refine LeO.ite ?_ ?_)
    | (with_reducible refine LeO.bind ?_ (fun _ => ?_))
    | exact ih0 _ _ _ _ _ _ _ _
    | exact ih1 _ _ _ _
    | exact ih2 _ _ _ _
    | exact quot_Div.mono _ _ _ _
    | exact tillerlaw07_sure.mono _
    | exact LeO.none _
    | refine LeO.ite ?_ ?_
    | refine LeO.bind ?_ (fun _ => ?_)
  · intro y0 y1 y2 y3
    unfold tillerlaw07_QuotBack.j1
    repeat' first
    | (with_reducible exact ih0 _ _ _ _ _ _ _ _)
    | (with_reducible exact ih1 _ _ _ _)
    | (with_reducible exact ih2 _ _ _ _)
    | (with_reducible exact quot_Div.mono _ _ _ _)
    | (with_reducible exact tillerlaw07_sure.mono _)
    | (with_reducible exact LeO.refl _)
    | (with_reducible exact LeO.none _)
    | (with_reducible refine LeO.ite ?_ ?_)
    | (with_reducible refine LeO.bind ?_ (fun _ => ?_))
    | exact ih0 _ _ _ _ _ _ _ _
    | exact ih1 _ _ _ _
    | exact ih2 _ _ _ _
    | exact quot_Div.mono _ _ _ _
    | exact tillerlaw07_sure.mono _
    | exact LeO.none _
    | refine LeO.ite ?_ ?_
    | refine LeO.bind ?_ (fun _ => ?_)
  · intro y0 y1 y2 y3
    unfold tillerlaw07_QuotBack.j2
    repeat' first
    | (with_reducible exact ih0 _ _ _ _ _ _ _ _)
    | (with_reducible exact ih1 _ _ _ _)
    | (with_reducible exact ih2 _ _ _ _)
    | (with_reducible exact quot_Div.mono _ _ _ _)
    | (with_reducible exact tillerlaw07_sure.mono _)
    | (with_reducible exact LeO.refl _)
    | (with_reducible exact LeO.none _)
    | (with_reducible refine LeO.ite ?_ ?_)
    | (with_reducible refine LeO.bind ?_ (fun _ => ?_))
    | exact ih0 _ _ _ _ _ _ _ _
    | exact ih1 _ _ _ _
    | exact ih2 _ _ _ _
    | exact quot_Div.mono _ _ _ _
    | exact tillerlaw07_sure.mono _
    | exact LeO.none _
    | refine LeO.ite ?_ ?_
    | refine LeO.bind ?_ (fun _ => ?_)
theorem tillerlaw07_QuotBack.mono : ∀ a0 a1 a2 k, LeO (tillerlaw07_QuotBack.f k a0 a1 a2) (tillerlaw07_QuotBack.f (k + 1) a0 a1 a2) := by
 intro a0 a1 a2 k
 obtain ⟨ih0, ih1, ih2⟩ := tillerlaw07_QuotBack.mono_l k
 unfold tillerlaw07_QuotBack.f
 repeat' first
  | (with_reducible exact ih0 _ _ _ _ _ _ _ _)
  | (with_reducible exact ih1 _ _ _ _)
  | (with_reducible exact ih2 _ _ _ _)
  | (with_reducible exact quot_Div.mono _ _ _ _)
  | (with_reducible exact tillerlaw07_sure.mono _)
  | (with_reducible exact LeO.refl _)
  | (with_reducible exact LeO.none _)
  | (with_reducible refine LeO.ite ?_ ?_)
  | (with_reducible refine LeO.bind ?_ (fun _ => ?_))
  | exact ih0 _ _ _ _ _ _ _ _
  | exact ih1 _ _ _ _
  | exact ih2 _ _ _ _
  | exact quot_Div.mono _ _ _ _
  | exact tillerlaw07_sure.mono _
  | exact LeO.none _
  | refine LeO.ite ?_ ?_
  | refine LeO.bind ?_ (fun _ => ?_)
set_option maxHeartbeats 8000000 in
set_option maxRecDepth 100000 in
theorem tillerlaw07_QuotBack.calls (k : Nat) (a0 : Int) (a1 : Int) (a2 : Int) (r : Bool) (w : World) (h : tillerlaw07_QuotBack.f k a0 a1 a2 = some r) :
 Calls Try.prog 5 #[.int .u64 a0, .int .u64 a1, .int .i64 a2] w fun e w' => e = .returned (.bool r) ∧ Below w.heap.size w w' := by
 have HB := Aside0.mk (Below.refl w.heap.size w)
 have H : ((quot_Div.f k a0 4607182418800017408 a2).bind fun bt469 => (if (Go.bits .andNot .u64 a0 9223372036854775808) > 9218868437227405312 then (if bt469.1 = 9221120237041090560 then ((tillerlaw07_sure.f k).bind fun t471 => (some t471)) else (some false)) else ((quot_Div.f k a0 a0 a2).bind fun bt472 => (if (Go.bits .andNot .u64 a0 9223372036854775808) = 0 then (tillerlaw07_QuotBack.j0 k a0 a1 a2 bt469.1 bt469.2 bt472.1 bt472.2 false) else (tillerlaw07_QuotBack.j0 k a0 a1 a2 bt469.1 bt469.2 bt472.1 bt472.2 ((Go.bits .andNot .u64 a0 9223372036854775808) != 9218868437227405312)))))) = some r := h
 clear h
 replace H := Option.bind_eq_some_iff.mp H
 obtain ⟨⟨t469, t470⟩, A40, H⟩ := H
 replace H : (if (Go.bits .andNot .u64 a0 9223372036854775808) > 9218868437227405312 then (if t469 = 9221120237041090560 then ((tillerlaw07_sure.f k).bind fun t471 => (some t471)) else (some false)) else ((quot_Div.f k a0 a0 a2).bind fun bt472 => (if (Go.bits .andNot .u64 a0 9223372036854775808) = 0 then (tillerlaw07_QuotBack.j0 k a0 a1 a2 t469 t470 bt472.1 bt472.2 false) else (tillerlaw07_QuotBack.j0 k a0 a1 a2 t469 t470 bt472.1 bt472.2 ((Go.bits .andNot .u64 a0 9223372036854775808) != 9218868437227405312))))) = some r := H
 have A4 := Aside0.mk A40
 clear A40
 by_cases c5 : (Go.bits .andNot .u64 a0 9223372036854775808) > 9218868437227405312
 · rw [if_pos c5] at H
   have c5b0 : decide (9218868437227405312 < (Go.bits .andNot .u64 a0 9223372036854775808)) = true := decide_eq_true c5
   clear c5
   by_cases c6 : t469 = 9221120237041090560
   · rw [if_pos c6] at H
     have c6b0 : (t469 == 9221120237041090560) = true := beq_iff_eq.mpr c6
     have c6b1 : (t469 != 9221120237041090560) = false := bne_eq_false_iff_eq.mpr c6
     clear c6
     replace H := Option.bind_eq_some_iff.mp H
     obtain ⟨t471, A70, H⟩ := H
     replace H : (some t471) = some r := H
     have A7 := Aside0.mk A70
     clear A70
     obtain rfl := Option.some.inj H
     go_enter Try.func5, Try.ntmps5
     go_wp2_with (first | ((with_reducible refine gate_callee (f := 8) rfl ?_); refine goesL_ (some 21) rfl rfl Try.func8 (by kernel_rfl) rfl #[.int .u64 a0, .int .u64 4607182418800017408, .int .i64 a2] rfl (by (try simp only [List.map_toArray, List.map_cons, List.map_nil]); first | done | rfl | (simp only [List.length_drop, List.length_take]; rfl)) ?_; (with_reducible refine (quot_Div.calls k a0 4607182418800017408 a2 t469 t470 _ A4.out).mono ?_); rintro e w8 ⟨rfl, hb⟩; refine ⟨_, rfl, ?_⟩; have n0_ := Aside0.mk (below_step (by repeat (first | (with_reducible first | exact HB.out | apply below_alloc | apply pw_below_drewN | apply below_drew1) | exact HB.out)) hb); clear HB; have HB := n0_; clear n0_; (try clear hb); (try clear hb2); (try clear hk); (try clear hi)) | (go_at_call 10; (with_reducible refine (tillerlaw07_sure.calls k  t471 _ A7.out).mono ?_); rintro e w9 ⟨rfl, hb⟩; have n0_ := Aside0.mk (below_step (by repeat (first | (with_reducible first | exact HB.out | apply below_alloc | apply pw_below_drewN | apply below_drew1) | exact HB.out)) hb); clear HB; have HB := n0_; clear n0_; (try clear hb); (try clear hb2); (try clear hk); (try clear hi)))
     go_ret
     exact ⟨by first | rfl | (simp [errW_none, errW_some] <;> rfl) | (simp [*, errW_none, errW_some] <;> rfl), by repeat (first | (with_reducible first | exact HB.out | apply below_alloc | apply pw_below_drewN | apply below_drew1) | exact HB.out)⟩
   · rw [if_neg c6] at H
     have c6b0 : (t469 == 9221120237041090560) = false := beq_eq_false_iff_ne.mpr c6
     have c6b1 : (t469 != 9221120237041090560) = true := bne_iff_ne.mpr c6
     obtain rfl := Option.some.inj H
     go_enter Try.func5, Try.ntmps5
     go_wp2_with (first | ((with_reducible refine gate_callee (f := 8) rfl ?_); refine goesL_ (some 21) rfl rfl Try.func8 (by kernel_rfl) rfl #[.int .u64 a0, .int .u64 4607182418800017408, .int .i64 a2] rfl (by (try simp only [List.map_toArray, List.map_cons, List.map_nil]); first | done | rfl | (simp only [List.length_drop, List.length_take]; rfl)) ?_; (with_reducible refine (quot_Div.calls k a0 4607182418800017408 a2 t469 t470 _ A4.out).mono ?_); rintro e w10 ⟨rfl, hb⟩; refine ⟨_, rfl, ?_⟩; have n0_ := Aside0.mk (below_step (by repeat (first | (with_reducible first | exact HB.out | apply below_alloc | apply pw_below_drewN | apply below_drew1) | exact HB.out)) hb); clear HB; have HB := n0_; clear n0_; (try clear hb); (try clear hb2); (try clear hk); (try clear hi)))
     go_ret
     exact ⟨by first | rfl | (simp [errW_none, errW_some] <;> rfl) | (simp [*, errW_none, errW_some] <;> rfl), by repeat (first | (with_reducible first | exact HB.out | apply below_alloc | apply pw_below_drewN | apply below_drew1) | exact HB.out)⟩
 · rw [if_neg c5] at H
   have c5b0 : decide (9218868437227405312 < (Go.bits .andNot .u64 a0 9223372036854775808)) = false := decide_eq_false c5
   clear c5
   replace H := Option.bind_eq_some_iff.mp H
   obtain ⟨⟨t472, t473⟩, A110, H⟩ := H
   replace H : (if (Go.bits .andNot .u64 a0 9223372036854775808) = 0 then (tillerlaw07_QuotBack.j0 k a0 a1 a2 t469 t470 t472 t473 false) else (tillerlaw07_QuotBack.j0 k a0 a1 a2 t469 t470 t472 t473 ((Go.bits .andNot .u64 a0 9223372036854775808) != 9218868437227405312))) = some r := H
   have A11 := Aside0.mk A110
   clear A110
   have HC12 := Aside0.mk H
   clear H
   go_enter Try.func5, Try.ntmps5
   go_upto_region 6 with (first | ((with_reducible refine gate_callee (f := 8) rfl ?_); refine goesL_ (some 21) rfl rfl Try.func8 (by kernel_rfl) rfl #[.int .u64 a0, .int .u64 4607182418800017408, .int .i64 a2] rfl (by (try simp only [List.map_toArray, List.map_cons, List.map_nil]); first | done | rfl | (simp only [List.length_drop, List.length_take]; rfl)) ?_; (with_reducible refine (quot_Div.calls k a0 4607182418800017408 a2 t469 t470 _ A4.out).mono ?_); rintro e w13 ⟨rfl, hb⟩; refine ⟨_, rfl, ?_⟩; have n0_ := Aside0.mk (below_step (by repeat (first | (with_reducible first | exact HB.out | apply below_alloc | apply pw_below_drewN | apply below_drew1) | exact HB.out)) hb); clear HB; have HB := n0_; clear n0_; (try clear hb); (try clear hb2); (try clear hk); (try clear hi)) | ((with_reducible refine gate_callee (f := 8) rfl ?_); refine goesL_ (some 36) rfl rfl Try.func8 (by kernel_rfl) rfl #[.int .u64 a0, .int .u64 a0, .int .i64 a2] rfl (by (try simp only [List.map_toArray, List.map_cons, List.map_nil]); first | done | rfl | (simp only [List.length_drop, List.length_take]; rfl)) ?_; (with_reducible refine (quot_Div.calls k a0 a0 a2 t472 t473 _ A11.out).mono ?_); rintro e w14 ⟨rfl, hb⟩; refine ⟨_, rfl, ?_⟩; have n0_ := Aside0.mk (below_step (by repeat (first | (with_reducible first | exact HB.out | apply below_alloc | apply pw_below_drewN | apply below_drew1) | exact HB.out)) hb); clear HB; have HB := n0_; clear n0_; (try clear hb); (try clear hb2); (try clear hk); (try clear hi)))
   (try simp only [Act.put, List.setIfInBounds_toArray, List.set_cons_zero, List.set_cons_succ])
   go_cut [12] (fun v12 wc => ∃ (kq : Nat) (x12_11 : Bool), v12 = .bool x12_11 ∧ Aside0 (tillerlaw07_QuotBack.j0 kq a0 a1 a2 t469 t470 t472 t473 x12_11 = some r) ∧ Aside0 (kq ≤ k) ∧ Aside0 (Below w.heap.size w wc))
   case first =>
    have H := HC12.out
    clear HC12
    by_cases c15 : (Go.bits .andNot .u64 a0 9223372036854775808) = 0
    · rw [if_pos c15] at H
      have c15b0 : ((Go.bits .andNot .u64 a0 9223372036854775808) == 0) = true := beq_iff_eq.mpr c15
      have c15b1 : ((Go.bits .andNot .u64 a0 9223372036854775808) != 0) = false := bne_eq_false_iff_eq.mpr c15
      clear c15
      (first | rw [c15b0] | (simp only [i64_w, i32_w]; rw [c15b0]) | skip)
      have H' := Aside0.mk H
      clear H
      go_wp2
      go_meet
      case rel => exact ⟨_, (false), (by first | rfl | (simp; done) | (simp [*]; done)), (by first | exact H' | (subst_vars; exact H')), ⟨by first | omega | exact Nat.le_refl _⟩, ⟨by repeat (first | (with_reducible first | exact HB.out | apply below_alloc | apply pw_below_drewN | apply below_drew1) | exact HB.out)⟩⟩
    · rw [if_neg c15] at H
      have c15b0 : ((Go.bits .andNot .u64 a0 9223372036854775808) == 0) = false := beq_eq_false_iff_ne.mpr c15
      have c15b1 : ((Go.bits .andNot .u64 a0 9223372036854775808) != 0) = true := bne_iff_ne.mpr c15
      (first | rw [c15b0] | (simp only [i64_w, i32_w]; rw [c15b0]) | skip)
      have H' := Aside0.mk H
      clear H
      go_wp2
      go_meet
      case rel => exact ⟨_, (((Go.bits .andNot .u64 a0 9223372036854775808) != 9218868437227405312)), (by first | rfl | (simp; done) | (simp [*]; done)), (by first | exact H' | (subst_vars; exact H')), ⟨by first | omega | exact Nat.le_refl _⟩, ⟨by repeat (first | (with_reducible first | exact HB.out | apply below_alloc | apply pw_below_drewN | apply below_drew1) | exact HB.out)⟩⟩
   case rest =>
    clear HC12
    try clear c1
    try clear p2
    try clear c5
    try clear c5b0
    try clear c6
    try clear c6b0
    try clear c6b1
    try clear c8
    try clear c15
    try clear c15b0
    try clear c15b1
    obtain ⟨kq, x12_11, rfl, HA, HJ11, HB⟩ := hcut
    cases kq with
    | zero => exact absurd HA.out (by simp [tillerlaw07_QuotBack.j0])
    | succ kj11 =>
     have H := HA.out
     clear HA
     simp only [tillerlaw07_QuotBack.j0] at H
     have HC16 := Aside0.mk H
     clear H
     go_upto_region 7 with (fail)
     go_cut [76] (fun v76 wc => ∃ (kq : Nat) (x76_15 : Bool), v76 = .bool x76_15 ∧ Aside0 (tillerlaw07_QuotBack.j1 kq a0 a1 a2 x76_15 = some r) ∧ Aside0 (kq ≤ kj11) ∧ Aside0 (Below w.heap.size w wc))
     case first =>
      have H := HC16.out
      clear HC16
      by_cases c17 : t469 = a0
      · rw [if_pos c17] at H
        have c17b0 : (t469 == a0) = true := beq_iff_eq.mpr c17
        have c17b1 : (t469 != a0) = false := bne_eq_false_iff_eq.mpr c17
        clear c17
        (first | rw [c17b0] | (simp only [i64_w, i32_w]; rw [c17b0]) | skip)
        by_cases c18 : t470 = 0
        · rw [if_pos c18] at H
          have c18b0 : (t470 == 0) = true := beq_iff_eq.mpr c18
          have c18b1 : (t470 != 0) = false := bne_eq_false_iff_eq.mpr c18
          clear c18
          by_cases c19 : x12_11 = true
          · subst c19
            have H1 : (if t472 = 4607182418800017408 then (if t473 = 0 then (tillerlaw07_QuotBack.j1 kj11 a0 a1 a2 false) else (tillerlaw07_QuotBack.j1 kj11 a0 a1 a2 true)) else (tillerlaw07_QuotBack.j1 kj11 a0 a1 a2 true)) = some r := by rw [if_pos rfl] at H; exact H
            clear H; have H := H1; clear H1
            by_cases c20 : t472 = 4607182418800017408
            · rw [if_pos c20] at H
              have c20b0 : (t472 == 4607182418800017408) = true := beq_iff_eq.mpr c20
              have c20b1 : (t472 != 4607182418800017408) = false := bne_eq_false_iff_eq.mpr c20
              clear c20
              by_cases c21 : t473 = 0
              · rw [if_pos c21] at H
                have c21b0 : (t473 == 0) = true := beq_iff_eq.mpr c21
                have c21b1 : (t473 != 0) = false := bne_eq_false_iff_eq.mpr c21
                clear c21
                have H' := Aside0.mk H
                clear H
                go_wp2
                go_meet
                case rel => exact ⟨_, (false), (by first | rfl | (simp; done) | (simp [*]; done)), (by first | exact H' | (subst_vars; exact H')), ⟨by have := HJ11.out; first | omega | exact Nat.le_refl _⟩, ⟨by repeat (first | (with_reducible first | exact HB.out | apply below_alloc | apply pw_below_drewN | apply below_drew1) | exact HB.out)⟩⟩
              · rw [if_neg c21] at H
                have c21b0 : (t473 == 0) = false := beq_eq_false_iff_ne.mpr c21
                have c21b1 : (t473 != 0) = true := bne_iff_ne.mpr c21
                have H' := Aside0.mk H
                clear H
                go_wp2
                go_meet
                case rel => exact ⟨_, (true), (by first | rfl | (simp; done) | (simp [*]; done)), (by first | exact H' | (subst_vars; exact H')), ⟨by have := HJ11.out; first | omega | exact Nat.le_refl _⟩, ⟨by repeat (first | (with_reducible first | exact HB.out | apply below_alloc | apply pw_below_drewN | apply below_drew1) | exact HB.out)⟩⟩
            · rw [if_neg c20] at H
              have c20b0 : (t472 == 4607182418800017408) = false := beq_eq_false_iff_ne.mpr c20
              have c20b1 : (t472 != 4607182418800017408) = true := bne_iff_ne.mpr c20
              have H' := Aside0.mk H
              clear H
              go_wp2
              go_meet
              case rel => exact ⟨_, (true), (by first | rfl | (simp; done) | (simp [*]; done)), (by first | exact H' | (subst_vars; exact H')), ⟨by have := HJ11.out; first | omega | exact Nat.le_refl _⟩, ⟨by repeat (first | (with_reducible first | exact HB.out | apply below_alloc | apply pw_below_drewN | apply below_drew1) | exact HB.out)⟩⟩
          · replace c19 := Bool.eq_false_iff.mpr c19
            subst c19
            have H1 : (if t472 = 9221120237041090560 then (tillerlaw07_QuotBack.j1 kj11 a0 a1 a2 (t473 != 1)) else (tillerlaw07_QuotBack.j1 kj11 a0 a1 a2 true)) = some r := by rw [if_neg (show ¬ (false = true) by decide)] at H; exact H
            clear H; have H := H1; clear H1
            by_cases c22 : t472 = 9221120237041090560
            · rw [if_pos c22] at H
              have c22b0 : (t472 == 9221120237041090560) = true := beq_iff_eq.mpr c22
              have c22b1 : (t472 != 9221120237041090560) = false := bne_eq_false_iff_eq.mpr c22
              clear c22
              have H' := Aside0.mk H
              clear H
              go_wp2
              go_meet
              case rel => exact ⟨_, ((t473 != 1)), (by first | rfl | (simp; done) | (simp [*]; done)), (by first | exact H' | (subst_vars; exact H')), ⟨by have := HJ11.out; first | omega | exact Nat.le_refl _⟩, ⟨by repeat (first | (with_reducible first | exact HB.out | apply below_alloc | apply pw_below_drewN | apply below_drew1) | exact HB.out)⟩⟩
            · rw [if_neg c22] at H
              have c22b0 : (t472 == 9221120237041090560) = false := beq_eq_false_iff_ne.mpr c22
              have c22b1 : (t472 != 9221120237041090560) = true := bne_iff_ne.mpr c22
              have H' := Aside0.mk H
              clear H
              go_wp2
              go_meet
              case rel => exact ⟨_, (true), (by first | rfl | (simp; done) | (simp [*]; done)), (by first | exact H' | (subst_vars; exact H')), ⟨by have := HJ11.out; first | omega | exact Nat.le_refl _⟩, ⟨by repeat (first | (with_reducible first | exact HB.out | apply below_alloc | apply pw_below_drewN | apply below_drew1) | exact HB.out)⟩⟩
        · rw [if_neg c18] at H
          have c18b0 : (t470 == 0) = false := beq_eq_false_iff_ne.mpr c18
          have c18b1 : (t470 != 0) = true := bne_iff_ne.mpr c18
          have H' := Aside0.mk H
          clear H
          go_wp2
          go_meet
          case rel => exact ⟨_, (true), (by first | rfl | (simp; done) | (simp [*]; done)), (by first | exact H' | (subst_vars; exact H')), ⟨by have := HJ11.out; first | omega | exact Nat.le_refl _⟩, ⟨by repeat (first | (with_reducible first | exact HB.out | apply below_alloc | apply pw_below_drewN | apply below_drew1) | exact HB.out)⟩⟩
      · rw [if_neg c17] at H
        have c17b0 : (t469 == a0) = false := beq_eq_false_iff_ne.mpr c17
        have c17b1 : (t469 != a0) = true := bne_iff_ne.mpr c17
        (first | rw [c17b0] | (simp only [i64_w, i32_w]; rw [c17b0]) | skip)
        have H' := Aside0.mk H
        clear H
        go_wp2
        go_meet
        case rel => exact ⟨_, (true), (by first | rfl | (simp; done) | (simp [*]; done)), (by first | exact H' | (subst_vars; exact H')), ⟨by have := HJ11.out; first | omega | exact Nat.le_refl _⟩, ⟨by repeat (first | (with_reducible first | exact HB.out | apply below_alloc | apply pw_below_drewN | apply below_drew1) | exact HB.out)⟩⟩
     case rest =>
      clear HC16
      try clear c1
      try clear c2
      try clear p2
      try clear c5
      try clear c5b0
      try clear c6
      try clear c6b0
      try clear c6b1
      try clear c8
      try clear c15
      try clear c15b0
      try clear c15b1
      try clear c17
      try clear c17b0
      try clear c17b1
      try clear c18
      try clear c18b0
      try clear c18b1
      try clear c19
      try clear c20
      try clear c20b0
      try clear c20b1
      try clear c21
      try clear c21b0
      try clear c21b1
      try clear c22
      try clear c22b0
      try clear c22b1
      try clear p2
      obtain ⟨kq, x76_15, rfl, HA, HJ15, HB⟩ := hcut
      cases kq with
      | zero => exact absurd HA.out (by simp [tillerlaw07_QuotBack.j1])
      | succ kj15 =>
       have H := HA.out
       clear HA
       simp only [tillerlaw07_QuotBack.j1] at H
       by_cases c23 : x76_15 = true
       · subst c23
         have H1 : (some false) = some r := by rw [if_pos rfl] at H; exact H
         clear H; have H := H1; clear H1
         obtain rfl := Option.some.inj H
         go_wp2
         go_ret
         exact ⟨by first | rfl | (simp [errW_none, errW_some] <;> rfl) | (simp [*, errW_none, errW_some] <;> rfl), by repeat (first | (with_reducible first | exact HB.out | apply below_alloc | apply pw_below_drewN | apply below_drew1) | exact HB.out)⟩
       · replace c23 := Bool.eq_false_iff.mpr c23
         subst c23
         have H1 : (if a2 = 3 then (tillerlaw07_QuotBack.j2 kj15 a0 a1 a2 true) else (if a2 = 4 then (tillerlaw07_QuotBack.j2 kj15 a0 a1 a2 true) else (tillerlaw07_QuotBack.j2 kj15 a0 a1 a2 (decide ((Go.bits .andNot .u64 a1 9223372036854775808) > 9218868437227405312))))) = some r := by rw [if_neg (show ¬ (false = true) by decide)] at H; exact H
         clear H; have H := H1; clear H1
         have HC24 := Aside0.mk H
         clear H
         go_upto_region 9 with (fail)
         go_cut [87] (fun v87 wc => ∃ (kq : Nat) (x87_23 : Bool), v87 = .bool x87_23 ∧ Aside0 (tillerlaw07_QuotBack.j2 kq a0 a1 a2 x87_23 = some r) ∧ Aside0 (kq ≤ kj15) ∧ Aside0 (Below w.heap.size w wc))
         case first =>
          have H := HC24.out
          clear HC24
          by_cases c25 : a2 = 3
          · rw [if_pos c25] at H
            have c25b0 : (a2 == 3) = true := beq_iff_eq.mpr c25
            have c25b1 : (a2 != 3) = false := bne_eq_false_iff_eq.mpr c25
            clear c25
            (first | rw [c25b0] | (simp only [i64_w, i32_w]; rw [c25b0]) | skip)
            have H' := Aside0.mk H
            clear H
            go_wp2
            go_meet
            case rel => exact ⟨_, (true), (by first | rfl | (simp; done) | (simp [*]; done)), (by first | exact H' | (subst_vars; exact H')), ⟨by have := HJ11.out; have := HJ15.out; first | omega | exact Nat.le_refl _⟩, ⟨by repeat (first | (with_reducible first | exact HB.out | apply below_alloc | apply pw_below_drewN | apply below_drew1) | exact HB.out)⟩⟩
          · rw [if_neg c25] at H
            have c25b0 : (a2 == 3) = false := beq_eq_false_iff_ne.mpr c25
            have c25b1 : (a2 != 3) = true := bne_iff_ne.mpr c25
            (first | rw [c25b0] | (simp only [i64_w, i32_w]; rw [c25b0]) | skip)
            by_cases c26 : a2 = 4
            · rw [if_pos c26] at H
              have c26b0 : (a2 == 4) = true := beq_iff_eq.mpr c26
              have c26b1 : (a2 != 4) = false := bne_eq_false_iff_eq.mpr c26
              clear c26
              have H' := Aside0.mk H
              clear H
              go_wp2
              go_meet
              case rel => exact ⟨_, (true), (by first | rfl | (simp; done) | (simp [*]; done)), (by first | exact H' | (subst_vars; exact H')), ⟨by have := HJ11.out; have := HJ15.out; first | omega | exact Nat.le_refl _⟩, ⟨by repeat (first | (with_reducible first | exact HB.out | apply below_alloc | apply pw_below_drewN | apply below_drew1) | exact HB.out)⟩⟩
            · rw [if_neg c26] at H
              have c26b0 : (a2 == 4) = false := beq_eq_false_iff_ne.mpr c26
              have c26b1 : (a2 != 4) = true := bne_iff_ne.mpr c26
              have H' := Aside0.mk H
              clear H
              go_wp2
              go_meet
              case rel => exact ⟨_, (decide ((Go.bits .andNot .u64 a1 9223372036854775808) > 9218868437227405312)), (by first | rfl | (simp; done) | (simp [*]; done)), (by first | exact H' | (subst_vars; exact H')), ⟨by have := HJ11.out; have := HJ15.out; first | omega | exact Nat.le_refl _⟩, ⟨by repeat (first | (with_reducible first | exact HB.out | apply below_alloc | apply pw_below_drewN | apply below_drew1) | exact HB.out)⟩⟩
         case rest =>
          clear HC24
          try clear c1
          try clear c2
          try clear p2
          try clear c5
          try clear c5b0
          try clear c6
          try clear c6b0
          try clear c6b1
          try clear c8
          try clear c15
          try clear c15b0
          try clear c15b1
          try clear c17
          try clear c17b0
          try clear c17b1
          try clear c18
          try clear c18b0
          try clear c18b1
          try clear c19
          try clear c20
          try clear c20b0
          try clear c20b1
          try clear c21
          try clear c21b0
          try clear c21b1
          try clear c22
          try clear c22b0
          try clear c22b1
          try clear c23
          try clear c25
          try clear c25b0
          try clear c25b1
          try clear c26
          try clear c26b0
          try clear c26b1
          try clear p2
          obtain ⟨kq, x87_23, rfl, HA, HJ23, HB⟩ := hcut
          cases kq with
          | zero => exact absurd HA.out (by simp [tillerlaw07_QuotBack.j2])
          | succ kj23 =>
           have H := HA.out
           clear HA
           simp only [tillerlaw07_QuotBack.j2] at H
           by_cases c27 : x87_23 = true
           · subst c27
             have H1 : ((tillerlaw07_sure.f kj23).bind fun t474 => (some t474)) = some r := by rw [if_pos rfl] at H; exact H
             clear H; have H := H1; clear H1
             replace H := Option.bind_eq_some_iff.mp H
             obtain ⟨t474, A280, H⟩ := H
             replace H : (some t474) = some r := H
             have A28 := Aside0.mk A280
             clear A280
             obtain rfl := Option.some.inj H
             go_wp2_with (first | ((with_reducible refine gate_callee (f := 10) rfl ?_); refine goesL_ (some 88) rfl rfl Try.func10 (by kernel_rfl) rfl #[] rfl (by (try simp only [List.map_toArray, List.map_cons, List.map_nil]); first | done | rfl | (simp only [List.length_drop, List.length_take]; rfl)) ?_; (with_reducible refine (tillerlaw07_sure.calls kj23  t474 _ A28.out).mono ?_); rintro e w29 ⟨rfl, hb⟩; refine ⟨_, rfl, ?_⟩; have n0_ := Aside0.mk (below_step (by repeat (first | (with_reducible first | exact HB.out | apply below_alloc | apply pw_below_drewN | apply below_drew1) | exact HB.out)) hb); clear HB; have HB := n0_; clear n0_; (try clear hb); (try clear hb2); (try clear hk); (try clear hi)))
             go_ret
             exact ⟨by first | rfl | (simp [errW_none, errW_some] <;> rfl) | (simp [*, errW_none, errW_some] <;> rfl), by repeat (first | (with_reducible first | exact HB.out | apply below_alloc | apply pw_below_drewN | apply below_drew1) | exact HB.out)⟩
           · replace c27 := Bool.eq_false_iff.mpr c27
             subst c27
             have H1 : ((quot_Div.f kj23 a0 a1 a2).bind fun bt475 => ((quot_Div.f kj23 a0 (Go.bits .xor .u64 a1 9223372036854775808) a2).bind fun bt477 => (if bt475.1 = 9221120237041090560 then (if bt477.1 = bt475.1 then (if bt475.2 = bt477.2 then ((tillerlaw07_sure.f kj23).bind fun t479 => (some t479)) else (some false)) else (if (Go.bits .xor .u64 bt475.1 9223372036854775808) = bt477.1 then (if bt475.2 = bt477.2 then ((tillerlaw07_sure.f kj23).bind fun t480 => (some t480)) else (some false)) else (some false))) else (if (Go.bits .xor .u64 bt475.1 9223372036854775808) = bt477.1 then (if bt475.2 = bt477.2 then ((tillerlaw07_sure.f kj23).bind fun t481 => (some t481)) else (some false)) else (some false))))) = some r := by rw [if_neg (show ¬ (false = true) by decide)] at H; exact H
             clear H; have H := H1; clear H1
             replace H := Option.bind_eq_some_iff.mp H
             obtain ⟨⟨t475, t476⟩, A300, H⟩ := H
             replace H : ((quot_Div.f kj23 a0 (Go.bits .xor .u64 a1 9223372036854775808) a2).bind fun bt477 => (if t475 = 9221120237041090560 then (if bt477.1 = t475 then (if t476 = bt477.2 then ((tillerlaw07_sure.f kj23).bind fun t479 => (some t479)) else (some false)) else (if (Go.bits .xor .u64 t475 9223372036854775808) = bt477.1 then (if t476 = bt477.2 then ((tillerlaw07_sure.f kj23).bind fun t480 => (some t480)) else (some false)) else (some false))) else (if (Go.bits .xor .u64 t475 9223372036854775808) = bt477.1 then (if t476 = bt477.2 then ((tillerlaw07_sure.f kj23).bind fun t481 => (some t481)) else (some false)) else (some false)))) = some r := H
             have A30 := Aside0.mk A300
             clear A300
             replace H := Option.bind_eq_some_iff.mp H
             obtain ⟨⟨t477, t478⟩, A310, H⟩ := H
             replace H : (if t475 = 9221120237041090560 then (if t477 = t475 then (if t476 = t478 then ((tillerlaw07_sure.f kj23).bind fun t479 => (some t479)) else (some false)) else (if (Go.bits .xor .u64 t475 9223372036854775808) = t477 then (if t476 = t478 then ((tillerlaw07_sure.f kj23).bind fun t480 => (some t480)) else (some false)) else (some false))) else (if (Go.bits .xor .u64 t475 9223372036854775808) = t477 then (if t476 = t478 then ((tillerlaw07_sure.f kj23).bind fun t481 => (some t481)) else (some false)) else (some false))) = some r := H
             have A31 := Aside0.mk A310
             clear A310
             by_cases c32 : t475 = 9221120237041090560
             · rw [if_pos c32] at H
               have c32b0 : (t475 == 9221120237041090560) = true := beq_iff_eq.mpr c32
               have c32b1 : (t475 != 9221120237041090560) = false := bne_eq_false_iff_eq.mpr c32
               clear c32
               by_cases c33 : t477 = t475
               · rw [if_pos c33] at H
                 have c33b0 : (t477 == t475) = true := beq_iff_eq.mpr c33
                 have c33b1 : (t477 != t475) = false := bne_eq_false_iff_eq.mpr c33
                 clear c33
                 by_cases c34 : t476 = t478
                 · rw [if_pos c34] at H
                   have c34b0 : (t476 == t478) = true := beq_iff_eq.mpr c34
                   have c34b1 : (t476 != t478) = false := bne_eq_false_iff_eq.mpr c34
                   clear c34
                   replace H := Option.bind_eq_some_iff.mp H
                   obtain ⟨t479, A350, H⟩ := H
                   replace H : (some t479) = some r := H
                   have A35 := Aside0.mk A350
                   clear A350
                   obtain rfl := Option.some.inj H
                   go_wp2_with (first | ((with_reducible refine gate_callee (f := 8) rfl ?_); refine goesL_ (some 93) rfl rfl Try.func8 (by kernel_rfl) rfl #[.int .u64 a0, .int .u64 a1, .int .i64 a2] rfl (by (try simp only [List.map_toArray, List.map_cons, List.map_nil]); first | done | rfl | (simp only [List.length_drop, List.length_take]; rfl)) ?_; (with_reducible refine (quot_Div.calls kj23 a0 a1 a2 t475 t476 _ A30.out).mono ?_); rintro e w36 ⟨rfl, hb⟩; refine ⟨_, rfl, ?_⟩; have n0_ := Aside0.mk (below_step (by repeat (first | (with_reducible first | exact HB.out | apply below_alloc | apply pw_below_drewN | apply below_drew1) | exact HB.out)) hb); clear HB; have HB := n0_; clear n0_; (try clear hb); (try clear hb2); (try clear hk); (try clear hi)) | ((with_reducible refine gate_callee (f := 8) rfl ?_); refine goesL_ (some 101) rfl rfl Try.func8 (by kernel_rfl) rfl #[.int .u64 a0, .int .u64 (Go.bits .xor .u64 a1 9223372036854775808), .int .i64 a2] rfl (by (try simp only [List.map_toArray, List.map_cons, List.map_nil]); first | done | rfl | (simp only [List.length_drop, List.length_take]; rfl)) ?_; (with_reducible refine (quot_Div.calls kj23 a0 (Go.bits .xor .u64 a1 9223372036854775808) a2 t477 t478 _ A31.out).mono ?_); rintro e w37 ⟨rfl, hb⟩; refine ⟨_, rfl, ?_⟩; have n0_ := Aside0.mk (below_step (by repeat (first | (with_reducible first | exact HB.out | apply below_alloc | apply pw_below_drewN | apply below_drew1) | exact HB.out)) hb); clear HB; have HB := n0_; clear n0_; (try clear hb); (try clear hb2); (try clear hk); (try clear hi)) | (go_at_call 10; (with_reducible refine (tillerlaw07_sure.calls kj23  t479 _ A35.out).mono ?_); rintro e w38 ⟨rfl, hb⟩; have n0_ := Aside0.mk (below_step (by repeat (first | (with_reducible first | exact HB.out | apply below_alloc | apply pw_below_drewN | apply below_drew1) | exact HB.out)) hb); clear HB; have HB := n0_; clear n0_; (try clear hb); (try clear hb2); (try clear hk); (try clear hi)))
                   go_ret
                   exact ⟨by first | rfl | (simp [errW_none, errW_some] <;> rfl) | (simp [*, errW_none, errW_some] <;> rfl), by repeat (first | (with_reducible first | exact HB.out | apply below_alloc | apply pw_below_drewN | apply below_drew1) | exact HB.out)⟩
                 · rw [if_neg c34] at H
                   have c34b0 : (t476 == t478) = false := beq_eq_false_iff_ne.mpr c34
                   have c34b1 : (t476 != t478) = true := bne_iff_ne.mpr c34
                   obtain rfl := Option.some.inj H
                   go_wp2_with (first | ((with_reducible refine gate_callee (f := 8) rfl ?_); refine goesL_ (some 93) rfl rfl Try.func8 (by kernel_rfl) rfl #[.int .u64 a0, .int .u64 a1, .int .i64 a2] rfl (by (try simp only [List.map_toArray, List.map_cons, List.map_nil]); first | done | rfl | (simp only [List.length_drop, List.length_take]; rfl)) ?_; (with_reducible refine (quot_Div.calls kj23 a0 a1 a2 t475 t476 _ A30.out).mono ?_); rintro e w39 ⟨rfl, hb⟩; refine ⟨_, rfl, ?_⟩; have n0_ := Aside0.mk (below_step (by repeat (first | (with_reducible first | exact HB.out | apply below_alloc | apply pw_below_drewN | apply below_drew1) | exact HB.out)) hb); clear HB; have HB := n0_; clear n0_; (try clear hb); (try clear hb2); (try clear hk); (try clear hi)) | ((with_reducible refine gate_callee (f := 8) rfl ?_); refine goesL_ (some 101) rfl rfl Try.func8 (by kernel_rfl) rfl #[.int .u64 a0, .int .u64 (Go.bits .xor .u64 a1 9223372036854775808), .int .i64 a2] rfl (by (try simp only [List.map_toArray, List.map_cons, List.map_nil]); first | done | rfl | (simp only [List.length_drop, List.length_take]; rfl)) ?_; (with_reducible refine (quot_Div.calls kj23 a0 (Go.bits .xor .u64 a1 9223372036854775808) a2 t477 t478 _ A31.out).mono ?_); rintro e w40 ⟨rfl, hb⟩; refine ⟨_, rfl, ?_⟩; have n0_ := Aside0.mk (below_step (by repeat (first | (with_reducible first | exact HB.out | apply below_alloc | apply pw_below_drewN | apply below_drew1) | exact HB.out)) hb); clear HB; have HB := n0_; clear n0_; (try clear hb); (try clear hb2); (try clear hk); (try clear hi)))
                   go_ret
                   exact ⟨by first | rfl | (simp [errW_none, errW_some] <;> rfl) | (simp [*, errW_none, errW_some] <;> rfl), by repeat (first | (with_reducible first | exact HB.out | apply below_alloc | apply pw_below_drewN | apply below_drew1) | exact HB.out)⟩
               · rw [if_neg c33] at H
                 have c33b0 : (t477 == t475) = false := beq_eq_false_iff_ne.mpr c33
                 have c33b1 : (t477 != t475) = true := bne_iff_ne.mpr c33
                 by_cases c41 : (Go.bits .xor .u64 t475 9223372036854775808) = t477
                 · rw [if_pos c41] at H
                   have c41b0 : ((Go.bits .xor .u64 t475 9223372036854775808) == t477) = true := beq_iff_eq.mpr c41
                   have c41b1 : ((Go.bits .xor .u64 t475 9223372036854775808) != t477) = false := bne_eq_false_iff_eq.mpr c41
                   clear c41
                   by_cases c42 : t476 = t478
                   · rw [if_pos c42] at H
                     have c42b0 : (t476 == t478) = true := beq_iff_eq.mpr c42
                     have c42b1 : (t476 != t478) = false := bne_eq_false_iff_eq.mpr c42
                     clear c42
                     replace H := Option.bind_eq_some_iff.mp H
                     obtain ⟨t480, A430, H⟩ := H
                     replace H : (some t480) = some r := H
                     have A43 := Aside0.mk A430
                     clear A430
                     obtain rfl := Option.some.inj H
                     go_wp2_with (first | ((with_reducible refine gate_callee (f := 8) rfl ?_); refine goesL_ (some 93) rfl rfl Try.func8 (by kernel_rfl) rfl #[.int .u64 a0, .int .u64 a1, .int .i64 a2] rfl (by (try simp only [List.map_toArray, List.map_cons, List.map_nil]); first | done | rfl | (simp only [List.length_drop, List.length_take]; rfl)) ?_; (with_reducible refine (quot_Div.calls kj23 a0 a1 a2 t475 t476 _ A30.out).mono ?_); rintro e w44 ⟨rfl, hb⟩; refine ⟨_, rfl, ?_⟩; have n0_ := Aside0.mk (below_step (by repeat (first | (with_reducible first | exact HB.out | apply below_alloc | apply pw_below_drewN | apply below_drew1) | exact HB.out)) hb); clear HB; have HB := n0_; clear n0_; (try clear hb); (try clear hb2); (try clear hk); (try clear hi)) | ((with_reducible refine gate_callee (f := 8) rfl ?_); refine goesL_ (some 101) rfl rfl Try.func8 (by kernel_rfl) rfl #[.int .u64 a0, .int .u64 (Go.bits .xor .u64 a1 9223372036854775808), .int .i64 a2] rfl (by (try simp only [List.map_toArray, List.map_cons, List.map_nil]); first | done | rfl | (simp only [List.length_drop, List.length_take]; rfl)) ?_; (with_reducible refine (quot_Div.calls kj23 a0 (Go.bits .xor .u64 a1 9223372036854775808) a2 t477 t478 _ A31.out).mono ?_); rintro e w45 ⟨rfl, hb⟩; refine ⟨_, rfl, ?_⟩; have n0_ := Aside0.mk (below_step (by repeat (first | (with_reducible first | exact HB.out | apply below_alloc | apply pw_below_drewN | apply below_drew1) | exact HB.out)) hb); clear HB; have HB := n0_; clear n0_; (try clear hb); (try clear hb2); (try clear hk); (try clear hi)) | (go_at_call 10; (with_reducible refine (tillerlaw07_sure.calls kj23  t480 _ A43.out).mono ?_); rintro e w46 ⟨rfl, hb⟩; have n0_ := Aside0.mk (below_step (by repeat (first | (with_reducible first | exact HB.out | apply below_alloc | apply pw_below_drewN | apply below_drew1) | exact HB.out)) hb); clear HB; have HB := n0_; clear n0_; (try clear hb); (try clear hb2); (try clear hk); (try clear hi)))
                     go_ret
                     exact ⟨by first | rfl | (simp [errW_none, errW_some] <;> rfl) | (simp [*, errW_none, errW_some] <;> rfl), by repeat (first | (with_reducible first | exact HB.out | apply below_alloc | apply pw_below_drewN | apply below_drew1) | exact HB.out)⟩
                   · rw [if_neg c42] at H
                     have c42b0 : (t476 == t478) = false := beq_eq_false_iff_ne.mpr c42
                     have c42b1 : (t476 != t478) = true := bne_iff_ne.mpr c42
                     obtain rfl := Option.some.inj H
                     go_wp2_with (first | ((with_reducible refine gate_callee (f := 8) rfl ?_); refine goesL_ (some 93) rfl rfl Try.func8 (by kernel_rfl) rfl #[.int .u64 a0, .int .u64 a1, .int .i64 a2] rfl (by (try simp only [List.map_toArray, List.map_cons, List.map_nil]); first | done | rfl | (simp only [List.length_drop, List.length_take]; rfl)) ?_; (with_reducible refine (quot_Div.calls kj23 a0 a1 a2 t475 t476 _ A30.out).mono ?_); rintro e w47 ⟨rfl, hb⟩; refine ⟨_, rfl, ?_⟩; have n0_ := Aside0.mk (below_step (by repeat (first | (with_reducible first | exact HB.out | apply below_alloc | apply pw_below_drewN | apply below_drew1) | exact HB.out)) hb); clear HB; have HB := n0_; clear n0_; (try clear hb); (try clear hb2); (try clear hk); (try clear hi)) | ((with_reducible refine gate_callee (f := 8) rfl ?_); refine goesL_ (some 101) rfl rfl Try.func8 (by kernel_rfl) rfl #[.int .u64 a0, .int .u64 (Go.bits .xor .u64 a1 9223372036854775808), .int .i64 a2] rfl (by (try simp only [List.map_toArray, List.map_cons, List.map_nil]); first | done | rfl | (simp only [List.length_drop, List.length_take]; rfl)) ?_; (with_reducible refine (quot_Div.calls kj23 a0 (Go.bits .xor .u64 a1 9223372036854775808) a2 t477 t478 _ A31.out).mono ?_); rintro e w48 ⟨rfl, hb⟩; refine ⟨_, rfl, ?_⟩; have n0_ := Aside0.mk (below_step (by repeat (first | (with_reducible first | exact HB.out | apply below_alloc | apply pw_below_drewN | apply below_drew1) | exact HB.out)) hb); clear HB; have HB := n0_; clear n0_; (try clear hb); (try clear hb2); (try clear hk); (try clear hi)))
                     go_ret
                     exact ⟨by first | rfl | (simp [errW_none, errW_some] <;> rfl) | (simp [*, errW_none, errW_some] <;> rfl), by repeat (first | (with_reducible first | exact HB.out | apply below_alloc | apply pw_below_drewN | apply below_drew1) | exact HB.out)⟩
                 · rw [if_neg c41] at H
                   have c41b0 : ((Go.bits .xor .u64 t475 9223372036854775808) == t477) = false := beq_eq_false_iff_ne.mpr c41
                   have c41b1 : ((Go.bits .xor .u64 t475 9223372036854775808) != t477) = true := bne_iff_ne.mpr c41
                   obtain rfl := Option.some.inj H
                   go_wp2_with (first | ((with_reducible refine gate_callee (f := 8) rfl ?_); refine goesL_ (some 93) rfl rfl Try.func8 (by kernel_rfl) rfl #[.int .u64 a0, .int .u64 a1, .int .i64 a2] rfl (by (try simp only [List.map_toArray, List.map_cons, List.map_nil]); first | done | rfl | (simp only [List.length_drop, List.length_take]; rfl)) ?_; (with_reducible refine (quot_Div.calls kj23 a0 a1 a2 t475 t476 _ A30.out).mono ?_); rintro e w49 ⟨rfl, hb⟩; refine ⟨_, rfl, ?_⟩; have n0_ := Aside0.mk (below_step (by repeat (first | (with_reducible first | exact HB.out | apply below_alloc | apply pw_below_drewN | apply below_drew1) | exact HB.out)) hb); clear HB; have HB := n0_; clear n0_; (try clear hb); (try clear hb2); (try clear hk); (try clear hi)) | ((with_reducible refine gate_callee (f := 8) rfl ?_); refine goesL_ (some 101) rfl rfl Try.func8 (by kernel_rfl) rfl #[.int .u64 a0, .int .u64 (Go.bits .xor .u64 a1 9223372036854775808), .int .i64 a2] rfl (by (try simp only [List.map_toArray, List.map_cons, List.map_nil]); first | done | rfl | (simp only [List.length_drop, List.length_take]; rfl)) ?_; (with_reducible refine (quot_Div.calls kj23 a0 (Go.bits .xor .u64 a1 9223372036854775808) a2 t477 t478 _ A31.out).mono ?_); rintro e w50 ⟨rfl, hb⟩; refine ⟨_, rfl, ?_⟩; have n0_ := Aside0.mk (below_step (by repeat (first | (with_reducible first | exact HB.out | apply below_alloc | apply pw_below_drewN | apply below_drew1) | exact HB.out)) hb); clear HB; have HB := n0_; clear n0_; (try clear hb); (try clear hb2); (try clear hk); (try clear hi)))
                   go_ret
                   exact ⟨by first | rfl | (simp [errW_none, errW_some] <;> rfl) | (simp [*, errW_none, errW_some] <;> rfl), by repeat (first | (with_reducible first | exact HB.out | apply below_alloc | apply pw_below_drewN | apply below_drew1) | exact HB.out)⟩
             · rw [if_neg c32] at H
               have c32b0 : (t475 == 9221120237041090560) = false := beq_eq_false_iff_ne.mpr c32
               have c32b1 : (t475 != 9221120237041090560) = true := bne_iff_ne.mpr c32
               by_cases c51 : (Go.bits .xor .u64 t475 9223372036854775808) = t477
               · rw [if_pos c51] at H
                 have c51b0 : ((Go.bits .xor .u64 t475 9223372036854775808) == t477) = true := beq_iff_eq.mpr c51
                 have c51b1 : ((Go.bits .xor .u64 t475 9223372036854775808) != t477) = false := bne_eq_false_iff_eq.mpr c51
                 clear c51
                 by_cases c52 : t476 = t478
                 · rw [if_pos c52] at H
                   have c52b0 : (t476 == t478) = true := beq_iff_eq.mpr c52
                   have c52b1 : (t476 != t478) = false := bne_eq_false_iff_eq.mpr c52
                   clear c52
                   replace H := Option.bind_eq_some_iff.mp H
                   obtain ⟨t481, A530, H⟩ := H
                   replace H : (some t481) = some r := H
                   have A53 := Aside0.mk A530
                   clear A530
                   obtain rfl := Option.some.inj H
                   go_wp2_with (first | ((with_reducible refine gate_callee (f := 8) rfl ?_); refine goesL_ (some 93) rfl rfl Try.func8 (by kernel_rfl) rfl #[.int .u64 a0, .int .u64 a1, .int .i64 a2] rfl (by (try simp only [List.map_toArray, List.map_cons, List.map_nil]); first | done | rfl | (simp only [List.length_drop, List.length_take]; rfl)) ?_; (with_reducible refine (quot_Div.calls kj23 a0 a1 a2 t475 t476 _ A30.out).mono ?_); rintro e w54 ⟨rfl, hb⟩; refine ⟨_, rfl, ?_⟩; have n0_ := Aside0.mk (below_step (by repeat (first | (with_reducible first | exact HB.out | apply below_alloc | apply pw_below_drewN | apply below_drew1) | exact HB.out)) hb); clear HB; have HB := n0_; clear n0_; (try clear hb); (try clear hb2); (try clear hk); (try clear hi)) | ((with_reducible refine gate_callee (f := 8) rfl ?_); refine goesL_ (some 101) rfl rfl Try.func8 (by kernel_rfl) rfl #[.int .u64 a0, .int .u64 (Go.bits .xor .u64 a1 9223372036854775808), .int .i64 a2] rfl (by (try simp only [List.map_toArray, List.map_cons, List.map_nil]); first | done | rfl | (simp only [List.length_drop, List.length_take]; rfl)) ?_; (with_reducible refine (quot_Div.calls kj23 a0 (Go.bits .xor .u64 a1 9223372036854775808) a2 t477 t478 _ A31.out).mono ?_); rintro e w55 ⟨rfl, hb⟩; refine ⟨_, rfl, ?_⟩; have n0_ := Aside0.mk (below_step (by repeat (first | (with_reducible first | exact HB.out | apply below_alloc | apply pw_below_drewN | apply below_drew1) | exact HB.out)) hb); clear HB; have HB := n0_; clear n0_; (try clear hb); (try clear hb2); (try clear hk); (try clear hi)) | (go_at_call 10; (with_reducible refine (tillerlaw07_sure.calls kj23  t481 _ A53.out).mono ?_); rintro e w56 ⟨rfl, hb⟩; have n0_ := Aside0.mk (below_step (by repeat (first | (with_reducible first | exact HB.out | apply below_alloc | apply pw_below_drewN | apply below_drew1) | exact HB.out)) hb); clear HB; have HB := n0_; clear n0_; (try clear hb); (try clear hb2); (try clear hk); (try clear hi)))
                   go_ret
                   exact ⟨by first | rfl | (simp [errW_none, errW_some] <;> rfl) | (simp [*, errW_none, errW_some] <;> rfl), by repeat (first | (with_reducible first | exact HB.out | apply below_alloc | apply pw_below_drewN | apply below_drew1) | exact HB.out)⟩
                 · rw [if_neg c52] at H
                   have c52b0 : (t476 == t478) = false := beq_eq_false_iff_ne.mpr c52
                   have c52b1 : (t476 != t478) = true := bne_iff_ne.mpr c52
                   obtain rfl := Option.some.inj H
                   go_wp2_with (first | ((with_reducible refine gate_callee (f := 8) rfl ?_); refine goesL_ (some 93) rfl rfl Try.func8 (by kernel_rfl) rfl #[.int .u64 a0, .int .u64 a1, .int .i64 a2] rfl (by (try simp only [List.map_toArray, List.map_cons, List.map_nil]); first | done | rfl | (simp only [List.length_drop, List.length_take]; rfl)) ?_; (with_reducible refine (quot_Div.calls kj23 a0 a1 a2 t475 t476 _ A30.out).mono ?_); rintro e w57 ⟨rfl, hb⟩; refine ⟨_, rfl, ?_⟩; have n0_ := Aside0.mk (below_step (by repeat (first | (with_reducible first | exact HB.out | apply below_alloc | apply pw_below_drewN | apply below_drew1) | exact HB.out)) hb); clear HB; have HB := n0_; clear n0_; (try clear hb); (try clear hb2); (try clear hk); (try clear hi)) | ((with_reducible refine gate_callee (f := 8) rfl ?_); refine goesL_ (some 101) rfl rfl Try.func8 (by kernel_rfl) rfl #[.int .u64 a0, .int .u64 (Go.bits .xor .u64 a1 9223372036854775808), .int .i64 a2] rfl (by (try simp only [List.map_toArray, List.map_cons, List.map_nil]); first | done | rfl | (simp only [List.length_drop, List.length_take]; rfl)) ?_; (with_reducible refine (quot_Div.calls kj23 a0 (Go.bits .xor .u64 a1 9223372036854775808) a2 t477 t478 _ A31.out).mono ?_); rintro e w58 ⟨rfl, hb⟩; refine ⟨_, rfl, ?_⟩; have n0_ := Aside0.mk (below_step (by repeat (first | (with_reducible first | exact HB.out | apply below_alloc | apply pw_below_drewN | apply below_drew1) | exact HB.out)) hb); clear HB; have HB := n0_; clear n0_; (try clear hb); (try clear hb2); (try clear hk); (try clear hi)))
                   go_ret
                   exact ⟨by first | rfl | (simp [errW_none, errW_some] <;> rfl) | (simp [*, errW_none, errW_some] <;> rfl), by repeat (first | (with_reducible first | exact HB.out | apply below_alloc | apply pw_below_drewN | apply below_drew1) | exact HB.out)⟩
               · rw [if_neg c51] at H
                 have c51b0 : ((Go.bits .xor .u64 t475 9223372036854775808) == t477) = false := beq_eq_false_iff_ne.mpr c51
                 have c51b1 : ((Go.bits .xor .u64 t475 9223372036854775808) != t477) = true := bne_iff_ne.mpr c51
                 obtain rfl := Option.some.inj H
                 go_wp2_with (first | ((with_reducible refine gate_callee (f := 8) rfl ?_); refine goesL_ (some 93) rfl rfl Try.func8 (by kernel_rfl) rfl #[.int .u64 a0, .int .u64 a1, .int .i64 a2] rfl (by (try simp only [List.map_toArray, List.map_cons, List.map_nil]); first | done | rfl | (simp only [List.length_drop, List.length_take]; rfl)) ?_; (with_reducible refine (quot_Div.calls kj23 a0 a1 a2 t475 t476 _ A30.out).mono ?_); rintro e w59 ⟨rfl, hb⟩; refine ⟨_, rfl, ?_⟩; have n0_ := Aside0.mk (below_step (by repeat (first | (with_reducible first | exact HB.out | apply below_alloc | apply pw_below_drewN | apply below_drew1) | exact HB.out)) hb); clear HB; have HB := n0_; clear n0_; (try clear hb); (try clear hb2); (try clear hk); (try clear hi)) | ((with_reducible refine gate_callee (f := 8) rfl ?_); refine goesL_ (some 101) rfl rfl Try.func8 (by kernel_rfl) rfl #[.int .u64 a0, .int .u64 (Go.bits .xor .u64 a1 9223372036854775808), .int .i64 a2] rfl (by (try simp only [List.map_toArray, List.map_cons, List.map_nil]); first | done | rfl | (simp only [List.length_drop, List.length_take]; rfl)) ?_; (with_reducible refine (quot_Div.calls kj23 a0 (Go.bits .xor .u64 a1 9223372036854775808) a2 t477 t478 _ A31.out).mono ?_); rintro e w60 ⟨rfl, hb⟩; refine ⟨_, rfl, ?_⟩; have n0_ := Aside0.mk (below_step (by repeat (first | (with_reducible first | exact HB.out | apply below_alloc | apply pw_below_drewN | apply below_drew1) | exact HB.out)) hb); clear HB; have HB := n0_; clear n0_; (try clear hb); (try clear hb2); (try clear hk); (try clear hi)))
                 go_ret
                 exact ⟨by first | rfl | (simp [errW_none, errW_some] <;> rfl) | (simp [*, errW_none, errW_some] <;> rfl), by repeat (first | (with_reducible first | exact HB.out | apply below_alloc | apply pw_below_drewN | apply below_drew1) | exact HB.out)⟩

/-- THE ONE PURE STATEMENT of tillerlaw07_QuotBack: yours. -/
def tillerlaw07_QuotBack.Pure : Prop := ∀ (a0 : Int) (a1 : Int) (a2 : Int), (Lit.int .u64 a0).wf = true → (Lit.int .u64 a1).wf = true → (Lit.int .i64 a2).wf = true → ∃ k, tillerlaw07_QuotBack.f k a0 a1 a2 = some true
theorem tillerlaw07_QuotBack.walk (P : tillerlaw07_QuotBack.Pure) (a0 : Int) (a1 : Int) (a2 : Int) (w : World) (w0 : (Lit.int .u64 a0).wf = true) (w1 : (Lit.int .u64 a1).wf = true) (w2 : (Lit.int .i64 a2).wf = true) :
 Calls Try.prog 5 #[.int .u64 a0, .int .u64 a1, .int .i64 a2] w fun e w' => e = .returned (.bool true) ∧ Below w.heap.size w w' := by
 obtain ⟨k, h⟩ := P a0 a1 a2 w0 w1 w2
 refine (tillerlaw07_QuotBack.calls k a0 a1 a2 true w h).mono ?_
 rintro e w' ⟨rfl, hd⟩
 exact ⟨rfl, hd⟩

end Go.Proofs.Ytedjlpfggjcmfaa.X
