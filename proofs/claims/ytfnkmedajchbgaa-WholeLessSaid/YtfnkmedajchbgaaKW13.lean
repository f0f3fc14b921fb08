import Derived.Test.YtfnkmedajchbgaaKW4
import Derived.Test.YtfnkmedajchbgaaKWXwholeMod
import Derived.Test.YtfnkmedajchbgaaKWXwholeRem
import Derived.Test.YtfnkmedajchbgaaKW12
section
namespace Go.Proofs.Ytfnkmedajchbgaa.X
open Go.RowKit Go.Proofs.YtfnkmedajchbgaaW.PrintWords Go.Proofs.YtfnkmedajchbgaaW.PrintLast Go.Proofs.YtfnkmedajchbgaaW.PrintMore
attribute [local go_sem] max2_int min2_int max_two min_two max_three min_three max_four min_four   
set_option linter.unusedVariables false
set_option linter.unusedSimpArgs false
mutual
def tillerlaw08_WholeLess.j0 : Nat → Int → Int → Bool → Option (Bool)
 | 0, _, _, _ => none
 | k + 1, x0, x1, x22 => if x22 = true then ((tillerlaw08_sure.f k).bind fun q7 => (some q7)) else ((whole_Rem.f k x0 x1).bind fun q1 => ((whole_Mod.f k x0 x1).bind fun q2 => (if q1.2 = 0 then (if q2.2 = 0 then (if (Go.bits .and .u64 q2.1 9223372036854775808) = (Go.bits .and .u64 x0 9223372036854775808) then (if (Go.bits .andNot .u64 q2.1 9223372036854775808) ≥ (Go.bits .andNot .u64 x1 9223372036854775808) then (tillerlaw08_WholeLess.j1 k x1 q1.1 true) else (tillerlaw08_WholeLess.j1 k x1 q1.1 (decide ((Go.bits .andNot .u64 q1.1 9223372036854775808) ≥ (Go.bits .andNot .u64 x1 9223372036854775808))))) else (tillerlaw08_WholeLess.j1 k x1 q1.1 true)) else (tillerlaw08_WholeLess.j1 k x1 q1.1 true)) else (tillerlaw08_WholeLess.j1 k x1 q1.1 true))))
def tillerlaw08_WholeLess.j1 : Nat → Int → Int → Bool → Option (Bool)
 | 0, _, _, _ => none
 | k + 1, x1, x5, x62 => if x62 = true then (some false) else (if (Go.bits .and .u64 (x5 / 4503599627370496) 2047) = 0 then (if (IntKind.u64.wrap (2 * (Go.bits .andNot .u64 x5 9223372036854775808))) ≤ (Go.bits .andNot .u64 x1 9223372036854775808) then ((tillerlaw08_sure.f k).bind fun q8 => (some q8)) else (some false)) else (if (IntKind.u64.wrap ((Go.bits .andNot .u64 x5 9223372036854775808) + 4503599627370496)) ≤ (Go.bits .andNot .u64 x1 9223372036854775808) then ((tillerlaw08_sure.f k).bind fun q9 => (some q9)) else (some false)))
end
def tillerlaw08_WholeLess.f (k : Nat) (a0 : Int) (a1 : Int) : Option (Bool) := (r3_Finite.f a0).bind fun qa => (if qa = true then ((r3_Finite.f a1).bind fun q4 => (if q4 = true then (tillerlaw08_WholeLess.j0 k a0 a1 ((Go.bits .andNot .u64 a1 9223372036854775808) == 0)) else (tillerlaw08_WholeLess.j0 k a0 a1 true))) else (tillerlaw08_WholeLess.j0 k a0 a1 true))
theorem tillerlaw08_WholeLess.mono_l : ∀ k, (∀ y0 y1 y2, LeO (tillerlaw08_WholeLess.j0 k y0 y1 y2) (tillerlaw08_WholeLess.j0 (k + 1) y0 y1 y2)) ∧ (∀ y0 y1 y2, LeO (tillerlaw08_WholeLess.j1 k y0 y1 y2) (tillerlaw08_WholeLess.j1 (k + 1) y0 y1 y2))
 | 0 => ⟨fun _ _ _ r h => by simp [tillerlaw08_WholeLess.j0] at h, fun _ _ _ r h => by simp [tillerlaw08_WholeLess.j1] at h⟩
 | k + 1 => by
  obtain ⟨ih0, ih1⟩ := tillerlaw08_WholeLess.mono_l k; refine ⟨?_, ?_⟩
  · intro y0 y1 y2
    unfold tillerlaw08_WholeLess.j0
    repeat' first
    | (with_reducible exact ih0 _ _ _)
    | (with_reducible exact ih1 _ _ _)
    | (with_reducible exact tillerlaw08_sure.mono _)
    | (with_reducible exact whole_Mod.mono _ _ _)
    | (with_reducible exact whole_Rem.mono _ _ _)
    | (with_reducible exact LeO.refl _)
    | (with_reducible exact LeO.none _)
    | (with_reducible refine LeO.ite ?_ ?_)
    | (with_reducible refine LeO.bind ?_ (fun _ => ?_))
    | exact ih0 _ _ _
    | exact ih1 _ _ _
    | exact tillerlaw08_sure.mono _
    | exact whole_Mod.mono _ _ _
    | exact whole_Rem.mono _ _ _
    | exact LeO.none _
    | refine LeO.ite ?_ ?_
    | refine LeO.bind ?_ (fun _ => ?_)
  intro y0 y1 y2
  unfold tillerlaw08_WholeLess.j1
  repeat' first
  | (with_reducible exact ih0 _ _ _)
  | (with_reducible exact ih1 _ _ _)
  | (with_reducible exact tillerlaw08_sure.mono _)
  | (with_reducible exact whole_Mod.mono _ _ _)
  | (with_reducible exact whole_Rem.mono _ _ _)
  | (with_reducible exact LeO.refl _)
  | (with_reducible exact LeO.none _)
  | (with_reducible refine LeO.ite ?_ ?_)
  | (with_reducible refine LeO.bind ?_ (fun _ => ?_))
  | exact ih0 _ _ _
  | exact ih1 _ _ _
  | exact tillerlaw08_sure.mono _
  | exact whole_Mod.mono _ _ _
  | exact whole_Rem.mono _ _ _
  | exact LeO.none _
  | refine LeO.ite ?_ ?_
  | refine LeO.bind ?_ (fun _ => ?_)
theorem tillerlaw08_WholeLess.mono : ∀ a0 a1 k, LeO (tillerlaw08_WholeLess.f k a0 a1) (tillerlaw08_WholeLess.f (k + 1) a0 a1) := by
 intro a0 a1 k; obtain ⟨ih0, ih1⟩ := tillerlaw08_WholeLess.mono_l k
 unfold tillerlaw08_WholeLess.f
 repeat' first
  | (with_reducible exact ih0 _ _ _)
  | (with_reducible exact ih1 _ _ _)
  | (with_reducible exact tillerlaw08_sure.mono _)
  | (with_reducible exact whole_Mod.mono _ _ _)
  | (with_reducible exact whole_Rem.mono _ _ _)
  | (with_reducible exact LeO.refl _)
  | (with_reducible exact LeO.none _)
  | (with_reducible refine LeO.ite ?_ ?_)
  | (with_reducible refine LeO.bind ?_ (fun _ => ?_))
  | exact ih0 _ _ _
  | exact ih1 _ _ _
  | exact tillerlaw08_sure.mono _
  | exact whole_Mod.mono _ _ _
  | exact whole_Rem.mono _ _ _
  | exact LeO.none _
  | refine LeO.ite ?_ ?_
  | refine LeO.bind ?_ (fun _ => ?_)
set_option maxHeartbeats 8000000 in
set_option maxRecDepth 100000 in
theorem tillerlaw08_WholeLess.calls (k : Nat) (a0 : Int) (a1 : Int) (r : Bool) (w : World) (h : tillerlaw08_WholeLess.f k a0 a1 = some r) :
 Calls Try.prog 9 #[.int .u64 a0, .int .u64 a1] w fun e w' => e = .returned (.bool r) ∧ Below w.heap.size w w' := by
 have HB := Aside0.mk (Below.refl w.heap.size w); have H : ((r3_Finite.f a0).bind fun qa => (if qa = true then ((r3_Finite.f a1).bind fun q4 => (if q4 = true then (tillerlaw08_WholeLess.j0 k a0 a1 ((Go.bits .andNot .u64 a1 9223372036854775808) == 0)) else (tillerlaw08_WholeLess.j0 k a0 a1 true))) else (tillerlaw08_WholeLess.j0 k a0 a1 true))) = some r := h; clear h; have HC3 := Aside0.mk H; clear H
 go_enter Try.func9, Try.ntmps9
 go_upto_region 1 with (fail)
 go_cut [22] (fun v22 wc => ∃ (kq : Nat) (qc : Bool), v22 = .bool qc ∧ Aside0 (tillerlaw08_WholeLess.j0 kq a0 a1 qc = some r) ∧ Aside0 (kq ≤ k) ∧ Aside0 (Below w.heap.size w wc))
 case first =>
  have H := HC3.out; clear HC3; replace H := Option.bind_eq_some_iff.mp H; obtain ⟨qa, A40, H⟩ := H; replace H : (if qa = true then ((r3_Finite.f a1).bind fun q4 => (if q4 = true then (tillerlaw08_WholeLess.j0 k a0 a1 ((Go.bits .andNot .u64 a1 9223372036854775808) == 0)) else (tillerlaw08_WholeLess.j0 k a0 a1 true))) else (tillerlaw08_WholeLess.j0 k a0 a1 true)) = some r := H; have A4 := Aside0.mk A40; clear A40
  by_cases c5 : qa = true
  · subst c5
    have H1 : ((r3_Finite.f a1).bind fun q4 => (if q4 = true then (tillerlaw08_WholeLess.j0 k a0 a1 ((Go.bits .andNot .u64 a1 9223372036854775808) == 0)) else (tillerlaw08_WholeLess.j0 k a0 a1 true))) = some r := by rw [if_pos rfl] at H; exact H
    clear H; have H := H1; clear H1; replace H := Option.bind_eq_some_iff.mp H; obtain ⟨q4, A60, H⟩ := H; replace H : (if q4 = true then (tillerlaw08_WholeLess.j0 k a0 a1 ((Go.bits .andNot .u64 a1 9223372036854775808) == 0)) else (tillerlaw08_WholeLess.j0 k a0 a1 true)) = some r := H; have A6 := Aside0.mk A60; clear A60
    by_cases c7 : q4 = true
    · subst c7
      have H1 : (tillerlaw08_WholeLess.j0 k a0 a1 ((Go.bits .andNot .u64 a1 9223372036854775808) == 0)) = some r := by rw [if_pos rfl] at H; exact H
      clear H; have H := H1; clear H1; have H' := Aside0.mk H; clear H
      go_wp2_with (first | ((with_reducible refine gate_callee (f := 23) rfl ?_); refine goesL_ (some 11) rfl rfl Try.func23 (by kernel_rfl) rfl #[.int .u64 a0] rfl LMq ?_; (with_reducible refine (r3_Finite.calls a0 true _ A4.out).mono ?_); rintro e w8 ⟨rfl, hb⟩; refine ⟨_, rfl, ?_⟩; replace HB := Aside0.mk (below_step (kH HB) hb); (try clear hb); (try clear hb2); (try clear hk); (try clear hi)) | (go_at_call 23; (with_reducible refine (r3_Finite.calls a1 true _ A6.out).mono ?_); rintro e w9 ⟨rfl, hb⟩; replace HB := Aside0.mk (below_step (kH HB) hb); (try clear hb); (try clear hb2); (try clear hk); (try clear hi)))
      go_meet
      case rel => exact ⟨_, (((Go.bits .andNot .u64 a1 9223372036854775808) == 0)), RSq, (by first | exact H' | (subst_vars; exact H')), ⟨by first | omega | exact Nat.le_refl _⟩, ⟨kH HB⟩⟩
    replace c7 := Bool.eq_false_iff.mpr c7; subst c7
    have H1 : (tillerlaw08_WholeLess.j0 k a0 a1 true) = some r := by rw [if_neg (show ¬ (false = true) by decide)] at H; exact H
    clear H; have H := H1; clear H1; have H' := Aside0.mk H; clear H
    go_wp2_with (first | ((with_reducible refine gate_callee (f := 23) rfl ?_); refine goesL_ (some 11) rfl rfl Try.func23 (by kernel_rfl) rfl #[.int .u64 a0] rfl LMq ?_; (with_reducible refine (r3_Finite.calls a0 true _ A4.out).mono ?_); rintro e w10 ⟨rfl, hb⟩; refine ⟨_, rfl, ?_⟩; replace HB := Aside0.mk (below_step (kH HB) hb); (try clear hb); (try clear hb2); (try clear hk); (try clear hi)) | (go_at_call 23; (with_reducible refine (r3_Finite.calls a1 false _ A6.out).mono ?_); rintro e w11 ⟨rfl, hb⟩; replace HB := Aside0.mk (below_step (kH HB) hb); (try clear hb); (try clear hb2); (try clear hk); (try clear hi)))
    go_meet
    case rel => exact ⟨_, (true), RSq, (by first | exact H' | (subst_vars; exact H')), ⟨by first | omega | exact Nat.le_refl _⟩, ⟨kH HB⟩⟩
  replace c5 := Bool.eq_false_iff.mpr c5; subst c5
  have H1 : (tillerlaw08_WholeLess.j0 k a0 a1 true) = some r := by rw [if_neg (show ¬ (false = true) by decide)] at H; exact H
  clear H; have H := H1; clear H1; have H' := Aside0.mk H; clear H
  go_wp2_with (first | ((with_reducible refine gate_callee (f := 23) rfl ?_); refine goesL_ (some 11) rfl rfl Try.func23 (by kernel_rfl) rfl #[.int .u64 a0] rfl LMq ?_; (with_reducible refine (r3_Finite.calls a0 false _ A4.out).mono ?_); rintro e w12 ⟨rfl, hb⟩; refine ⟨_, rfl, ?_⟩; replace HB := Aside0.mk (below_step (kH HB) hb); (try clear hb); (try clear hb2); (try clear hk); (try clear hi)))
  go_meet
  case rel => exact ⟨_, (true), RSq, (by first | exact H' | (subst_vars; exact H')), ⟨by first | omega | exact Nat.le_refl _⟩, ⟨kH HB⟩⟩
 case rest =>
  clear HC3; (try clear c2); (try clear p2); (try clear c5); (try clear p6); (try clear c7); (try clear c9); obtain ⟨kq, qc, rfl, HA, HJ2, HB⟩ := hcut
  cases kq with
  | zero => exact absurd HA.out (by simp [tillerlaw08_WholeLess.j0])
  | succ kj2 =>
   have H := HA.out; clear HA
   simp only [tillerlaw08_WholeLess.j0] at H
   by_cases c13 : qc = true
   · subst c13
     have H1 : ((tillerlaw08_sure.f kj2).bind fun q7 => (some q7)) = some r := by rw [if_pos rfl] at H; exact H
     clear H; have H := H1; clear H1; replace H := Option.bind_eq_some_iff.mp H; obtain ⟨q7, qg, H⟩ := H; replace H : (some q7) = some r := H; have A14 := Aside0.mk qg; clear qg; obtain rfl := Option.some.inj H
     go_wp2_with (first | ((with_reducible refine gate_callee (f := 20) rfl ?_); refine goesL_ (some 23) rfl rfl Try.func20 (by kernel_rfl) rfl #[] rfl LMq ?_; (with_reducible refine (tillerlaw08_sure.calls kj2  q7 _ A14.out).mono ?_); rintro e w15 ⟨rfl, hb⟩; refine ⟨_, rfl, ?_⟩; replace HB := Aside0.mk (below_step (kH HB) hb); (try clear hb); (try clear hb2); (try clear hk); (try clear hi)))
     go_ret
     exact ⟨by first | rfl | (simp [errW_none, errW_some] <;> rfl) | (simp [*, errW_none, errW_some] <;> rfl), kH HB⟩
   replace c13 := Bool.eq_false_iff.mpr c13; subst c13
   have H1 : ((whole_Rem.f kj2 a0 a1).bind fun q1 => ((whole_Mod.f kj2 a0 a1).bind fun q2 => (if q1.2 = 0 then (if q2.2 = 0 then (if (Go.bits .and .u64 q2.1 9223372036854775808) = (Go.bits .and .u64 a0 9223372036854775808) then (if (Go.bits .andNot .u64 q2.1 9223372036854775808) ≥ (Go.bits .andNot .u64 a1 9223372036854775808) then (tillerlaw08_WholeLess.j1 kj2 a1 q1.1 true) else (tillerlaw08_WholeLess.j1 kj2 a1 q1.1 (decide ((Go.bits .andNot .u64 q1.1 9223372036854775808) ≥ (Go.bits .andNot .u64 a1 9223372036854775808))))) else (tillerlaw08_WholeLess.j1 kj2 a1 q1.1 true)) else (tillerlaw08_WholeLess.j1 kj2 a1 q1.1 true)) else (tillerlaw08_WholeLess.j1 kj2 a1 q1.1 true)))) = some r := by rw [if_neg (show ¬ (false = true) by decide)] at H; exact H
   clear H; have H := H1; clear H1; replace H := Option.bind_eq_some_iff.mp H; obtain ⟨⟨q0, q5⟩, qh, H⟩ := H; replace H : ((whole_Mod.f kj2 a0 a1).bind fun q2 => (if q5 = 0 then (if q2.2 = 0 then (if (Go.bits .and .u64 q2.1 9223372036854775808) = (Go.bits .and .u64 a0 9223372036854775808) then (if (Go.bits .andNot .u64 q2.1 9223372036854775808) ≥ (Go.bits .andNot .u64 a1 9223372036854775808) then (tillerlaw08_WholeLess.j1 kj2 a1 q0 true) else (tillerlaw08_WholeLess.j1 kj2 a1 q0 (decide ((Go.bits .andNot .u64 q0 9223372036854775808) ≥ (Go.bits .andNot .u64 a1 9223372036854775808))))) else (tillerlaw08_WholeLess.j1 kj2 a1 q0 true)) else (tillerlaw08_WholeLess.j1 kj2 a1 q0 true)) else (tillerlaw08_WholeLess.j1 kj2 a1 q0 true))) = some r := H; have A16 := Aside0.mk qh; clear qh; replace H := Option.bind_eq_some_iff.mp H; obtain ⟨⟨q3, q6⟩, qi, H⟩ := H; replace H : (if q5 = 0 then (if q6 = 0 then (if (Go.bits .and .u64 q3 9223372036854775808) = (Go.bits .and .u64 a0 9223372036854775808) then (if (Go.bits .andNot .u64 q3 9223372036854775808) ≥ (Go.bits .andNot .u64 a1 9223372036854775808) then (tillerlaw08_WholeLess.j1 kj2 a1 q0 true) else (tillerlaw08_WholeLess.j1 kj2 a1 q0 (decide ((Go.bits .andNot .u64 q0 9223372036854775808) ≥ (Go.bits .andNot .u64 a1 9223372036854775808))))) else (tillerlaw08_WholeLess.j1 kj2 a1 q0 true)) else (tillerlaw08_WholeLess.j1 kj2 a1 q0 true)) else (tillerlaw08_WholeLess.j1 kj2 a1 q0 true)) = some r := H; have A17 := Aside0.mk qi; clear qi; have qf := Aside0.mk H; clear H
   go_upto_region 5 with (first | ((with_reducible refine gate_callee (f := 17) rfl ?_); refine goesL_ (some 27) rfl rfl Try.func17 (by kernel_rfl) rfl #[.int .u64 a0, .int .u64 a1] rfl LMq ?_; (with_reducible refine (whole_Rem.calls kj2 a0 a1 q0 q5 _ A16.out).mono ?_); rintro e w19 ⟨rfl, hb⟩; refine ⟨_, rfl, ?_⟩; replace HB := Aside0.mk (below_step (kH HB) hb); (try clear hb); (try clear hb2); (try clear hk); (try clear hi)) | ((with_reducible refine gate_callee (f := 19) rfl ?_); refine goesL_ (some 33) rfl rfl Try.func19 (by kernel_rfl) rfl #[.int .u64 a0, .int .u64 a1] rfl LMq ?_; (with_reducible refine (whole_Mod.calls kj2 a0 a1 q3 q6 _ A17.out).mono ?_); rintro e w20 ⟨rfl, hb⟩; refine ⟨_, rfl, ?_⟩; replace HB := Aside0.mk (below_step (kH HB) hb); (try clear hb); (try clear hb2); (try clear hk); (try clear hi)))
   (try simp only [Act.put, List.setIfInBounds_toArray, List.set_cons_zero, List.set_cons_succ])
   go_cut [62] (fun v62 wc => ∃ (kq : Nat) (qd : Bool), v62 = .bool qd ∧ Aside0 (tillerlaw08_WholeLess.j1 kq a1 q0 qd = some r) ∧ Aside0 (kq ≤ kj2) ∧ Aside0 (Below w.heap.size w wc))
   case first =>
    have H := qf.out; clear qf
    by_cases c21 : q5 = 0
    · rw [if_pos c21] at H
      have qb : (q5 == 0) = true := beq_iff_eq.mpr c21; have qj : (q5 != 0) = false := bne_eq_false_iff_eq.mpr c21; clear c21
      (first | rw [qb] | (simp only [i64_w, i32_w]; rw [qb]) | skip)
      by_cases c22 : q6 = 0
      · rw [if_pos c22] at H
        have qk : (q6 == 0) = true := beq_iff_eq.mpr c22; have ql : (q6 != 0) = false := bne_eq_false_iff_eq.mpr c22; clear c22
        by_cases c23 : (Go.bits .and .u64 q3 9223372036854775808) = (Go.bits .and .u64 a0 9223372036854775808)
        · rw [if_pos c23] at H
          have qm : ((Go.bits .and .u64 q3 9223372036854775808) == (Go.bits .and .u64 a0 9223372036854775808)) = true := beq_iff_eq.mpr c23; have qn : ((Go.bits .and .u64 q3 9223372036854775808) != (Go.bits .and .u64 a0 9223372036854775808)) = false := bne_eq_false_iff_eq.mpr c23; clear c23
          by_cases c24 : (Go.bits .andNot .u64 q3 9223372036854775808) ≥ (Go.bits .andNot .u64 a1 9223372036854775808)
          · rw [if_pos c24] at H
            have qo : decide ((Go.bits .andNot .u64 a1 9223372036854775808) ≤ (Go.bits .andNot .u64 q3 9223372036854775808)) = true := decide_eq_true c24; clear c24; have H' := Aside0.mk H; clear H
            go_wp2
            go_meet
            case rel => exact ⟨_, (true), RSq, (by first | exact H' | (subst_vars; exact H')), ⟨by have := HJ2.out; first | omega | exact Nat.le_refl _⟩, ⟨kH HB⟩⟩
          rw [if_neg c24] at H
          have qo : decide ((Go.bits .andNot .u64 a1 9223372036854775808) ≤ (Go.bits .andNot .u64 q3 9223372036854775808)) = false := decide_eq_false c24; clear c24; have H' := Aside0.mk H; clear H
          go_wp2
          go_meet
          case rel => exact ⟨_, (decide ((Go.bits .andNot .u64 q0 9223372036854775808) ≥ (Go.bits .andNot .u64 a1 9223372036854775808))), RSq, (by first | exact H' | (subst_vars; exact H')), ⟨by have := HJ2.out; first | omega | exact Nat.le_refl _⟩, ⟨kH HB⟩⟩
        rw [if_neg c23] at H
        have qm : ((Go.bits .and .u64 q3 9223372036854775808) == (Go.bits .and .u64 a0 9223372036854775808)) = false := beq_eq_false_iff_ne.mpr c23; have qn : ((Go.bits .and .u64 q3 9223372036854775808) != (Go.bits .and .u64 a0 9223372036854775808)) = true := bne_iff_ne.mpr c23; have H' := Aside0.mk H; clear H
        go_wp2
        go_meet
        case rel => exact ⟨_, (true), RSq, (by first | exact H' | (subst_vars; exact H')), ⟨by have := HJ2.out; first | omega | exact Nat.le_refl _⟩, ⟨kH HB⟩⟩
      rw [if_neg c22] at H
      have qk : (q6 == 0) = false := beq_eq_false_iff_ne.mpr c22; have ql : (q6 != 0) = true := bne_iff_ne.mpr c22; have H' := Aside0.mk H; clear H
      go_wp2
      go_meet
      case rel => exact ⟨_, (true), RSq, (by first | exact H' | (subst_vars; exact H')), ⟨by have := HJ2.out; first | omega | exact Nat.le_refl _⟩, ⟨kH HB⟩⟩
    rw [if_neg c21] at H
    have qb : (q5 == 0) = false := beq_eq_false_iff_ne.mpr c21; have qj : (q5 != 0) = true := bne_iff_ne.mpr c21
    (first | rw [qb] | (simp only [i64_w, i32_w]; rw [qb]) | skip)
    have H' := Aside0.mk H; clear H
    go_wp2
    go_meet
    case rel => exact ⟨_, (true), RSq, (by first | exact H' | (subst_vars; exact H')), ⟨by have := HJ2.out; first | omega | exact Nat.le_refl _⟩, ⟨kH HB⟩⟩
   case rest =>
    clear qf; (try clear c1); (try clear c2); (try clear p2); (try clear c5); (try clear p6); (try clear c7); (try clear c9); (try clear c13); (try clear c17); (try clear c19); (try clear c20); (try clear c21); (try clear qb); (try clear qj); (try clear c22); (try clear qk); (try clear ql); (try clear c23); (try clear qm); (try clear qn); (try clear c24); (try clear qo); (try clear p2); (try clear p6); obtain ⟨kq, qd, rfl, HA, HJ17, HB⟩ := hcut
    cases kq with
    | zero => exact absurd HA.out (by simp [tillerlaw08_WholeLess.j1])
    | succ qe =>
     have H := HA.out; clear HA
     simp only [tillerlaw08_WholeLess.j1] at H
     by_cases c25 : qd = true
     · subst c25
       have H1 : (some false) = some r := by rw [if_pos rfl] at H; exact H
       clear H; have H := H1; clear H1; obtain rfl := Option.some.inj H
       go_wp2
       go_ret
       exact ⟨by first | rfl | (simp [errW_none, errW_some] <;> rfl) | (simp [*, errW_none, errW_some] <;> rfl), kH HB⟩
     replace c25 := Bool.eq_false_iff.mpr c25; subst c25
     have H1 : (if (Go.bits .and .u64 (q0 / 4503599627370496) 2047) = 0 then (if (IntKind.u64.wrap (2 * (Go.bits .andNot .u64 q0 9223372036854775808))) ≤ (Go.bits .andNot .u64 a1 9223372036854775808) then ((tillerlaw08_sure.f qe).bind fun q8 => (some q8)) else (some false)) else (if (IntKind.u64.wrap ((Go.bits .andNot .u64 q0 9223372036854775808) + 4503599627370496)) ≤ (Go.bits .andNot .u64 a1 9223372036854775808) then ((tillerlaw08_sure.f qe).bind fun q9 => (some q9)) else (some false))) = some r := by rw [if_neg (show ¬ (false = true) by decide)] at H; exact H
     clear H; have H := H1; clear H1
     by_cases c26 : (Go.bits .and .u64 (q0 / 4503599627370496) 2047) = 0
     · rw [if_pos c26] at H
       have qr : ((Go.bits .and .u64 (q0 / 4503599627370496) 2047) == 0) = true := beq_iff_eq.mpr c26; have qs : ((Go.bits .and .u64 (q0 / 4503599627370496) 2047) != 0) = false := bne_eq_false_iff_eq.mpr c26; clear c26
       by_cases c27 : (IntKind.u64.wrap (2 * (Go.bits .andNot .u64 q0 9223372036854775808))) ≤ (Go.bits .andNot .u64 a1 9223372036854775808)
       · rw [if_pos c27] at H
         have qt : decide ((IntKind.u64.wrap (2 * (Go.bits .andNot .u64 q0 9223372036854775808))) ≤ (Go.bits .andNot .u64 a1 9223372036854775808)) = true := decide_eq_true c27; clear c27; replace H := Option.bind_eq_some_iff.mp H; obtain ⟨q8, qp, H⟩ := H; replace H : (some q8) = some r := H; have A28 := Aside0.mk qp; clear qp; obtain rfl := Option.some.inj H
         go_wp2_with (first | (go_at_call 20; (with_reducible refine (tillerlaw08_sure.calls qe  q8 _ A28.out).mono ?_); rintro e w29 ⟨rfl, hb⟩; replace HB := Aside0.mk (below_step (kH HB) hb); (try clear hb); (try clear hb2); (try clear hk); (try clear hi)))
         go_ret
         exact ⟨by first | rfl | (simp [errW_none, errW_some] <;> rfl) | (simp [*, errW_none, errW_some] <;> rfl), kH HB⟩
       rw [if_neg c27] at H
       have qt : decide ((IntKind.u64.wrap (2 * (Go.bits .andNot .u64 q0 9223372036854775808))) ≤ (Go.bits .andNot .u64 a1 9223372036854775808)) = false := decide_eq_false c27; clear c27; obtain rfl := Option.some.inj H
       go_wp2
       go_ret
       exact ⟨by first | rfl | (simp [errW_none, errW_some] <;> rfl) | (simp [*, errW_none, errW_some] <;> rfl), kH HB⟩
     rw [if_neg c26] at H
     have qr : ((Go.bits .and .u64 (q0 / 4503599627370496) 2047) == 0) = false := beq_eq_false_iff_ne.mpr c26; have qs : ((Go.bits .and .u64 (q0 / 4503599627370496) 2047) != 0) = true := bne_iff_ne.mpr c26
     by_cases c30 : (IntKind.u64.wrap ((Go.bits .andNot .u64 q0 9223372036854775808) + 4503599627370496)) ≤ (Go.bits .andNot .u64 a1 9223372036854775808)
     · rw [if_pos c30] at H
       have qu : decide ((IntKind.u64.wrap ((Go.bits .andNot .u64 q0 9223372036854775808) + 4503599627370496)) ≤ (Go.bits .andNot .u64 a1 9223372036854775808)) = true := decide_eq_true c30; clear c30; replace H := Option.bind_eq_some_iff.mp H; obtain ⟨q9, qq, H⟩ := H; replace H : (some q9) = some r := H; have A31 := Aside0.mk qq; clear qq; obtain rfl := Option.some.inj H
       go_wp2_with (first | (go_at_call 20; (with_reducible refine (tillerlaw08_sure.calls qe  q9 _ A31.out).mono ?_); rintro e w32 ⟨rfl, hb⟩; replace HB := Aside0.mk (below_step (kH HB) hb); (try clear hb); (try clear hb2); (try clear hk); (try clear hi)))
       go_ret
       exact ⟨by first | rfl | (simp [errW_none, errW_some] <;> rfl) | (simp [*, errW_none, errW_some] <;> rfl), kH HB⟩
     rw [if_neg c30] at H
     have qu : decide ((IntKind.u64.wrap ((Go.bits .andNot .u64 q0 9223372036854775808) + 4503599627370496)) ≤ (Go.bits .andNot .u64 a1 9223372036854775808)) = false := decide_eq_false c30; clear c30; obtain rfl := Option.some.inj H
     go_wp2
     go_ret
     exact ⟨by first | rfl | (simp [errW_none, errW_some] <;> rfl) | (simp [*, errW_none, errW_some] <;> rfl), kH HB⟩
def tillerlaw08_WholeLess.Pure : Prop := ∀ (a0 : Int) (a1 : Int), (Lit.int .u64 a0).wf = true → (Lit.int .u64 a1).wf = true → ∃ k, tillerlaw08_WholeLess.f k a0 a1 = some true
theorem tillerlaw08_WholeLess.walk (P : tillerlaw08_WholeLess.Pure) (a0 : Int) (a1 : Int) (w : World) (w0 : (Lit.int .u64 a0).wf = true) (w1 : (Lit.int .u64 a1).wf = true) :
 Calls Try.prog 9 #[.int .u64 a0, .int .u64 a1] w fun e w' => e = .returned (.bool true) ∧ Below w.heap.size w w' := by
 obtain ⟨k, h⟩ := P a0 a1 w0 w1; refine (tillerlaw08_WholeLess.calls k a0 a1 true w h).mono ?_; rintro e w' ⟨rfl, hd⟩; exact ⟨rfl, hd⟩
end Go.Proofs.Ytfnkmedajchbgaa.X
end
section
namespace Go.Proofs.Ytfnkmedajchbgaa
set_option linter.unusedVariables false
set_option linter.unusedSimpArgs false
open Go.RowKit X
theorem wRem_size {a b : Int} (hb : 0 < pS b) (hb3 : pC b < 3) : ∃ p c, 0 ≤ p ∧ p < 9218868437227405312 ∧ pC p < 3 ∧ 2 * pV p ≤ pV b ∧ wRem a b = (p + sg c, 0) := by
  unfold wRem
  by_cases hf : wFlip a b = true
  · obtain ⟨p, p0, p1, p2, p3, _, p5⟩ := wRem_val (a := a) hb hf
    rw [if_pos hf]
    exact ⟨p, _, p0, p1, p2, p3, p5 _ _⟩
  · obtain ⟨p, p0, p1, p2, p3, p4⟩ := wMod_val (a := a) hb
    rw [if_neg hf]
    exact ⟨p, _, p0, p1, p2, by rw [p3]; exact noflip_val (Bool.eq_false_iff.mpr hf), p4 _ _⟩
theorem less_j1 (k : Nat) {b p : Int} (c : Bool) (hb : U b) (p0 : 0 ≤ p) (p1 : p < 9218868437227405312) (p2 : pC p < 3) (hb3 : pC b < 3) (h : 2 * pV p ≤ pV b) : tillerlaw08_WholeLess.j1 (k + 37) b (p + sg c) false = some true := by
  have hU := sgU p0 (by omega) c
  obtain ⟨e1, e2⟩ := EF_inj (sgAA p c)
  have hA := sgA p0 (by omega) c
  have ht := twice_le p2 hb3 h
  have hb2 := pA_bd b
  rw [pA_self p0 (by omega)] at ht
  simp only [tillerlaw08_WholeLess.j1]
  have eE : bits .and .u64 ((p + sg c) / 4503599627370496) 2047 = pE p := by
    rw [← e1]
    unfold U at hU
    have := bits_mask .u64 64 (by decide) (fun n h0 h1 => by rw [IntKind.wrap_u64]; omega) 11 (by decide) ((p + sg c) / 4503599627370496) (by omega) (by omega)
    exact this
  rw [if_neg (by decide), eE, bandnot_M _ hU, hA, bandnot_M b hb, sure08 k]
  by_cases z : pE p = 0
  · rw [if_pos z] at ht ⊢
    rw [show IntKind.u64.wrap (2 * p) = 2 * p by rw [IntKind.wrap_u64]; omega, if_pos ht]
    rfl
  · rw [if_neg z] at ht ⊢
    rw [show IntKind.u64.wrap (p + 4503599627370496) = p + 4503599627370496 by rw [IntKind.wrap_u64]; omega, if_pos ht]
    rfl
theorem less_j0 (k : Nat) {a b : Int} (ha : U a) (hb : U b) (ha3 : pC a < 3) (hb3 : pC b < 3) (hb0 : pC b ≠ 0) : tillerlaw08_WholeLess.j0 (k + 38) a b false = some true := by
  have hs := pS_pos b hb0 (by omega)
  have hVb : 0 < pV b := by
    have := (pV_zero hb3)
    have z := zero_iff (a := b)
    rcases Nat.eq_zero_or_pos (pV b) with g | g
    · exact absurd (z.1 (this.1 g)) hb0
    · exact g
  have key : ∃ p c q, 0 ≤ p ∧ p < 9218868437227405312 ∧ pC p < 3 ∧ 2 * pV p ≤ pV b ∧ 0 ≤ q ∧ q < 9218868437227405312 ∧ pC q < 3 ∧ pV q < pV b ∧ qRests a b (wRem a b) = (p + sg c, 0) ∧ qRests a b (wMod a b) = (q + sg (pM a), 0) := by
    by_cases z : pC a = 0
    · have e : a = 0 + sg (pM a) := by have := pA_sg ha; rw [zero_iff.2 z] at this; exact this
      have z0 : pV 0 = 0 := by decide
      refine ⟨0, pM a, 0, by omega, by omega, by decide, by omega, by omega, by omega, by decide, by omega, ?_, ?_⟩
      · unfold qRests
        rw [if_neg (by omega), if_neg (by omega), if_pos (.inr z), ← e]
      · unfold qRests
        rw [if_neg (by omega), if_neg (by omega), if_pos (.inr z), ← e]
    · obtain ⟨p, c, p0, p1, p2, p3, p4⟩ := wRem_size (a := a) hs hb3
      obtain ⟨q, q0, q1, q2, q3, q4⟩ := wMod_val (a := a) hs
      refine ⟨p, c, q, p0, p1, p2, p3, q0, q1, q2, by rw [q3]; exact Nat.mod_lt _ hVb, ?_, ?_⟩
      · unfold qRests
        rw [if_neg (by omega), if_neg (by omega), if_neg (by omega)]
        exact p4
      · unfold qRests
        rw [if_neg (by omega), if_neg (by omega), if_neg (by omega)]
        exact q4 _ _
  obtain ⟨p, c, q, p0, p1, p2, p3, q0, q1, q2, q3, e1, e2⟩ := key
  have hUp := sgU p0 (by omega) c
  have hUq := sgU q0 (by omega) (pM a)
  have lq : q < pA b := by have := (pV_lt_iff q2 hb3).1 q3; rw [pA_self q0 (by omega)] at this; exact this
  have lp : p < pA b := by have := (pV_lt_iff p2 hb3).1 (by omega); rw [pA_self p0 (by omega)] at this; exact this
  simp only [tillerlaw08_WholeLess.j0]
  rw [if_neg (by decide), rem_spec (k + 1) ha hb, Option.bind_some, mod_spec (k + 1) ha hb, Option.bind_some, e1, e2]
  dsimp only
  rw [if_pos rfl, if_pos rfl, band_sg _ hUq, band_sg _ ha, sgM q0 (by omega), if_pos rfl, bandnot_M _ hUq, bandnot_M b hb, sgA q0 (by omega), if_neg (by omega), bandnot_M _ hUp, sgA p0 (by omega), decide_eq_false (by omega)]
  exact less_j1 k c hb p0 p1 p2 hb3 p3
theorem WholeLess : tillerlaw08_WholeLess.Pure := by
  intro a b w0 w1
  have ha := U_wf w0
  have hb := U_wf w1
  refine ⟨38, ?_⟩
  have t : tillerlaw08_WholeLess.j0 38 a b true = some true := by
    simp only [tillerlaw08_WholeLess.j0]
    rw [if_pos trivial, sure08 1]
    rfl
  unfold tillerlaw08_WholeLess.f
  rw [r3_Finite.eq a (inU_of ha), Option.bind_some]
  by_cases c1 : pC a < 3
  · rw [decide_eq_true c1, if_pos rfl, r3_Finite.eq b (inU_of hb), Option.bind_some]
    by_cases c2 : pC b < 3
    · rw [decide_eq_true c2, if_pos rfl, bandnot_M b hb]
      by_cases z : pA b = 0
      · rw [beq_iff_eq.mpr z]; exact t
      · rw [beq_eq_false_iff_ne.mpr z]
        exact less_j0 0 ha hb c1 c2 (fun h => z (zero_iff.2 h))
    · rw [decide_eq_false c2, if_neg (by decide)]; exact t
  · rw [decide_eq_false c1, if_neg (by decide)]; exact t
end Go.Proofs.Ytfnkmedajchbgaa
end
section
namespace Go.Proofs.Ytfnkmedajchbgaa.Pure
set_option linter.unusedVariables false
set_option linter.unusedSimpArgs false
theorem WholeLess : Go.Proofs.Ytfnkmedajchbgaa.X.tillerlaw08_WholeLess.Pure := Go.Proofs.Ytfnkmedajchbgaa.WholeLess
end Go.Proofs.Ytfnkmedajchbgaa.Pure
end
