import Derived.Test.YthcgeekibomhiaaKM6
import Derived.Test.YthcgeekibomhiaaKMXtillerref02Shr
namespace Go.Proofs.Ythcgeekibomhiaa.X
open Go.RowKit Go.Proofs.YthcgeekibomhiaaW.PrintWords Go.Proofs.YthcgeekibomhiaaW.PrintLast Go.Proofs.YthcgeekibomhiaaW.PrintMore
attribute [local go_sem] max2_int min2_int max_two min_two max_three min_three max_four min_four   
set_option linter.unusedVariables false
set_option linter.unusedSimpArgs false
mutual
def r4_To.j0 : Nat → Int → Int → List Int → Bool → List Int → Bool → Int → List Int → Option (List Int × Bool)
 | 0, _, _, _, _, _, _, _, _ => none
 | k + 1, x2, x8, x9, x11, x12, qg, qk, ql => if x11 = true then ((r2_Of.f k 1).bind fun qq => ((r2_Shl.f k qq (wrap64 (x8 - 1))).bind fun qh => ((r2_Cmp.f k x12 qh).bind fun qd => (r4_To.j1 k x2 x9 x11 (qd == 0) qg qk ql)))) else (r4_To.j1 k x2 x9 x11 false qg qk ql)
def r4_To.j1 : Nat → Int → List Int → Bool → Bool → Bool → Int → List Int → Option (List Int × Bool)
 | 0, _, _, _, _, _, _, _ => none
 | k + 1, x2, x9, x11, x13, qg, qk, ql => if x11 = true then (if x13 = true then (if (x9.length : Int) > 0 then (if 0 < (x9.length : Int) then (r4_To.j2 k x2 x9 x11 ((Int.tmod (rd x9 0) 2) == 1) qg qk ql) else (none)) else (r4_To.j2 k x2 x9 x11 false qg qk ql)) else (r4_To.j2 k x2 x9 x11 true qg qk ql)) else (r4_To.j2 k x2 x9 x11 false qg qk ql)
def r4_To.j2 : Nat → Int → List Int → Bool → Bool → Bool → Int → List Int → Option (List Int × Bool)
 | 0, _, _, _, _, _, _, _ => none
 | k + 1, x2, x9, x11, x14, qg, qk, ql => if x2 = 1 then (r4_To.j3 k x9 x11) else (if x2 = 2 then (r4_To.j3 k x9 false) else (if x2 = 3 then (r4_To.j3 k x9 (!qg)) else (if x2 = 4 then (r4_To.j3 k x9 qg) else (r4_To.j3 k x9 x14))))
def r4_To.j3 : Nat → List Int → Bool → Option (List Int × Bool)
 | 0, _, _ => none
 | k + 1, x9, x14 => if x14 = true then ((r2_Of.f k 1).bind fun qm => ((r2_Add.f k x9 qm).bind fun qn => (some (qn, true)))) else (some (x9, true))
end
def r4_To.f (k : Nat) (q3 : Bool) (q0 : Int) (l0_2 : List Int) (a1 : Int) (a2 : Int) : Option (List Int × Bool) := if q0 ≥ a1 then ((r2_Shl.f k l0_2 (wrap64 (q0 - a1))).bind fun qu => (some (qu, false))) else ((r2_Shr.f k l0_2 (wrap64 (a1 - q0))).bind fun qe => (if qe.2 = true then ((r2_Bit.f k l0_2 (wrap64 ((wrap64 (a1 - q0)) - 1))).bind fun q7 => ((r2_Len.f k l0_2).bind fun qb => (if (wrap64 (a1 - q0)) ≤ qb then ((r2_Shl.f k qe.1 (wrap64 (a1 - q0))).bind fun qa => ((r2_Sub.f k l0_2 qa).bind fun q9 => (r4_To.j0 k a2 (wrap64 (a1 - q0)) qe.1 (q7 == 1) q9 q3 q0 l0_2))) else (r4_To.j0 k a2 (wrap64 (a1 - q0)) qe.1 (q7 == 1) l0_2 q3 q0 l0_2)))) else (some (qe.1, false))))
theorem r4_To.mono_l : ∀ k, (∀ y0 y1 y2 y3 y4 y5 y6 y7, LeO (r4_To.j0 k y0 y1 y2 y3 y4 y5 y6 y7) (r4_To.j0 (k + 1) y0 y1 y2 y3 y4 y5 y6 y7)) ∧ (∀ y0 y1 y2 y3 y4 y5 y6, LeO (r4_To.j1 k y0 y1 y2 y3 y4 y5 y6) (r4_To.j1 (k + 1) y0 y1 y2 y3 y4 y5 y6)) ∧ (∀ y0 y1 y2 y3 y4 y5 y6, LeO (r4_To.j2 k y0 y1 y2 y3 y4 y5 y6) (r4_To.j2 (k + 1) y0 y1 y2 y3 y4 y5 y6)) ∧ (∀ y0 y1, LeO (r4_To.j3 k y0 y1) (r4_To.j3 (k + 1) y0 y1))
 | 0 => ⟨fun _ _ _ _ _ _ _ _ r h => by simp [r4_To.j0] at h, fun _ _ _ _ _ _ _ r h => by simp [r4_To.j1] at h, fun _ _ _ _ _ _ _ r h => by simp [r4_To.j2] at h, fun _ _ r h => by simp [r4_To.j3] at h⟩
 | k + 1 => by
  obtain ⟨ih0, ih1, ih2, ih3⟩ := r4_To.mono_l k; refine ⟨?_, ?_, ?_, ?_⟩
  · intro y0 y1 y2 y3 y4 y5 y6 y7
    unfold r4_To.j0
    repeat' (with_reducible first | exact ih0 _ _ _ _ _ _ _ _ | exact ih1 _ _ _ _ _ _ _ | exact ih2 _ _ _ _ _ _ _ | exact ih3 _ _ | exact r2_Add.mono _ _ _ | exact r2_Bit.mono _ _ _ | exact r2_Cmp.mono _ _ _ | exact r2_Len.mono _ _ | exact r2_Of.mono _ _ | exact r2_Shl.mono _ _ _ | exact r2_Shr.mono _ _ _ | exact r2_Sub.mono _ _ _ | exact LeO.refl _ | exact LeO.none _ | refine LeO.ite ?_ ?_ | refine LeO.bind ?_ (fun _ => ?_))
  · intro y0 y1 y2 y3 y4 y5 y6
    unfold r4_To.j1
    repeat' (with_reducible first | exact ih0 _ _ _ _ _ _ _ _ | exact ih1 _ _ _ _ _ _ _ | exact ih2 _ _ _ _ _ _ _ | exact ih3 _ _ | exact r2_Add.mono _ _ _ | exact r2_Bit.mono _ _ _ | exact r2_Cmp.mono _ _ _ | exact r2_Len.mono _ _ | exact r2_Of.mono _ _ | exact r2_Shl.mono _ _ _ | exact r2_Shr.mono _ _ _ | exact r2_Sub.mono _ _ _ | exact LeO.refl _ | exact LeO.none _ | refine LeO.ite ?_ ?_ | refine LeO.bind ?_ (fun _ => ?_))
  · intro y0 y1 y2 y3 y4 y5 y6
    unfold r4_To.j2
    repeat' (with_reducible first | exact ih0 _ _ _ _ _ _ _ _ | exact ih1 _ _ _ _ _ _ _ | exact ih2 _ _ _ _ _ _ _ | exact ih3 _ _ | exact r2_Add.mono _ _ _ | exact r2_Bit.mono _ _ _ | exact r2_Cmp.mono _ _ _ | exact r2_Len.mono _ _ | exact r2_Of.mono _ _ | exact r2_Shl.mono _ _ _ | exact r2_Shr.mono _ _ _ | exact r2_Sub.mono _ _ _ | exact LeO.refl _ | exact LeO.none _ | refine LeO.ite ?_ ?_ | refine LeO.bind ?_ (fun _ => ?_))
  intro y0 y1
  unfold r4_To.j3
  repeat' (with_reducible first | exact ih0 _ _ _ _ _ _ _ _ | exact ih1 _ _ _ _ _ _ _ | exact ih2 _ _ _ _ _ _ _ | exact ih3 _ _ | exact r2_Add.mono _ _ _ | exact r2_Bit.mono _ _ _ | exact r2_Cmp.mono _ _ _ | exact r2_Len.mono _ _ | exact r2_Of.mono _ _ | exact r2_Shl.mono _ _ _ | exact r2_Shr.mono _ _ _ | exact r2_Sub.mono _ _ _ | exact LeO.refl _ | exact LeO.none _ | refine LeO.ite ?_ ?_ | refine LeO.bind ?_ (fun _ => ?_))
theorem r4_To.mono : ∀ a0 a1 a2 a3 a4 k, LeO (r4_To.f k a0 a1 a2 a3 a4) (r4_To.f (k + 1) a0 a1 a2 a3 a4) := by
 intro a0 a1 a2 a3 a4 k; obtain ⟨ih0, ih1, ih2, ih3⟩ := r4_To.mono_l k
 unfold r4_To.f
 repeat' (with_reducible first | exact ih0 _ _ _ _ _ _ _ _ | exact ih1 _ _ _ _ _ _ _ | exact ih2 _ _ _ _ _ _ _ | exact ih3 _ _ | exact r2_Add.mono _ _ _ | exact r2_Bit.mono _ _ _ | exact r2_Cmp.mono _ _ _ | exact r2_Len.mono _ _ | exact r2_Of.mono _ _ | exact r2_Shl.mono _ _ _ | exact r2_Shr.mono _ _ _ | exact r2_Sub.mono _ _ _ | exact LeO.refl _ | exact LeO.none _ | refine LeO.ite ?_ ?_ | refine LeO.bind ?_ (fun _ => ?_))
set_option maxHeartbeats 8000000 in
set_option maxRecDepth 100000 in
theorem r4_To.calls (k : Nat) (q3 : Bool) (q0 : Int) (P0_2_ : Nat → Prop) (A0_2 : Option Addr) (c0_2 : Nat) (l0_2 : List Int) (a1 : Int) (a2 : Int) (r1 : List Int) (r2 : Bool) (w : World) (hs0_2 : Kd.V (Kd.int .u32) 124 w w.heap.size (fun k_ => P0_2_ k_) (.slice A0_2 l0_2.length c0_2) l0_2) (h : r4_To.f k q3 q0 l0_2 a1 a2 = some (r1, r2)) :
 Calls Try.prog 88 #[.agg #[.bool q3, .int .i64 q0, .slice A0_2 l0_2.length c0_2], .int .i64 a1, .int .i64 a2] w fun e w' => ∃ v0_ : Value, e = .returned (.tuple #[v0_, .bool r2]) ∧ Kd.V (Kd.int .u32) 124 w' w.heap.size (fun k_ => (P0_2_ k_ ∨ w.heap.size ≤ k_)) v0_ r1 ∧ Below w.heap.size w w' := by
 have hu77 := Try.underlying77; have HO0_2 := aK (show Kd.V (Kd.int .u32) 124 w w.heap.size (fun k_ => (P0_2_ k_ ∨ w.heap.size ≤ k_)) (.slice A0_2 l0_2.length c0_2) l0_2 from Kd.V_mono hs0_2 (fun k_ hk => .inl hk)); have HB := aK (Below.refl w.heap.size w); have H : (if q0 ≥ a1 then ((r2_Shl.f k l0_2 (wrap64 (q0 - a1))).bind fun qu => (some (qu, false))) else ((r2_Shr.f k l0_2 (wrap64 (a1 - q0))).bind fun qe => (if qe.2 = true then ((r2_Bit.f k l0_2 (wrap64 ((wrap64 (a1 - q0)) - 1))).bind fun q7 => ((r2_Len.f k l0_2).bind fun qb => (if (wrap64 (a1 - q0)) ≤ qb then ((r2_Shl.f k qe.1 (wrap64 (a1 - q0))).bind fun qa => ((r2_Sub.f k l0_2 qa).bind fun q9 => (r4_To.j0 k a2 (wrap64 (a1 - q0)) qe.1 (q7 == 1) q9 q3 q0 l0_2))) else (r4_To.j0 k a2 (wrap64 (a1 - q0)) qe.1 (q7 == 1) l0_2 q3 q0 l0_2)))) else (some (qe.1, false))))) = some (r1, r2) := h; clear h
 by_cases c4 : q0 ≥ a1
 · rw [if_pos c4] at H
   have qw : decide (a1 ≤ q0) = true := decide_eq_true c4; clear c4; replace H := Option.bind_eq_some_iff.mp H; obtain ⟨qu, A50, H⟩ := H; replace H : (some (qu, false)) = some (r1, r2) := H; have A5 := aK A50; clear A50
   simp only [Option.some.injEq, Prod.mk.injEq] at H
   obtain ⟨rfl, rfl⟩ := H
   go_enter Try.func88, Try.ntmps88
   go_wp2_with (first | ((with_reducible refine gate_dst (N := 3) rfl ?_); (try (refine gate_guard (by rfl) ?_; dsimp only)); refine box_event ?hg (N := 3) ?hd (cs := #[.bool q3, .int .i64 q0, .slice A0_2 l0_2.length c0_2]) (t := 77) ?hr ?_; (case hd => rfl); (case hg => rfl); (case hr => first | (go_simp; done) | (go_simp; rfl)); intro q5 hg w6 hbox hb; replace HO0_2 := aK (Kd.V_below (Kd.V_elderB (kV HO0_2) q5 (Nat.le_of_eq hg.symm)) hb); have q1 := aK (hbox); have q0z := aK ((by rw [hg]; exact (below_size (kH HB)) : w.heap.size ≤ q5)); have q6 := aK ((by rw [hg]; exact (below_size (kH HB)) : w.heap.size ≤ q5)); replace HB := aK (below_step (kH HB) hb); clear hb hbox hg; obtain ⟨q03, q04, q05, q06, q07, q08⟩ := W3q q1) | ((with_reducible refine gate_callee (f := 70) rfl ?_); refine goesL_ (some 25) rfl rfl Try.func70 (by kernel_rfl) rfl #[.slice A0_2 l0_2.length c0_2, .int .i64 (wrap64 (q0 - a1))] rfl LMq ?_; (with_reducible refine (r2_Shl.calls k _ _ l0_2 (wrap64 (q0 - a1)) qu _ ?side1 ?side2 A5.out).mono ?_); (case side1 => exact kC (Kd.V_reads' HO0_2.out).2.2); (case side2 => exact (Kd.V_reads' HO0_2.out).2.1); rintro e w8 ⟨v436, rfl, ho0, hb⟩; refine ⟨_, rfl, ?_⟩; replace HO0_2 := aK (Kd.V_below (kV HO0_2) hb); have q1j := aK (Kd.V_lower (Kd.V_mono (ok' := fun k_ => (P0_2_ k_ ∨ w.heap.size ≤ k_) ∧ k_ ≠ q5) ho0 (fun k_ hk_ => ⟨(.inr (Nat.le_trans (below_size (kHs HB q6)) hk_)), (Kd.freshB (g := q5) (o := .cells #[.bool q3, .int .i64 q0, .slice A0_2 l0_2.length c0_2] 77 (0, 0)) (kB q1) k_ hk_)⟩)) (below_size (kHs HB q6))); replace q1 := aK (blk_below (g := q5) (o := .cells #[.bool q3, .int .i64 q0, .slice A0_2 l0_2.length c0_2] 77 (0, 0)) (kB q1) hb); replace HB := aK (below_step (kHs HB q6) hb); (try clear hb); (try clear hb2); (try clear hk); (try clear hi); (try clear ho0)))
   go_ret2
   exact ⟨_, by first | rfl | (simp [errW_none, errW_some] <;> rfl) | (simp [*, errW_none, errW_some] <;> rfl), by (with_reducible repeat (first | apply Kd.V_alloc | apply Kd.V_drewN | apply Kd.V_drew)); exact Kd.V_mono q1j.out (fun _ hk => hk.1), kHs HB q6⟩
 rw [if_neg c4] at H
 have qw : decide (a1 ≤ q0) = false := decide_eq_false c4; clear c4; replace H := Option.bind_eq_some_iff.mp H; obtain ⟨⟨q2, q10⟩, A90, H⟩ := H; replace H : (if q10 = true then ((r2_Bit.f k l0_2 (wrap64 ((wrap64 (a1 - q0)) - 1))).bind fun q7 => ((r2_Len.f k l0_2).bind fun qb => (if (wrap64 (a1 - q0)) ≤ qb then ((r2_Shl.f k q2 (wrap64 (a1 - q0))).bind fun qa => ((r2_Sub.f k l0_2 qa).bind fun q9 => (r4_To.j0 k a2 (wrap64 (a1 - q0)) q2 (q7 == 1) q9 q3 q0 l0_2))) else (r4_To.j0 k a2 (wrap64 (a1 - q0)) q2 (q7 == 1) l0_2 q3 q0 l0_2)))) else (some (q2, false))) = some (r1, r2) := H; have A9 := aK A90; clear A90
 by_cases c10 : q10 = true
 · subst c10
   have H1 : ((r2_Bit.f k l0_2 (wrap64 ((wrap64 (a1 - q0)) - 1))).bind fun q7 => ((r2_Len.f k l0_2).bind fun qb => (if (wrap64 (a1 - q0)) ≤ qb then ((r2_Shl.f k q2 (wrap64 (a1 - q0))).bind fun qa => ((r2_Sub.f k l0_2 qa).bind fun q9 => (r4_To.j0 k a2 (wrap64 (a1 - q0)) q2 (q7 == 1) q9 q3 q0 l0_2))) else (r4_To.j0 k a2 (wrap64 (a1 - q0)) q2 (q7 == 1) l0_2 q3 q0 l0_2)))) = some (r1, r2) := by rw [if_pos rfl] at H; exact H
   clear H; have H := H1; clear H1; replace H := Option.bind_eq_some_iff.mp H; obtain ⟨q7, q11, H⟩ := H; replace H : ((r2_Len.f k l0_2).bind fun qb => (if (wrap64 (a1 - q0)) ≤ qb then ((r2_Shl.f k q2 (wrap64 (a1 - q0))).bind fun qa => ((r2_Sub.f k l0_2 qa).bind fun q9 => (r4_To.j0 k a2 (wrap64 (a1 - q0)) q2 (q7 == 1) q9 q3 q0 l0_2))) else (r4_To.j0 k a2 (wrap64 (a1 - q0)) q2 (q7 == 1) l0_2 q3 q0 l0_2))) = some (r1, r2) := H; have A11 := aK q11; clear q11; replace H := Option.bind_eq_some_iff.mp H; obtain ⟨qb, q12, H⟩ := H; replace H : (if (wrap64 (a1 - q0)) ≤ qb then ((r2_Shl.f k q2 (wrap64 (a1 - q0))).bind fun qa => ((r2_Sub.f k l0_2 qa).bind fun q9 => (r4_To.j0 k a2 (wrap64 (a1 - q0)) q2 (q7 == 1) q9 q3 q0 l0_2))) else (r4_To.j0 k a2 (wrap64 (a1 - q0)) q2 (q7 == 1) l0_2 q3 q0 l0_2)) = some (r1, r2) := H; have A12 := aK q12; clear q12; have q0u := aK H; clear H
   go_enter Try.func88, Try.ntmps88
   go_upto_if 52 with (first | ((with_reducible refine gate_dst (N := 3) rfl ?_); (try (refine gate_guard (by rfl) ?_; dsimp only)); refine box_event ?hg (N := 3) ?hd (cs := #[.bool q3, .int .i64 q0, .slice A0_2 l0_2.length c0_2]) (t := 77) ?hr ?_; (case hd => rfl); (case hg => rfl); (case hr => first | (go_simp; done) | (go_simp; rfl)); intro q5 hg w14 hbox hb; replace HO0_2 := aK (Kd.V_below (Kd.V_elderB (kV HO0_2) q5 (Nat.le_of_eq hg.symm)) hb); have q1 := aK (hbox); have q0z := aK ((by rw [hg]; exact (below_size (kH HB)) : w.heap.size ≤ q5)); have q6 := aK ((by rw [hg]; exact (below_size (kH HB)) : w.heap.size ≤ q5)); replace HB := aK (below_step (kH HB) hb); clear hb hbox hg; obtain ⟨q09, q0a, q0b, q0c, q0d, q0e⟩ := W3q q1) | ((with_reducible refine gate_callee (f := 106) rfl ?_); refine goesL_ (some 34) rfl rfl Try.func106 (by kernel_rfl) rfl #[.slice A0_2 l0_2.length c0_2, .int .i64 (wrap64 (a1 - q0))] rfl LMq ?_; (with_reducible refine (r2_Shr.calls k (fun k_ => ((P0_2_ k_ ∨ w.heap.size ≤ k_) ∧ k_ ≠ q5)) _ _ l0_2 (wrap64 (a1 - q0)) q2 true _ ?side1 A9.out).mono ?_); (case side1 => exact HO0_2.out); rintro e w16 ⟨v439, rfl, ho0, hb⟩; refine ⟨_, rfl, ?_⟩; replace HO0_2 := aK (Kd.V_below (kV HO0_2) hb); have q8 := aK (Kd.V_lower (Kd.V_mono (ok' := fun k_ => (P0_2_ k_ ∨ w.heap.size ≤ k_) ∧ k_ ≠ q5) ho0 (fun k_ hk_ => ⟨Or.elim hk_ (fun hs_ => hs_.1) (fun hn_ => (.inr (Nat.le_trans (below_size (kHs HB q6)) hn_))), Or.elim hk_ (fun hs_ => hs_.2) (fun hn_ => (Kd.freshB (g := q5) (o := .cells #[.bool q3, .int .i64 q0, .slice A0_2 l0_2.length c0_2] 77 (0, 0)) (kB q1) k_ hn_))⟩)) (below_size (kHs HB q6))); replace q1 := aK (blk_below (g := q5) (o := .cells #[.bool q3, .int .i64 q0, .slice A0_2 l0_2.length c0_2] 77 (0, 0)) (kB q1) hb); replace HB := aK (below_step (kHs HB q6) hb); (try clear hb); (try clear hb2); (try clear hk); (try clear hi); (try clear ho0); obtain ⟨q0f, q0g, q0h, q0i, q0j, q0k⟩ := W3q q1) | ((with_reducible refine gate_callee (f := 107) rfl ?_); refine goesL_ (some 44) rfl rfl Try.func107 (by kernel_rfl) rfl #[.slice A0_2 l0_2.length c0_2, .int .i64 (wrap64 ((wrap64 (a1 - q0)) - 1))] rfl LMq ?_; (with_reducible refine (r2_Bit.calls k _ _ l0_2 (wrap64 ((wrap64 (a1 - q0)) - 1)) q7 _ ?side1 ?side2 A11.out).mono ?_); (case side1 => exact kC (Kd.V_reads' HO0_2.out).2.2); (case side2 => exact (Kd.V_reads' HO0_2.out).2.1); rintro e w18 ⟨rfl, hb⟩; refine ⟨_, rfl, ?_⟩; replace HO0_2 := aK (Kd.V_below (kV HO0_2) hb); replace q8 := aK (Kd.V_below (kV q8) hb); replace q1 := aK (blk_below (g := q5) (o := .cells #[.bool q3, .int .i64 q0, .slice A0_2 l0_2.length c0_2] 77 (0, 0)) (kB q1) hb); replace HB := aK (below_step (kHs HB q6) hb); (try clear hb); (try clear hb2); (try clear hk); (try clear hi); obtain ⟨q0l, q0m, q0n, q0o, q0p, q0q⟩ := W3q q1) | ((with_reducible refine gate_callee (f := 86) rfl ?_); refine goesL_ (some 51) rfl rfl Try.func86 (by kernel_rfl) rfl #[.slice A0_2 l0_2.length c0_2] rfl LMq ?_; (with_reducible refine (r2_Len.calls k _ _ l0_2 qb _ ?side1 ?side2 A12.out).mono ?_); (case side1 => exact kC (Kd.V_reads' HO0_2.out).2.2); (case side2 => exact (Kd.V_reads' HO0_2.out).2.1); rintro e w20 ⟨rfl, hb⟩; refine ⟨_, rfl, ?_⟩; replace HO0_2 := aK (Kd.V_below (kV HO0_2) hb); replace q8 := aK (Kd.V_below (kV q8) hb); replace q1 := aK (blk_below (g := q5) (o := .cells #[.bool q3, .int .i64 q0, .slice A0_2 l0_2.length c0_2] 77 (0, 0)) (kB q1) hb); replace HB := aK (below_step (kHs HB q6) hb); (try clear hb); (try clear hb2); (try clear hk); (try clear hi)))
   (try simp only [Act.put, List.setIfInBounds_toArray, List.set_cons_zero, List.set_cons_succ])
   go_cut [11, 12] (fun v11 v12 wc => ∃ (kq : Nat) (qo : Bool) (qr : List Int), v11 = .bool qo ∧ Aside0 (r4_To.j0 kq a2 (wrap64 (a1 - q0)) q2 qo qr q3 q0 l0_2 = some (r1, r2)) ∧ Aside0 (kq ≤ k) ∧ Aside0 (Kd.V (Kd.int .u32) 124 wc w.heap.size (fun k_ => (P0_2_ k_ ∨ w.heap.size ≤ k_) ∧ k_ ≠ q5) v439 q2) ∧ Aside0 (Kd.V (Kd.int .u32) 124 wc w.heap.size (fun k_ => (P0_2_ k_ ∨ w.heap.size ≤ k_) ∧ k_ ≠ q5) v12 qr) ∧ Aside0 (Kd.V (Kd.int .u32) 124 wc w.heap.size (fun k_ => (P0_2_ k_ ∨ w.heap.size ≤ k_) ∧ k_ ≠ q5) (.slice A0_2 l0_2.length c0_2) l0_2) ∧ Aside0 (wc.heap[q5]? = some (.cells #[.bool q3, .int .i64 q0, (.slice A0_2 l0_2.length c0_2)] 77 (0, 0))) ∧ Aside0 (Below w.heap.size w wc))
   case first =>
    have H := q0u.out; clear q0u
    by_cases c21 : (wrap64 (a1 - q0)) ≤ qb
    · rw [if_pos c21] at H
      have qi : decide ((wrap64 (a1 - q0)) ≤ qb) = true := decide_eq_true c21; clear c21
      (first | rw [qi] | (simp only [i64_w, i32_w]; rw [qi]) | skip)
      replace H := Option.bind_eq_some_iff.mp H; obtain ⟨qa, q13, H⟩ := H; replace H : ((r2_Sub.f k l0_2 qa).bind fun q9 => (r4_To.j0 k a2 (wrap64 (a1 - q0)) q2 (q7 == 1) q9 q3 q0 l0_2)) = some (r1, r2) := H; have A22 := aK q13; clear q13; replace H := Option.bind_eq_some_iff.mp H; obtain ⟨q9, q14, H⟩ := H; replace H : (r4_To.j0 k a2 (wrap64 (a1 - q0)) q2 (q7 == 1) q9 q3 q0 l0_2) = some (r1, r2) := H; have A23 := aK q14; clear q14; have H' := aK H; clear H
      try go_wp2
      replace HO0_2 := aK (Kd.V_drew HO0_2.out); replace q8 := aK (Kd.V_drew q8.out); replace q1 := aK (blk_drew q1.out); replace HB := aK (below_drew1 HB.out); obtain ⟨q1k, q1l, eo25⟩ := Kd.V_slice q8.out
      (first | subst eo25 | (injection eo25 with f1_ f2_ f3_; have f4_ := f1_.symm; have f5_ := f3_.symm; clear f1_ f2_ f3_; subst f4_; subst f5_))
      refine start_ (n := 7) (S := fun w' => w'.cell? ⟨q5, 0, none⟩ = some (.bool q3) ∧ w'.cell? ⟨q5, 1, none⟩ = some (.int .i64 q0) ∧ w'.cell? ⟨q5, 2, none⟩ = some (.slice A0_2 l0_2.length c0_2)) (ds := []) #[false, false, false, false, false, false, false] (by kernel_rfl) rfl rfl ⟨bc q1 0, bc q1 1, bc q1 2⟩ (fun hHeld => ?_)
      generalize w20.drew = w24 at HO0_2 q8 q1 HB hHeld ⊢
      refine pure_ (i := 0) (N := some 53) (v := ?_) (a' := ?_) #[true, false, false, false, false, false, false] rfl rfl (by kernel_rfl) (fun _ _ _ h => h) (Or.inl ⟨by rfl, ?_⟩) ?_ ?_; rotate_left
      · intro w'
        go_simp
        with_reducible rfl
      rotate_left
      · exact APq
      refine pure_ (i := 2) (N := some 55) (v := ?_) (a' := ?_) #[true, false, true, false, false, false, false] rfl rfl (by kernel_rfl) (fun _ _ _ h => h) (Or.inl ⟨by rfl, ?_⟩) ?_ ?_; rotate_left
      · intro w'
        go_simp
        with_reducible rfl
      rotate_left
      · exact APq
      refine pure_ (i := 3) (N := some 56) (v := ?_) (a' := ?_) #[true, false, true, true, false, false, false] rfl rfl (by kernel_rfl) (fun _ _ _ h => h) (Or.inl ⟨by rfl, ?_⟩) ?_ ?_; rotate_left
      · intro w'
        go_simp
        with_reducible rfl
      rotate_left
      · exact APq
      refine take_ (i := 1) (N := some 54) (v := ?_) (a' := ?_) #[true, true, true, true, false, false, false] rfl rfl (by kernel_rfl) (fun _ _ _ h => h) (Or.inl ⟨by rfl, ?_⟩) hHeld ?_ ?_; rotate_left
      · rintro w' ⟨s0, s1, s2⟩
        go_simp
        with_reducible rfl
      rotate_left
      · exact APq
      refine one_ (i := 4) (N := some 57) #[true, true, true, true, true, false, false] rfl rfl (by kernel_rfl) (by decide) (fun K hK => ?_); refine goes_ Try.func70 (by kernel_rfl) rfl #[.slice q1k q2.length q1l, .int .i64 (wrap64 (a1 - q0))] (by rfl) rfl rfl LMq ?_
      with_reducible refine (r2_Shl.calls k _ _ q2 (wrap64 (a1 - q0)) qa _ ?side1 ?side2 A22.out).mono ?_
      (case side1 => exact kC (Kd.V_reads' q8.out).2.2)
      (case side2 => exact (Kd.V_reads' q8.out).2.1)
      rintro e w26 ⟨v445, rfl, ho0, hb⟩; refine ⟨_, rfl, ?_⟩; replace HO0_2 := aK (Kd.V_below (kV HO0_2) hb); replace q8 := aK (Kd.V_below (kV q8) hb); have qx := aK (Kd.V_lower (Kd.V_mono (ok' := fun k_ => (P0_2_ k_ ∨ w.heap.size ≤ k_) ∧ k_ ≠ q5) ho0 (fun k_ hk_ => ⟨(.inr (Nat.le_trans (below_size HB.out) hk_)), (Kd.freshB q1.out k_ hk_)⟩)) (below_size HB.out)); replace q1 := aK (blk_below q1.out hb); replace HB := aK (below_step HB.out hb)
      (try clear hb)
      (try clear hb2)
      (try clear hk)
      (try clear hi)
      (try clear ho0)
      obtain ⟨q1m, q1n, eo27⟩ := Kd.V_slice qx.out
      (first | subst eo27 | (injection eo27 with f1_ f2_ f3_; have f4_ := f1_.symm; have f5_ := f3_.symm; clear f1_ f2_ f3_; subst f4_; subst f5_))
      refine hK.out _ _ ⟨bc q1 0, bc q1 1, bc q1 2⟩ (fun hHeld => ?_); clear hK K; refine norm_ (a' := ?_) ?_ ?_; rotate_left
      · show Act.put _ (some 57) _ = _
        exact APq
      refine one_ (i := 5) (N := some 58) #[true, true, true, true, true, true, false] rfl rfl (by kernel_rfl) (by decide) (fun K hK => ?_); refine goes_ Try.func92 (by kernel_rfl) rfl #[.slice A0_2 l0_2.length c0_2, .slice q1m qa.length q1n] (by rfl) rfl rfl LMq ?_
      with_reducible refine (r2_Sub.calls k _ _ l0_2 _ _ qa q9 _ ?side1 ?side2 ?side3 ?side4 A23.out).mono ?_
      (case side1 => exact kC (Kd.V_reads' HO0_2.out).2.2)
      (case side2 => exact (Kd.V_reads' HO0_2.out).2.1)
      (case side3 => exact kC (Kd.V_reads' qx.out).2.2)
      (case side4 => exact (Kd.V_reads' qx.out).2.1)
      rintro e w28 ⟨v448, rfl, ho0, hb⟩; refine ⟨_, rfl, ?_⟩; replace HO0_2 := aK (Kd.V_below (kV HO0_2) hb); replace q8 := aK (Kd.V_below (kV q8) hb); replace qx := aK (Kd.V_below (kV qx) hb); have q1o := aK (Kd.V_lower (Kd.V_mono (ok' := fun k_ => (P0_2_ k_ ∨ w.heap.size ≤ k_) ∧ k_ ≠ q5) ho0 (fun k_ hk_ => ⟨(.inr (Nat.le_trans (below_size HB.out) hk_)), (Kd.freshB q1.out k_ hk_)⟩)) (below_size HB.out)); replace q1 := aK (blk_below q1.out hb); replace HB := aK (below_step HB.out hb)
      (try clear hb)
      (try clear hb2)
      (try clear hk)
      (try clear hi)
      (try clear ho0)
      refine hK.out _ _ ⟨bc q1 0, bc q1 1, bc q1 2⟩ (fun hHeld => ?_); clear hK K; refine norm_ (a' := ?_) ?_ ?_; rotate_left
      · show Act.put _ (some 58) _ = _
        exact APq
      refine pure_ (i := 6) (N := some 12) (v := ?_) (a' := ?_) #[true, true, true, true, true, true, true] rfl rfl (by kernel_rfl) (fun _ _ _ h => h) (Or.inl ⟨by rfl, ?_⟩) ?_ ?_; rotate_left
      · intro w'
        go_simp
        with_reducible rfl
      rotate_left
      · exact APq
      refine done_ (by kernel_rfl) ?_
      try go_wp2
      go_meet
      case rel => exact ⟨_, ((q7 == 1)), (q9), RSq, (by first | exact H' | (subst_vars; exact H')), ⟨by first | omega | exact Nat.le_refl _⟩, ⟨kV q8⟩, ⟨kV q1o⟩, ⟨kV HO0_2⟩, ⟨kB q1⟩, ⟨kHs HB q6⟩⟩
    rw [if_neg c21] at H
    have qi : decide ((wrap64 (a1 - q0)) ≤ qb) = false := decide_eq_false c21; clear c21
    (first | rw [qi] | (simp only [i64_w, i32_w]; rw [qi]) | skip)
    have H' := aK H; clear H
    go_wp2
    go_meet
    case rel => exact ⟨_, ((q7 == 1)), (l0_2), RSq, (by first | exact H' | (subst_vars; exact H')), ⟨by first | omega | exact Nat.le_refl _⟩, ⟨kV q8⟩, ⟨kV HO0_2⟩, ⟨kV HO0_2⟩, ⟨kB q1⟩, ⟨kHs HB q6⟩⟩
   case rest =>
    clear q0u; (try clear c1); (try clear c2); (try clear p2); (try clear c4); (try clear qw); (try clear p6); (try clear c7); (try clear c8); (try clear c9); (try clear c10); (try clear c21); (try clear qi); (try clear q09 q0a q0b); (try clear q0f q0g q0h); (try clear q0l q0m q0n); (try clear q03 q04 q05); (try clear q0c q0d q0e); (try clear q0i q0j q0k); (try clear q0o q0p q0q); (try clear q06 q07 q08); obtain ⟨kq, qo, qr, rfl, HA, qf, HO_9, HO_12, HO_435002, q1, HB⟩ := hcut
    cases kq with
    | zero => exact absurd HA.out (by simp [r4_To.j0])
    | succ qc =>
     have H := HA.out; clear HA
     simp only [r4_To.j0] at H
     have q0v := aK H; clear H
     go_upto_region 11 with (fail)
     go_cut [13] (fun v13 wc => ∃ (kq : Nat) (qy : Bool), v13 = .bool qy ∧ Aside0 (r4_To.j1 kq a2 q2 qo qy q3 q0 l0_2 = some (r1, r2)) ∧ Aside0 (kq ≤ qc) ∧ Aside0 (Kd.V (Kd.int .u32) 124 wc w.heap.size (fun k_ => (P0_2_ k_ ∨ w.heap.size ≤ k_) ∧ k_ ≠ q5) v439 q2) ∧ Aside0 (Kd.V (Kd.int .u32) 124 wc w.heap.size (fun k_ => (P0_2_ k_ ∨ w.heap.size ≤ k_) ∧ k_ ≠ q5) (.slice A0_2 l0_2.length c0_2) l0_2) ∧ Aside0 (wc.heap[q5]? = some (.cells #[.bool q3, .int .i64 q0, (.slice A0_2 l0_2.length c0_2)] 77 (0, 0))) ∧ Aside0 (Below w.heap.size w wc))
     case first =>
      have H := q0v.out; clear q0v
      by_cases c30 : qo = true
      · subst c30
        have H1 : ((r2_Of.f qc 1).bind fun qq => ((r2_Shl.f qc qq (wrap64 ((wrap64 (a1 - q0)) - 1))).bind fun qh => ((r2_Cmp.f qc qr qh).bind fun qd => (r4_To.j1 qc a2 q2 true (qd == 0) q3 q0 l0_2)))) = some (r1, r2) := by rw [if_pos rfl] at H; exact H
        clear H; have H := H1; clear H1; replace H := Option.bind_eq_some_iff.mp H; obtain ⟨qq, q15, H⟩ := H; replace H : ((r2_Shl.f qc qq (wrap64 ((wrap64 (a1 - q0)) - 1))).bind fun qh => ((r2_Cmp.f qc qr qh).bind fun qd => (r4_To.j1 qc a2 q2 true (qd == 0) q3 q0 l0_2))) = some (r1, r2) := H; have A31 := aK q15; clear q15; replace H := Option.bind_eq_some_iff.mp H; obtain ⟨qh, q16, H⟩ := H; replace H : ((r2_Cmp.f qc qr qh).bind fun qd => (r4_To.j1 qc a2 q2 true (qd == 0) q3 q0 l0_2)) = some (r1, r2) := H; have A32 := aK q16; clear q16; replace H := Option.bind_eq_some_iff.mp H; obtain ⟨qd, q17, H⟩ := H; replace H : (r4_To.j1 qc a2 q2 true (qd == 0) q3 q0 l0_2) = some (r1, r2) := H; have A33 := aK q17; clear q17; have H' := aK H; clear H
        go_wp2_with (first | (go_at_call 71; (with_reducible refine (r2_Of.calls qc 1 qq _ A31.out).mono ?_); rintro e w34 ⟨v451, rfl, ho0, hb⟩; replace HO_9 := aK (Kd.V_below (kV HO_9) hb); replace HO_12 := aK (Kd.V_below (kV HO_12) hb); replace HO_435002 := aK (Kd.V_below (kV HO_435002) hb); have qs := aK (Kd.V_lower (Kd.V_mono (ok' := fun k_ => (P0_2_ k_ ∨ w.heap.size ≤ k_) ∧ k_ ≠ q5) ho0 (fun k_ hk_ => ⟨(.inr (Nat.le_trans (below_size (kHs HB q6)) hk_)), (Kd.freshB (g := q5) (o := .cells #[.bool q3, .int .i64 q0, .slice A0_2 l0_2.length c0_2] 77 (0, 0)) (kB q1) k_ hk_)⟩)) (below_size (kHs HB q6))); replace q1 := aK (blk_below (g := q5) (o := .cells #[.bool q3, .int .i64 q0, .slice A0_2 l0_2.length c0_2] 77 (0, 0)) (kB q1) hb); replace HB := aK (below_step (kHs HB q6) hb); (try clear hb); (try clear hb2); (try clear hk); (try clear hi); (try clear ho0); obtain ⟨Ao35, co35, eo35⟩ := Kd.V_slice qs.out; subst eo35) | (go_at_call 70; (with_reducible refine (r2_Shl.calls qc _ _ qq (wrap64 ((wrap64 (a1 - q0)) - 1)) qh _ ?side1 ?side2 A32.out).mono ?_); (case side1 => exact kC (Kd.V_reads' qs.out).2.2); (case side2 => exact (Kd.V_reads' qs.out).2.1); rintro e w36 ⟨v454, rfl, ho0, hb⟩; replace HO_9 := aK (Kd.V_below (kV HO_9) hb); replace HO_12 := aK (Kd.V_below (kV HO_12) hb); replace HO_435002 := aK (Kd.V_below (kV HO_435002) hb); replace qs := aK (Kd.V_below (kV qs) hb); have qz := aK (Kd.V_lower (Kd.V_mono (ok' := fun k_ => (P0_2_ k_ ∨ w.heap.size ≤ k_) ∧ k_ ≠ q5) ho0 (fun k_ hk_ => ⟨(.inr (Nat.le_trans (below_size (kHs HB q6)) hk_)), (Kd.freshB (g := q5) (o := .cells #[.bool q3, .int .i64 q0, .slice A0_2 l0_2.length c0_2] 77 (0, 0)) (kB q1) k_ hk_)⟩)) (below_size (kHs HB q6))); replace q1 := aK (blk_below (g := q5) (o := .cells #[.bool q3, .int .i64 q0, .slice A0_2 l0_2.length c0_2] 77 (0, 0)) (kB q1) hb); replace HB := aK (below_step (kHs HB q6) hb); (try clear hb); (try clear hb2); (try clear hk); (try clear hi); (try clear ho0); obtain ⟨Ao37, co37, eo37⟩ := Kd.V_slice HO_12.out; subst eo37; obtain ⟨Ao38, co38, eo38⟩ := Kd.V_slice qz.out; subst eo38) | (go_at_call 91; (with_reducible refine (r2_Cmp.calls qc _ _ qr _ _ qh qd _ ?side1 ?side2 ?side3 ?side4 A33.out).mono ?_); (case side1 => exact kC (Kd.V_reads' HO_12.out).2.2); (case side2 => exact (Kd.V_reads' HO_12.out).2.1); (case side3 => exact kC (Kd.V_reads' qz.out).2.2); (case side4 => exact (Kd.V_reads' qz.out).2.1); rintro e w39 ⟨rfl, hb⟩; replace HO_9 := aK (Kd.V_below (kV HO_9) hb); replace HO_12 := aK (Kd.V_below (kV HO_12) hb); replace HO_435002 := aK (Kd.V_below (kV HO_435002) hb); replace qs := aK (Kd.V_below (kV qs) hb); replace qz := aK (Kd.V_below (kV qz) hb); replace q1 := aK (blk_below (g := q5) (o := .cells #[.bool q3, .int .i64 q0, .slice A0_2 l0_2.length c0_2] 77 (0, 0)) (kB q1) hb); replace HB := aK (below_step (kHs HB q6) hb); (try clear hb); (try clear hb2); (try clear hk); (try clear hi)))
        go_meet
        case rel => exact ⟨_, ((qd == 0)), RSq, (by first | exact H' | (subst_vars; exact H')), ⟨by have := qf.out; first | omega | exact Nat.le_refl _⟩, ⟨kV HO_9⟩, ⟨kV HO_435002⟩, ⟨kB q1⟩, ⟨kHs HB q6⟩⟩
      replace c30 := Bool.eq_false_iff.mpr c30; subst c30
      have H1 : (r4_To.j1 qc a2 q2 false false q3 q0 l0_2) = some (r1, r2) := by rw [if_neg (show ¬ (false = true) by decide)] at H; exact H
      clear H; have H := H1; clear H1; have H' := aK H; clear H
      go_wp2
      go_meet
      case rel => exact ⟨_, (false), RSq, (by first | exact H' | (subst_vars; exact H')), ⟨by have := qf.out; first | omega | exact Nat.le_refl _⟩, ⟨kV HO_9⟩, ⟨kV HO_435002⟩, ⟨kB q1⟩, ⟨kHs HB q6⟩⟩
     case rest =>
      clear q0v; (try clear c1); (try clear c2); (try clear p2); (try clear c3); (try clear c4); (try clear qw); (try clear p6); (try clear c7); (try clear c8); (try clear c9); (try clear c10); (try clear c21); (try clear qi); (try clear c30); (try clear q09 q0a q0b); (try clear q0f q0g q0h); (try clear q0l q0m q0n); (try clear q03 q04 q05); (try clear q0c q0d q0e); (try clear q0i q0j q0k); (try clear q0o q0p q0q); (try clear q06 q07 q08); (try clear p2); (try clear p6); obtain ⟨kq, qy, rfl, HA, qj, HO_9, HO_435002, q1, HB⟩ := hcut
      cases kq with
      | zero => exact absurd HA.out (by simp [r4_To.j1])
      | succ qp =>
       have H := HA.out; clear HA
       simp only [r4_To.j1] at H
       have q0w := aK H; clear H
       go_upto_region 12 with (fail)
       go_cut [14] (fun v14 wc => ∃ (kq : Nat) (q0r : Bool), v14 = .bool q0r ∧ Aside0 (r4_To.j2 kq a2 q2 qo q0r q3 q0 l0_2 = some (r1, r2)) ∧ Aside0 (kq ≤ qp) ∧ Aside0 (Kd.V (Kd.int .u32) 124 wc w.heap.size (fun k_ => (P0_2_ k_ ∨ w.heap.size ≤ k_) ∧ k_ ≠ q5) v439 q2) ∧ Aside0 (Kd.V (Kd.int .u32) 124 wc w.heap.size (fun k_ => (P0_2_ k_ ∨ w.heap.size ≤ k_) ∧ k_ ≠ q5) (.slice A0_2 l0_2.length c0_2) l0_2) ∧ Aside0 (wc.heap[q5]? = some (.cells #[.bool q3, .int .i64 q0, (.slice A0_2 l0_2.length c0_2)] 77 (0, 0))) ∧ Aside0 (Below w.heap.size w wc))
       case first =>
        have H := q0w.out; clear q0w
        by_cases c41 : qo = true
        · subst c41
          have H1 : (if qy = true then (if (q2.length : Int) > 0 then (if 0 < (q2.length : Int) then (r4_To.j2 qp a2 q2 true ((Int.tmod (rd q2 0) 2) == 1) q3 q0 l0_2) else (none)) else (r4_To.j2 qp a2 q2 true false q3 q0 l0_2)) else (r4_To.j2 qp a2 q2 true true q3 q0 l0_2)) = some (r1, r2) := by rw [if_pos rfl] at H; exact H
          clear H; have H := H1; clear H1
          by_cases c42 : qy = true
          · subst c42
            have H1 : (if (q2.length : Int) > 0 then (if 0 < (q2.length : Int) then (r4_To.j2 qp a2 q2 true ((Int.tmod (rd q2 0) 2) == 1) q3 q0 l0_2) else (none)) else (r4_To.j2 qp a2 q2 true false q3 q0 l0_2)) = some (r1, r2) := by rw [if_pos rfl] at H; exact H
            clear H; have H := H1; clear H1
            by_cases c43 : (q2.length : Int) > 0
            · rw [if_pos c43] at H
              have qt : decide (0 < (q2.length : Int)) = true := decide_eq_true c43; have q0x : decide (0 < q2.length) = true := decide_eq_true (by omega); clear c43
              (first | rw [qt] | (simp only [i64_w, i32_w]; rw [qt]) | skip)
              by_cases c44 : 0 < (q2.length : Int)
              · rw [if_pos c44] at H
                have q18 : decide (0 < (q2.length : Int)) = true := decide_eq_true c44; have q19 : decide (0 < q2.length) = true := decide_eq_true (by omega); clear c44; have H' := aK H; clear H; obtain ⟨Ao45, co45, eo45⟩ := Kd.V_slice HO_9.out; subst eo45; have p457 : 0 ≤ (0 : Int) := (by omega); have q457 : 0 < (q2.length : Int) := of_decide_eq_true ASq; obtain ⟨ad457, e457, q0s⟩ := Kd.at_int (Kd.V_reads' HO_9.out).2.2 0 p457 q457
                cases e457
                have qi457 : (0 < q2.length) = True := eq_true (by omega)
                (try rw [show ((0 : Int)).toNat = 0 from rfl] at q0s)
                (try rw [Addr.add_zero'] at q0s)
                replace p457 := eq_true p457; replace q457 := eq_true q457
                go_wp2
                go_meet
                case rel => exact ⟨_, (((Int.tmod (rd q2 0) 2) == 1)), RSq, (by first | exact H' | (subst_vars; exact H')), ⟨by have := qf.out; have := qj.out; first | omega | exact Nat.le_refl _⟩, ⟨kV HO_9⟩, ⟨kV HO_435002⟩, ⟨kB q1⟩, ⟨kHs HB q6⟩⟩
              rw [if_neg c44] at H
              exact absurd H (by simp)
            rw [if_neg c43] at H
            have qt : decide (0 < (q2.length : Int)) = false := decide_eq_false c43; have q0x : decide (0 < q2.length) = false := decide_eq_false (by omega); clear c43
            (first | rw [qt] | (simp only [i64_w, i32_w]; rw [qt]) | skip)
            have H' := aK H; clear H; obtain ⟨Ao46, co46, eo46⟩ := Kd.V_slice HO_9.out; subst eo46
            go_wp2
            go_meet
            case rel => exact ⟨_, (false), RSq, (by first | exact H' | (subst_vars; exact H')), ⟨by have := qf.out; have := qj.out; first | omega | exact Nat.le_refl _⟩, ⟨kV HO_9⟩, ⟨kV HO_435002⟩, ⟨kB q1⟩, ⟨kHs HB q6⟩⟩
          replace c42 := Bool.eq_false_iff.mpr c42; subst c42
          have H1 : (r4_To.j2 qp a2 q2 true true q3 q0 l0_2) = some (r1, r2) := by rw [if_neg (show ¬ (false = true) by decide)] at H; exact H
          clear H; have H := H1; clear H1; have H' := aK H; clear H
          go_wp2
          go_meet
          case rel => exact ⟨_, (true), RSq, (by first | exact H' | (subst_vars; exact H')), ⟨by have := qf.out; have := qj.out; first | omega | exact Nat.le_refl _⟩, ⟨kV HO_9⟩, ⟨kV HO_435002⟩, ⟨kB q1⟩, ⟨kHs HB q6⟩⟩
        replace c41 := Bool.eq_false_iff.mpr c41; subst c41
        have H1 : (r4_To.j2 qp a2 q2 false false q3 q0 l0_2) = some (r1, r2) := by rw [if_neg (show ¬ (false = true) by decide)] at H; exact H
        clear H; have H := H1; clear H1; have H' := aK H; clear H
        go_wp2
        go_meet
        case rel => exact ⟨_, (false), RSq, (by first | exact H' | (subst_vars; exact H')), ⟨by have := qf.out; have := qj.out; first | omega | exact Nat.le_refl _⟩, ⟨kV HO_9⟩, ⟨kV HO_435002⟩, ⟨kB q1⟩, ⟨kHs HB q6⟩⟩
       case rest =>
        clear q0w; (try clear c1); (try clear c2); (try clear p2); (try clear c3); (try clear c4); (try clear qw); (try clear p4); (try clear q4); (try clear hx4); (try clear qi4); (try clear p6); (try clear c7); (try clear c8); (try clear c9); (try clear c10); (try clear c21); (try clear qi); (try clear c30); (try clear c41); (try clear c42); (try clear c43); (try clear qt); (try clear q0x); (try clear c44); (try clear q18); (try clear q19); (try clear p45); (try clear q45); (try clear hx45); (try clear qi45); (try clear q09 q0a q0b); (try clear q0f q0g q0h); (try clear q0l q0m q0n); (try clear q03 q04 q05); (try clear q0c q0d q0e); (try clear q0i q0j q0k); (try clear q0o q0p q0q); (try clear q06 q07 q08); (try clear q0s); (try clear p2); (try clear p457); (try clear p6); (try clear q457); obtain ⟨kq, q0r, rfl, HA, q00, HO_9, HO_435002, q1, HB⟩ := hcut
        cases kq with
        | zero => exact absurd HA.out (by simp [r4_To.j2])
        | succ q1p =>
         have H := HA.out; clear HA
         simp only [r4_To.j2] at H
         have q0y := aK H; clear H
         go_upto_block 0 with (fail)
         go_cut [14] (fun v14 wc => ∃ (kq : Nat) (q0t : Bool), v14 = .bool q0t ∧ Aside0 (r4_To.j3 kq q2 q0t = some (r1, r2)) ∧ Aside0 (kq ≤ q1p) ∧ Aside0 (Kd.V (Kd.int .u32) 124 wc w.heap.size (fun k_ => (P0_2_ k_ ∨ w.heap.size ≤ k_) ∧ k_ ≠ q5) v439 q2) ∧ Aside0 (Kd.V (Kd.int .u32) 124 wc w.heap.size (fun k_ => (P0_2_ k_ ∨ w.heap.size ≤ k_) ∧ k_ ≠ q5) (.slice A0_2 l0_2.length c0_2) l0_2) ∧ Aside0 (wc.heap[q5]? = some (.cells #[.bool q3, .int .i64 q0, (.slice A0_2 l0_2.length c0_2)] 77 (0, 0))) ∧ Aside0 (Below w.heap.size w wc))
         case first =>
          have H := q0y.out; clear q0y
          by_cases c48 : a2 = 1
          · rw [if_pos c48] at H
            have qv : (a2 == 1) = true := beq_iff_eq.mpr c48; have q1a : (a2 != 1) = false := bne_eq_false_iff_eq.mpr c48; clear c48
            (first | rw [qv] | (simp only [i64_w, i32_w]; rw [qv]) | skip)
            have H' := aK H; clear H
            go_wp2
            go_meet
            case rel => exact ⟨_, (qo), RSq, (by first | exact H' | (subst_vars; exact H')), ⟨by have := qf.out; have := qj.out; have := q00.out; first | omega | exact Nat.le_refl _⟩, ⟨kV HO_9⟩, ⟨kV HO_435002⟩, ⟨kB q1⟩, ⟨kHs HB q6⟩⟩
          rw [if_neg c48] at H
          have qv : (a2 == 1) = false := beq_eq_false_iff_ne.mpr c48; have q1a : (a2 != 1) = true := bne_iff_ne.mpr c48
          (first | rw [qv] | (simp only [i64_w, i32_w]; rw [qv]) | skip)
          by_cases c49 : a2 = 2
          · rw [if_pos c49] at H
            have q1b : (a2 == 2) = true := beq_iff_eq.mpr c49; have q1c : (a2 != 2) = false := bne_eq_false_iff_eq.mpr c49; clear c49; have H' := aK H; clear H
            go_wp2
            go_meet
            case rel => exact ⟨_, (false), RSq, (by first | exact H' | (subst_vars; exact H')), ⟨by have := qf.out; have := qj.out; have := q00.out; first | omega | exact Nat.le_refl _⟩, ⟨kV HO_9⟩, ⟨kV HO_435002⟩, ⟨kB q1⟩, ⟨kHs HB q6⟩⟩
          rw [if_neg c49] at H
          have q1b : (a2 == 2) = false := beq_eq_false_iff_ne.mpr c49; have q1c : (a2 != 2) = true := bne_iff_ne.mpr c49
          by_cases c50 : a2 = 3
          · rw [if_pos c50] at H
            have q1d : (a2 == 3) = true := beq_iff_eq.mpr c50; have q1e : (a2 != 3) = false := bne_eq_false_iff_eq.mpr c50; clear c50; have H' := aK H; clear H; obtain ⟨q1q, q1r, q1s, q1t, q1u, q1v⟩ := W3q q1
            go_wp2
            go_meet
            case rel => exact ⟨_, (!q3), RSq, (by first | exact H' | (subst_vars; exact H')), ⟨by have := qf.out; have := qj.out; have := q00.out; first | omega | exact Nat.le_refl _⟩, ⟨kV HO_9⟩, ⟨kV HO_435002⟩, ⟨kB q1⟩, ⟨kHs HB q6⟩⟩
          rw [if_neg c50] at H
          have q1d : (a2 == 3) = false := beq_eq_false_iff_ne.mpr c50; have q1e : (a2 != 3) = true := bne_iff_ne.mpr c50
          by_cases c52 : a2 = 4
          · rw [if_pos c52] at H
            have q1f : (a2 == 4) = true := beq_iff_eq.mpr c52; have q1g : (a2 != 4) = false := bne_eq_false_iff_eq.mpr c52; clear c52; have H' := aK H; clear H; obtain ⟨q1w, q1x, q1y, q1z, q20, q21⟩ := W3q q1
            go_wp2
            go_meet
            case rel => exact ⟨_, (q3), RSq, (by first | exact H' | (subst_vars; exact H')), ⟨by have := qf.out; have := qj.out; have := q00.out; first | omega | exact Nat.le_refl _⟩, ⟨kV HO_9⟩, ⟨kV HO_435002⟩, ⟨kB q1⟩, ⟨kHs HB q6⟩⟩
          rw [if_neg c52] at H
          have q1f : (a2 == 4) = false := beq_eq_false_iff_ne.mpr c52; have q1g : (a2 != 4) = true := bne_iff_ne.mpr c52; have H' := aK H; clear H
          go_wp2
          go_meet
          case rel => exact ⟨_, (q0r), RSq, (by first | exact H' | (subst_vars; exact H')), ⟨by have := qf.out; have := qj.out; have := q00.out; first | omega | exact Nat.le_refl _⟩, ⟨kV HO_9⟩, ⟨kV HO_435002⟩, ⟨kB q1⟩, ⟨kHs HB q6⟩⟩
         case rest =>
          clear q0y; (try clear c1); (try clear c2); (try clear p2); (try clear c3); (try clear c4); (try clear qw); (try clear p4); (try clear q4); (try clear hx4); (try clear qi4); (try clear c5); (try clear p6); (try clear c7); (try clear c8); (try clear c9); (try clear c10); (try clear c21); (try clear qi); (try clear c30); (try clear c41); (try clear c42); (try clear c43); (try clear qt); (try clear q0x); (try clear c44); (try clear q18); (try clear q19); (try clear p45); (try clear q45); (try clear hx45); (try clear qi45); (try clear c48); (try clear qv); (try clear q1a); (try clear c49); (try clear q1b); (try clear q1c); (try clear c50); (try clear q1d); (try clear q1e); (try clear c52); (try clear q1f); (try clear q1g); (try clear q09 q0a q0b); (try clear q0f q0g q0h); (try clear q0l q0m q0n); (try clear q1q q1r q1s); (try clear q1w q1x q1y); (try clear q03 q04 q05); (try clear q0c q0d q0e); (try clear q0i q0j q0k); (try clear q0o q0p q0q); (try clear q1t q1u q1v); (try clear q1z q20 q21); (try clear q06 q07 q08); (try clear q0s); (try clear p2); (try clear p4); (try clear p45); (try clear p457); (try clear p6); (try clear q4); (try clear q45); (try clear q457); obtain ⟨kq, q0t, rfl, HA, HJ46, HO_9, HO_435002, q1, HB⟩ := hcut
          cases kq with
          | zero => exact absurd HA.out (by simp [r4_To.j3])
          | succ q01 =>
           have H := HA.out; clear HA
           simp only [r4_To.j3] at H
           by_cases c54 : q0t = true
           · subst c54
             have H1 : ((r2_Of.f q01 1).bind fun qm => ((r2_Add.f q01 q2 qm).bind fun qn => (some (qn, true)))) = some (r1, r2) := by rw [if_pos rfl] at H; exact H
             clear H; have H := H1; clear H1; replace H := Option.bind_eq_some_iff.mp H; obtain ⟨qm, q1h, H⟩ := H; replace H : ((r2_Add.f q01 q2 qm).bind fun qn => (some (qn, true))) = some (r1, r2) := H; have A55 := aK q1h; clear q1h; replace H := Option.bind_eq_some_iff.mp H; obtain ⟨qn, q1i, H⟩ := H; replace H : (some (qn, true)) = some (r1, r2) := H; have A56 := aK q1i; clear q1i
             simp only [Option.some.injEq, Prod.mk.injEq] at H
             obtain ⟨rfl, rfl⟩ := H
             go_wp2_with (first | ((with_reducible refine gate_callee (f := 71) rfl ?_); refine goesL_ (some 103) rfl rfl Try.func71 (by kernel_rfl) rfl #[.int .u64 1] rfl LMq ?_; (with_reducible refine (r2_Of.calls q01 1 qm _ A55.out).mono ?_); rintro e w57 ⟨v459, rfl, ho0, hb⟩; refine ⟨_, rfl, ?_⟩; replace HO_9 := aK (Kd.V_below (kV HO_9) hb); replace HO_435002 := aK (Kd.V_below (kV HO_435002) hb); have q02 := aK (Kd.V_lower (Kd.V_mono (ok' := fun k_ => (P0_2_ k_ ∨ w.heap.size ≤ k_) ∧ k_ ≠ q5) ho0 (fun k_ hk_ => ⟨(.inr (Nat.le_trans (below_size (kHs HB q6)) hk_)), (Kd.freshB (g := q5) (o := .cells #[.bool q3, .int .i64 q0, .slice A0_2 l0_2.length c0_2] 77 (0, 0)) (kB q1) k_ hk_)⟩)) (below_size (kHs HB q6))); replace q1 := aK (blk_below (g := q5) (o := .cells #[.bool q3, .int .i64 q0, .slice A0_2 l0_2.length c0_2] 77 (0, 0)) (kB q1) hb); replace HB := aK (below_step (kHs HB q6) hb); (try clear hb); (try clear hb2); (try clear hk); (try clear hi); (try clear ho0); obtain ⟨q22, q23, eo58⟩ := Kd.V_slice HO_9.out; subst eo58; obtain ⟨q24, q25, eo59⟩ := Kd.V_slice q02.out; subst eo59) | ((with_reducible refine gate_callee (f := 72) rfl ?_); refine goesL_ (some 104) rfl rfl Try.func72 (by kernel_rfl) rfl #[.slice q22 q2.length q23, .slice q24 qm.length q25] rfl LMq ?_; (with_reducible refine (r2_Add.calls q01 _ _ q2 _ _ qm qn _ ?side1 ?side2 ?side3 ?side4 A56.out).mono ?_); (case side1 => exact kC (Kd.V_reads' HO_9.out).2.2); (case side2 => exact (Kd.V_reads' HO_9.out).2.1); (case side3 => exact kC (Kd.V_reads' q02.out).2.2); (case side4 => exact (Kd.V_reads' q02.out).2.1); rintro e w60 ⟨v462, rfl, ho0, hb⟩; refine ⟨_, rfl, ?_⟩; replace HO_9 := aK (Kd.V_below (kV HO_9) hb); replace HO_435002 := aK (Kd.V_below (kV HO_435002) hb); replace q02 := aK (Kd.V_below (kV q02) hb); have q26 := aK (Kd.V_lower (Kd.V_mono (ok' := fun k_ => (P0_2_ k_ ∨ w.heap.size ≤ k_) ∧ k_ ≠ q5) ho0 (fun k_ hk_ => ⟨(.inr (Nat.le_trans (below_size (kHs HB q6)) hk_)), (Kd.freshB (g := q5) (o := .cells #[.bool q3, .int .i64 q0, .slice A0_2 l0_2.length c0_2] 77 (0, 0)) (kB q1) k_ hk_)⟩)) (below_size (kHs HB q6))); replace q1 := aK (blk_below (g := q5) (o := .cells #[.bool q3, .int .i64 q0, .slice A0_2 l0_2.length c0_2] 77 (0, 0)) (kB q1) hb); replace HB := aK (below_step (kHs HB q6) hb); (try clear hb); (try clear hb2); (try clear hk); (try clear hi); (try clear ho0)))
             go_ret2
             exact ⟨_, by first | rfl | (simp [errW_none, errW_some] <;> rfl) | (simp [*, errW_none, errW_some] <;> rfl), by (with_reducible repeat (first | apply Kd.V_alloc | apply Kd.V_drewN | apply Kd.V_drew)); exact Kd.V_mono q26.out (fun _ hk => hk.1), kHs HB q6⟩
           replace c54 := Bool.eq_false_iff.mpr c54; subst c54
           have H1 : (some (q2, true)) = some (r1, r2) := by rw [if_neg (show ¬ (false = true) by decide)] at H; exact H
           clear H; have H := H1; clear H1
           simp only [Option.some.injEq, Prod.mk.injEq] at H
           obtain ⟨rfl, rfl⟩ := H
           go_wp2
           go_ret2
           exact ⟨_, by first | rfl | (simp [errW_none, errW_some] <;> rfl) | (simp [*, errW_none, errW_some] <;> rfl), by (with_reducible repeat (first | apply Kd.V_alloc | apply Kd.V_drewN | apply Kd.V_drew)); exact Kd.V_mono HO_9.out (fun _ hk => hk.1), kHs HB q6⟩
 replace c10 := Bool.eq_false_iff.mpr c10; subst c10
 have H1 : (some (q2, false)) = some (r1, r2) := by rw [if_neg (show ¬ (false = true) by decide)] at H; exact H
 clear H; have H := H1; clear H1
 simp only [Option.some.injEq, Prod.mk.injEq] at H
 obtain ⟨rfl, rfl⟩ := H
 go_enter Try.func88, Try.ntmps88
 go_wp2_with (first | ((with_reducible refine gate_dst (N := 3) rfl ?_); (try (refine gate_guard (by rfl) ?_; dsimp only)); refine box_event ?hg (N := 3) ?hd (cs := #[.bool q3, .int .i64 q0, .slice A0_2 l0_2.length c0_2]) (t := 77) ?hr ?_; (case hd => rfl); (case hg => rfl); (case hr => first | (go_simp; done) | (go_simp; rfl)); intro q5 hg w61 hbox hb; replace HO0_2 := aK (Kd.V_below (Kd.V_elderB (kV HO0_2) q5 (Nat.le_of_eq hg.symm)) hb); have q1 := aK (hbox); have q0z := aK ((by rw [hg]; exact (below_size (kH HB)) : w.heap.size ≤ q5)); have q6 := aK ((by rw [hg]; exact (below_size (kH HB)) : w.heap.size ≤ q5)); replace HB := aK (below_step (kH HB) hb); clear hb hbox hg; obtain ⟨_, _, _, _, _, _⟩ := W3q q1) | ((with_reducible refine gate_callee (f := 106) rfl ?_); refine goesL_ (some 34) rfl rfl Try.func106 (by kernel_rfl) rfl #[.slice A0_2 l0_2.length c0_2, .int .i64 (wrap64 (a1 - q0))] rfl LMq ?_; (with_reducible refine (r2_Shr.calls k (fun k_ => ((P0_2_ k_ ∨ w.heap.size ≤ k_) ∧ k_ ≠ q5)) _ _ l0_2 (wrap64 (a1 - q0)) q2 false _ ?side1 A9.out).mono ?_); (case side1 => exact HO0_2.out); rintro e w63 ⟨v439, rfl, ho0, hb⟩; refine ⟨_, rfl, ?_⟩; replace HO0_2 := aK (Kd.V_below (kV HO0_2) hb); have q8 := aK (Kd.V_lower (Kd.V_mono (ok' := fun k_ => (P0_2_ k_ ∨ w.heap.size ≤ k_) ∧ k_ ≠ q5) ho0 (fun k_ hk_ => ⟨Or.elim hk_ (fun hs_ => hs_.1) (fun hn_ => (.inr (Nat.le_trans (below_size (kHs HB q6)) hn_))), Or.elim hk_ (fun hs_ => hs_.2) (fun hn_ => (Kd.freshB (g := q5) (o := .cells #[.bool q3, .int .i64 q0, .slice A0_2 l0_2.length c0_2] 77 (0, 0)) (kB q1) k_ hn_))⟩)) (below_size (kHs HB q6))); replace q1 := aK (blk_below (g := q5) (o := .cells #[.bool q3, .int .i64 q0, .slice A0_2 l0_2.length c0_2] 77 (0, 0)) (kB q1) hb); replace HB := aK (below_step (kHs HB q6) hb); (try clear hb); (try clear hb2); (try clear hk); (try clear hi); (try clear ho0)))
 go_ret2
 exact ⟨_, by first | rfl | (simp [errW_none, errW_some] <;> rfl) | (simp [*, errW_none, errW_some] <;> rfl), by (with_reducible repeat (first | apply Kd.V_alloc | apply Kd.V_drewN | apply Kd.V_drew)); exact Kd.V_mono q8.out (fun _ hk => hk.1), kHs HB q6⟩
end Go.Proofs.Ythcgeekibomhiaa.X
