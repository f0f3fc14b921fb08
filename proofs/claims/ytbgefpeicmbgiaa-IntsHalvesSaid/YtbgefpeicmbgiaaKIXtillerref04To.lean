import Derived.Test.YtbgefpeicmbgiaaKI4
import Derived.Test.YtbgefpeicmbgiaaKI14
import Derived.Test.YtbgefpeicmbgiaaKIXtillerref02Shr
namespace Go.Proofs.Ytbgefpeicmbgiaa.X
open Go.RowKit Go.Proofs.YtbgefpeicmbgiaaW.PrintWords Go.Proofs.YtbgefpeicmbgiaaW.PrintLast Go.Proofs.YtbgefpeicmbgiaaW.PrintMore
attribute [local go_sem] max2_int min2_int max_two min_two max_three min_three max_four min_four   
set_option linter.unusedVariables false
set_option linter.unusedSimpArgs false
mutual
def r4_To.j0 : Nat → Int → Int → List Int → Bool → List Int → Bool → Int → List Int → Option (List Int × Bool)
 | 0, _, _, _, _, _, _, _, _ => none
 | k + 1, x2, x8, x9, x11, x12, qe, qi, qj => if x11 = true then ((r2_Of.f k 1).bind fun qo => ((r2_Shl.f k qo (wrap64 (x8 - 1))).bind fun qf => ((r2_Cmp.f k x12 qf).bind fun qb => (r4_To.j1 k x2 x9 x11 (qb == 0) qe qi qj)))) else (r4_To.j1 k x2 x9 x11 false qe qi qj)
def r4_To.j1 : Nat → Int → List Int → Bool → Bool → Bool → Int → List Int → Option (List Int × Bool)
 | 0, _, _, _, _, _, _, _ => none
 | k + 1, x2, x9, x11, x13, qe, qi, qj => if x11 = true then (if x13 = true then (if (x9.length : Int) > 0 then (if 0 < (x9.length : Int) then (r4_To.j2 k x2 x9 x11 ((Int.tmod (rd x9 0) 2) == 1) qe qi qj) else (none)) else (r4_To.j2 k x2 x9 x11 false qe qi qj)) else (r4_To.j2 k x2 x9 x11 true qe qi qj)) else (r4_To.j2 k x2 x9 x11 false qe qi qj)
def r4_To.j2 : Nat → Int → List Int → Bool → Bool → Bool → Int → List Int → Option (List Int × Bool)
 | 0, _, _, _, _, _, _, _ => none
 | k + 1, x2, x9, x11, x14, qe, qi, qj => if x2 = 1 then (r4_To.j3 k x9 x11) else (if x2 = 2 then (r4_To.j3 k x9 false) else (if x2 = 3 then (r4_To.j3 k x9 (!qe)) else (if x2 = 4 then (r4_To.j3 k x9 qe) else (r4_To.j3 k x9 x14))))
def r4_To.j3 : Nat → List Int → Bool → Option (List Int × Bool)
 | 0, _, _ => none
 | k + 1, x9, x14 => if x14 = true then ((r2_Of.f k 1).bind fun qk => ((r2_Add.f k x9 qk).bind fun ql => (some (ql, true)))) else (some (x9, true))
end
def r4_To.f (k : Nat) (a0_0 : Bool) (a0_1 : Int) (l0_2 : List Int) (a1 : Int) (a2 : Int) : Option (List Int × Bool) := if a0_1 ≥ a1 then ((r2_Shl.f k l0_2 (wrap64 (a0_1 - a1))).bind fun qs => (some (qs, false))) else ((r2_Shr.f k l0_2 (wrap64 (a1 - a0_1))).bind fun qc => (if qc.2 = true then ((r2_Bit.f k l0_2 (wrap64 ((wrap64 (a1 - a0_1)) - 1))).bind fun q5 => ((r2_Len.f k l0_2).bind fun q9 => (if (wrap64 (a1 - a0_1)) ≤ q9 then ((r2_Shl.f k qc.1 (wrap64 (a1 - a0_1))).bind fun q8 => ((r2_Sub.f k l0_2 q8).bind fun q7 => (r4_To.j0 k a2 (wrap64 (a1 - a0_1)) qc.1 (q5 == 1) q7 a0_0 a0_1 l0_2))) else (r4_To.j0 k a2 (wrap64 (a1 - a0_1)) qc.1 (q5 == 1) l0_2 a0_0 a0_1 l0_2)))) else (some (qc.1, false))))
theorem r4_To.mono_l : ∀ k, (∀ y0 y1 y2 y3 y4 y5 y6 y7, LeO (r4_To.j0 k y0 y1 y2 y3 y4 y5 y6 y7) (r4_To.j0 (k + 1) y0 y1 y2 y3 y4 y5 y6 y7)) ∧ (∀ y0 y1 y2 y3 y4 y5 y6, LeO (r4_To.j1 k y0 y1 y2 y3 y4 y5 y6) (r4_To.j1 (k + 1) y0 y1 y2 y3 y4 y5 y6)) ∧ (∀ y0 y1 y2 y3 y4 y5 y6, LeO (r4_To.j2 k y0 y1 y2 y3 y4 y5 y6) (r4_To.j2 (k + 1) y0 y1 y2 y3 y4 y5 y6)) ∧ (∀ y0 y1, LeO (r4_To.j3 k y0 y1) (r4_To.j3 (k + 1) y0 y1))
 | 0 => ⟨fun _ _ _ _ _ _ _ _ r h => by simp [r4_To.j0] at h, fun _ _ _ _ _ _ _ r h => by simp [r4_To.j1] at h, fun _ _ _ _ _ _ _ r h => by simp [r4_To.j2] at h, fun _ _ r h => by simp [r4_To.j3] at h⟩
 | k + 1 => by
  obtain ⟨ih0, ih1, ih2, ih3⟩ := r4_To.mono_l k; refine ⟨?_, ?_, ?_, ?_⟩
  · intro y0 y1 y2 y3 y4 y5 y6 y7
    unfold r4_To.j0
    repeat' first
    | (with_reducible exact ih0 _ _ _ _ _ _ _ _)
    | (with_reducible exact ih1 _ _ _ _ _ _ _)
    | (with_reducible exact ih2 _ _ _ _ _ _ _)
    | (with_reducible exact ih3 _ _)
    | (with_reducible exact r2_Add.mono _ _ _)
    | (with_reducible exact r2_Bit.mono _ _ _)
    | (with_reducible exact r2_Cmp.mono _ _ _)
    | (with_reducible exact r2_Len.mono _ _)
    | (with_reducible exact r2_Of.mono _ _)
    | (with_reducible exact r2_Shl.mono _ _ _)
    | (with_reducible exact r2_Shr.mono _ _ _)
    | (with_reducible exact r2_Sub.mono _ _ _)
    | (with_reducible exact LeO.refl _)
    | (with_reducible exact LeO.none _)
    | (with_reducible refine LeO.ite ?_ ?_)
    | (with_reducible refine LeO.bind ?_ (fun _ => ?_))
    | exact ih0 _ _ _ _ _ _ _ _
    | exact ih1 _ _ _ _ _ _ _
    | exact ih2 _ _ _ _ _ _ _
    | exact ih3 _ _
    | exact r2_Add.mono _ _ _
    | exact r2_Bit.mono _ _ _
    | exact r2_Cmp.mono _ _ _
    | exact r2_Len.mono _ _
    | exact r2_Of.mono _ _
    | exact r2_Shl.mono _ _ _
    | exact r2_Shr.mono _ _ _
    | exact r2_Sub.mono _ _ _
    | exact LeO.none _
    | refine LeO.ite ?_ ?_
    | refine LeO.bind ?_ (fun _ => ?_)
  · intro y0 y1 y2 y3 y4 y5 y6
    unfold r4_To.j1
    repeat' first
    | (with_reducible exact ih0 _ _ _ _ _ _ _ _)
    | (with_reducible exact ih1 _ _ _ _ _ _ _)
    | (with_reducible exact ih2 _ _ _ _ _ _ _)
    | (with_reducible exact ih3 _ _)
    | (with_reducible exact r2_Add.mono _ _ _)
    | (with_reducible exact r2_Bit.mono _ _ _)
    | (with_reducible exact r2_Cmp.mono _ _ _)
    | (with_reducible exact r2_Len.mono _ _)
    | (with_reducible exact r2_Of.mono _ _)
    | (with_reducible exact r2_Shl.mono _ _ _)
    | (with_reducible exact r2_Shr.mono _ _ _)
    | (with_reducible exact r2_Sub.mono _ _ _)
    | (with_reducible exact LeO.refl _)
    | (with_reducible exact LeO.none _)
    | (with_reducible refine LeO.ite ?_ ?_)
    | (with_reducible refine LeO.bind ?_ (fun _ => ?_))
    | exact ih0 _ _ _ _ _ _ _ _
    | exact ih1 _ _ _ _ _ _ _
    | exact ih2 _ _ _ _ _ _ _
    | exact ih3 _ _
    | exact r2_Add.mono _ _ _
    | exact r2_Bit.mono _ _ _
    | exact r2_Cmp.mono _ _ _
    | exact r2_Len.mono _ _
    | exact r2_Of.mono _ _
    | exact r2_Shl.mono _ _ _
    | exact r2_Shr.mono _ _ _
    | exact r2_Sub.mono _ _ _
    | exact LeO.none _
    | refine LeO.ite ?_ ?_
    | refine LeO.bind ?_ (fun _ => ?_)
  · intro y0 y1 y2 y3 y4 y5 y6
    unfold r4_To.j2
    repeat' first
    | (with_reducible exact ih0 _ _ _ _ _ _ _ _)
    | (with_reducible exact ih1 _ _ _ _ _ _ _)
    | (with_reducible exact ih2 _ _ _ _ _ _ _)
    | (with_reducible exact ih3 _ _)
    | (with_reducible exact r2_Add.mono _ _ _)
    | (with_reducible exact r2_Bit.mono _ _ _)
    | (with_reducible exact r2_Cmp.mono _ _ _)
    | (with_reducible exact r2_Len.mono _ _)
    | (with_reducible exact r2_Of.mono _ _)
    | (with_reducible exact r2_Shl.mono _ _ _)
    | (with_reducible exact r2_Shr.mono _ _ _)
    | (with_reducible exact r2_Sub.mono _ _ _)
    | (with_reducible exact LeO.refl _)
    | (with_reducible exact LeO.none _)
    | (with_reducible refine LeO.ite ?_ ?_)
    | (with_reducible refine LeO.bind ?_ (fun _ => ?_))
    | exact ih0 _ _ _ _ _ _ _ _
    | exact ih1 _ _ _ _ _ _ _
    | exact ih2 _ _ _ _ _ _ _
    | exact ih3 _ _
    | exact r2_Add.mono _ _ _
    | exact r2_Bit.mono _ _ _
    | exact r2_Cmp.mono _ _ _
    | exact r2_Len.mono _ _
    | exact r2_Of.mono _ _
    | exact r2_Shl.mono _ _ _
    | exact r2_Shr.mono _ _ _
    | exact r2_Sub.mono _ _ _
    | exact LeO.none _
    | refine LeO.ite ?_ ?_
    | refine LeO.bind ?_ (fun _ => ?_)
  intro y0 y1
  unfold r4_To.j3
  repeat' first
  | (with_reducible exact ih0 _ _ _ _ _ _ _ _)
  | (with_reducible exact ih1 _ _ _ _ _ _ _)
  | (with_reducible exact ih2 _ _ _ _ _ _ _)
  | (with_reducible exact ih3 _ _)
  | (with_reducible exact r2_Add.mono _ _ _)
  | (with_reducible exact r2_Bit.mono _ _ _)
  | (with_reducible exact r2_Cmp.mono _ _ _)
  | (with_reducible exact r2_Len.mono _ _)
  | (with_reducible exact r2_Of.mono _ _)
  | (with_reducible exact r2_Shl.mono _ _ _)
  | (with_reducible exact r2_Shr.mono _ _ _)
  | (with_reducible exact r2_Sub.mono _ _ _)
  | (with_reducible exact LeO.refl _)
  | (with_reducible exact LeO.none _)
  | (with_reducible refine LeO.ite ?_ ?_)
  | (with_reducible refine LeO.bind ?_ (fun _ => ?_))
  | exact ih0 _ _ _ _ _ _ _ _
  | exact ih1 _ _ _ _ _ _ _
  | exact ih2 _ _ _ _ _ _ _
  | exact ih3 _ _
  | exact r2_Add.mono _ _ _
  | exact r2_Bit.mono _ _ _
  | exact r2_Cmp.mono _ _ _
  | exact r2_Len.mono _ _
  | exact r2_Of.mono _ _
  | exact r2_Shl.mono _ _ _
  | exact r2_Shr.mono _ _ _
  | exact r2_Sub.mono _ _ _
  | exact LeO.none _
  | refine LeO.ite ?_ ?_
  | refine LeO.bind ?_ (fun _ => ?_)
theorem r4_To.mono : ∀ a0 a1 a2 a3 a4 k, LeO (r4_To.f k a0 a1 a2 a3 a4) (r4_To.f (k + 1) a0 a1 a2 a3 a4) := by
 intro a0 a1 a2 a3 a4 k; obtain ⟨ih0, ih1, ih2, ih3⟩ := r4_To.mono_l k
 unfold r4_To.f
 repeat' first
  | (with_reducible exact ih0 _ _ _ _ _ _ _ _)
  | (with_reducible exact ih1 _ _ _ _ _ _ _)
  | (with_reducible exact ih2 _ _ _ _ _ _ _)
  | (with_reducible exact ih3 _ _)
  | (with_reducible exact r2_Add.mono _ _ _)
  | (with_reducible exact r2_Bit.mono _ _ _)
  | (with_reducible exact r2_Cmp.mono _ _ _)
  | (with_reducible exact r2_Len.mono _ _)
  | (with_reducible exact r2_Of.mono _ _)
  | (with_reducible exact r2_Shl.mono _ _ _)
  | (with_reducible exact r2_Shr.mono _ _ _)
  | (with_reducible exact r2_Sub.mono _ _ _)
  | (with_reducible exact LeO.refl _)
  | (with_reducible exact LeO.none _)
  | (with_reducible refine LeO.ite ?_ ?_)
  | (with_reducible refine LeO.bind ?_ (fun _ => ?_))
  | exact ih0 _ _ _ _ _ _ _ _
  | exact ih1 _ _ _ _ _ _ _
  | exact ih2 _ _ _ _ _ _ _
  | exact ih3 _ _
  | exact r2_Add.mono _ _ _
  | exact r2_Bit.mono _ _ _
  | exact r2_Cmp.mono _ _ _
  | exact r2_Len.mono _ _
  | exact r2_Of.mono _ _
  | exact r2_Shl.mono _ _ _
  | exact r2_Shr.mono _ _ _
  | exact r2_Sub.mono _ _ _
  | exact LeO.none _
  | refine LeO.ite ?_ ?_
  | refine LeO.bind ?_ (fun _ => ?_)
set_option maxHeartbeats 8000000 in
set_option maxRecDepth 100000 in
theorem r4_To.calls (k : Nat) (a0_0 : Bool) (a0_1 : Int) (P0_2_ : Nat → Prop) (A0_2 : Option Addr) (c0_2 : Nat) (l0_2 : List Int) (a1 : Int) (a2 : Int) (r1 : List Int) (r2 : Bool) (w : World) (hs0_2 : Kd.V (Kd.int .u32) 41 w w.heap.size (fun k_ => P0_2_ k_) (.slice A0_2 l0_2.length c0_2) l0_2) (h : r4_To.f k a0_0 a0_1 l0_2 a1 a2 = some (r1, r2)) :
 Calls Try.prog 38 #[.agg #[.bool a0_0, .int .i64 a0_1, .slice A0_2 l0_2.length c0_2], .int .i64 a1, .int .i64 a2] w fun e w' => ∃ v0_ : Value, e = .returned (.tuple #[v0_, .bool r2]) ∧ Kd.V (Kd.int .u32) 41 w' w.heap.size (fun k_ => (P0_2_ k_ ∨ w.heap.size ≤ k_)) v0_ r1 ∧ Below w.heap.size w w' := by
 have hu67 := Try.underlying67; have HO0_2 := Aside0.mk (show Kd.V (Kd.int .u32) 41 w w.heap.size (fun k_ => (P0_2_ k_ ∨ w.heap.size ≤ k_)) (.slice A0_2 l0_2.length c0_2) l0_2 from Kd.V_mono hs0_2 (fun k_ hk => .inl hk)); have HB := Aside0.mk (Below.refl w.heap.size w); have H : (if a0_1 ≥ a1 then ((r2_Shl.f k l0_2 (wrap64 (a0_1 - a1))).bind fun qs => (some (qs, false))) else ((r2_Shr.f k l0_2 (wrap64 (a1 - a0_1))).bind fun qc => (if qc.2 = true then ((r2_Bit.f k l0_2 (wrap64 ((wrap64 (a1 - a0_1)) - 1))).bind fun q5 => ((r2_Len.f k l0_2).bind fun q9 => (if (wrap64 (a1 - a0_1)) ≤ q9 then ((r2_Shl.f k qc.1 (wrap64 (a1 - a0_1))).bind fun q8 => ((r2_Sub.f k l0_2 q8).bind fun q7 => (r4_To.j0 k a2 (wrap64 (a1 - a0_1)) qc.1 (q5 == 1) q7 a0_0 a0_1 l0_2))) else (r4_To.j0 k a2 (wrap64 (a1 - a0_1)) qc.1 (q5 == 1) l0_2 a0_0 a0_1 l0_2)))) else (some (qc.1, false))))) = some (r1, r2) := h; clear h
 by_cases c4 : a0_1 ≥ a1
 · rw [if_pos c4] at H
   have qu : decide (a1 ≤ a0_1) = true := decide_eq_true c4; clear c4; replace H := Option.bind_eq_some_iff.mp H; obtain ⟨qs, A50, H⟩ := H; replace H : (some (qs, false)) = some (r1, r2) := H; have A5 := Aside0.mk A50; clear A50
   simp only [Option.some.injEq, Prod.mk.injEq] at H
   obtain ⟨rfl, rfl⟩ := H
   go_enter Try.func38, Try.ntmps38
   go_wp2_with (first | ((with_reducible refine gate_dst (N := 3) rfl ?_); (try (refine gate_guard (by rfl) ?_; dsimp only)); refine box_event ?hg (N := 3) ?hd (cs := #[.bool a0_0, .int .i64 a0_1, .slice A0_2 l0_2.length c0_2]) (t := 67) ?hr ?_; (case hd => rfl); (case hg => rfl); (case hr => first | (go_simp; done) | (go_simp; rfl)); intro q1 hg w6 hbox hb; replace HO0_2 := Aside0.mk (Kd.V_below (Kd.V_elderB (kV HO0_2) q1 (Nat.le_of_eq hg.symm)) hb); have q0 := Aside0.mk (hbox); have q0x := Aside0.mk ((by rw [hg]; exact (below_size (kH HB)) : w.heap.size ≤ q1)); have q4 := Aside0.mk ((by rw [hg]; exact (below_size (kH HB)) : w.heap.size ≤ q1)); replace HB := Aside0.mk (below_step (kH HB) hb); clear hb hbox hg; have q01 : w6.cell? ⟨q1, 0, none⟩ = some (.bool a0_0) := bc q0 0; have q02 : w6.cell? ⟨q1, 1, none⟩ = some (.int .i64 a0_1) := bc q0 1; have q03 : w6.cell? ⟨q1, 2, none⟩ = some (.slice A0_2 l0_2.length c0_2) := bc q0 2; have q04 := blk_frozen q0.out 0; have q05 := blk_frozen q0.out 1; have q06 := blk_frozen q0.out 2) | ((with_reducible refine gate_callee (f := 73) rfl ?_); refine goesL_ (some 25) rfl rfl Try.func73 (by kernel_rfl) rfl #[.slice A0_2 l0_2.length c0_2, .int .i64 (wrap64 (a0_1 - a1))] rfl LMq ?_; (with_reducible refine (r2_Shl.calls k _ _ l0_2 (wrap64 (a0_1 - a1)) qs _ ?side1 ?side2 A5.out).mono ?_); (case side1 => exact kC (Kd.V_reads' HO0_2.out).2.2); (case side2 => exact (Kd.V_reads' HO0_2.out).2.1); rintro e w8 ⟨v180, rfl, ho0, hb⟩; refine ⟨_, rfl, ?_⟩; replace HO0_2 := Aside0.mk (Kd.V_below (kV HO0_2) hb); have q1h := Aside0.mk (Kd.V_lower (Kd.V_mono (ok' := fun k_ => (P0_2_ k_ ∨ w.heap.size ≤ k_) ∧ k_ ≠ q1) ho0 (fun k_ hk_ => ⟨(.inr (Nat.le_trans (below_size (kHs HB q4)) hk_)), (Kd.freshB (g := q1) (o := .cells #[.bool a0_0, .int .i64 a0_1, .slice A0_2 l0_2.length c0_2] 67 (0, 0)) (kB q0) k_ hk_)⟩)) (below_size (kHs HB q4))); replace q0 := Aside0.mk (blk_below (g := q1) (o := .cells #[.bool a0_0, .int .i64 a0_1, .slice A0_2 l0_2.length c0_2] 67 (0, 0)) (kB q0) hb); replace HB := Aside0.mk (below_step (kHs HB q4) hb); (try clear hb); (try clear hb2); (try clear hk); (try clear hi); (try clear ho0)))
   go_ret2
   exact ⟨_, by first | rfl | (simp [errW_none, errW_some] <;> rfl) | (simp [*, errW_none, errW_some] <;> rfl), by (with_reducible repeat (first | apply Kd.V_alloc | apply Kd.V_drewN | apply Kd.V_drew)); exact Kd.V_mono q1h.out (fun _ hk => hk.1), kHs HB q4⟩
 rw [if_neg c4] at H
 have qu : decide (a1 ≤ a0_1) = false := decide_eq_false c4; clear c4; replace H := Option.bind_eq_some_iff.mp H; obtain ⟨⟨q3, q0y⟩, A90, H⟩ := H; replace H : (if q0y = true then ((r2_Bit.f k l0_2 (wrap64 ((wrap64 (a1 - a0_1)) - 1))).bind fun q5 => ((r2_Len.f k l0_2).bind fun q9 => (if (wrap64 (a1 - a0_1)) ≤ q9 then ((r2_Shl.f k q3 (wrap64 (a1 - a0_1))).bind fun q8 => ((r2_Sub.f k l0_2 q8).bind fun q7 => (r4_To.j0 k a2 (wrap64 (a1 - a0_1)) q3 (q5 == 1) q7 a0_0 a0_1 l0_2))) else (r4_To.j0 k a2 (wrap64 (a1 - a0_1)) q3 (q5 == 1) l0_2 a0_0 a0_1 l0_2)))) else (some (q3, false))) = some (r1, r2) := H; have A9 := Aside0.mk A90; clear A90
 by_cases c10 : q0y = true
 · subst c10
   have H1 : ((r2_Bit.f k l0_2 (wrap64 ((wrap64 (a1 - a0_1)) - 1))).bind fun q5 => ((r2_Len.f k l0_2).bind fun q9 => (if (wrap64 (a1 - a0_1)) ≤ q9 then ((r2_Shl.f k q3 (wrap64 (a1 - a0_1))).bind fun q8 => ((r2_Sub.f k l0_2 q8).bind fun q7 => (r4_To.j0 k a2 (wrap64 (a1 - a0_1)) q3 (q5 == 1) q7 a0_0 a0_1 l0_2))) else (r4_To.j0 k a2 (wrap64 (a1 - a0_1)) q3 (q5 == 1) l0_2 a0_0 a0_1 l0_2)))) = some (r1, r2) := by rw [if_pos rfl] at H; exact H
   clear H; have H := H1; clear H1; replace H := Option.bind_eq_some_iff.mp H; obtain ⟨q5, q0z, H⟩ := H; replace H : ((r2_Len.f k l0_2).bind fun q9 => (if (wrap64 (a1 - a0_1)) ≤ q9 then ((r2_Shl.f k q3 (wrap64 (a1 - a0_1))).bind fun q8 => ((r2_Sub.f k l0_2 q8).bind fun q7 => (r4_To.j0 k a2 (wrap64 (a1 - a0_1)) q3 (q5 == 1) q7 a0_0 a0_1 l0_2))) else (r4_To.j0 k a2 (wrap64 (a1 - a0_1)) q3 (q5 == 1) l0_2 a0_0 a0_1 l0_2))) = some (r1, r2) := H; have A11 := Aside0.mk q0z; clear q0z; replace H := Option.bind_eq_some_iff.mp H; obtain ⟨q9, q10, H⟩ := H; replace H : (if (wrap64 (a1 - a0_1)) ≤ q9 then ((r2_Shl.f k q3 (wrap64 (a1 - a0_1))).bind fun q8 => ((r2_Sub.f k l0_2 q8).bind fun q7 => (r4_To.j0 k a2 (wrap64 (a1 - a0_1)) q3 (q5 == 1) q7 a0_0 a0_1 l0_2))) else (r4_To.j0 k a2 (wrap64 (a1 - a0_1)) q3 (q5 == 1) l0_2 a0_0 a0_1 l0_2)) = some (r1, r2) := H; have A12 := Aside0.mk q10; clear q10; have q0s := Aside0.mk H; clear H
   go_enter Try.func38, Try.ntmps38
   go_upto_if 52 with (first | ((with_reducible refine gate_dst (N := 3) rfl ?_); (try (refine gate_guard (by rfl) ?_; dsimp only)); refine box_event ?hg (N := 3) ?hd (cs := #[.bool a0_0, .int .i64 a0_1, .slice A0_2 l0_2.length c0_2]) (t := 67) ?hr ?_; (case hd => rfl); (case hg => rfl); (case hr => first | (go_simp; done) | (go_simp; rfl)); intro q1 hg w14 hbox hb; replace HO0_2 := Aside0.mk (Kd.V_below (Kd.V_elderB (kV HO0_2) q1 (Nat.le_of_eq hg.symm)) hb); have q0 := Aside0.mk (hbox); have q0x := Aside0.mk ((by rw [hg]; exact (below_size (kH HB)) : w.heap.size ≤ q1)); have q4 := Aside0.mk ((by rw [hg]; exact (below_size (kH HB)) : w.heap.size ≤ q1)); replace HB := Aside0.mk (below_step (kH HB) hb); clear hb hbox hg; have q07 : w14.cell? ⟨q1, 0, none⟩ = some (.bool a0_0) := bc q0 0; have q08 : w14.cell? ⟨q1, 1, none⟩ = some (.int .i64 a0_1) := bc q0 1; have q09 : w14.cell? ⟨q1, 2, none⟩ = some (.slice A0_2 l0_2.length c0_2) := bc q0 2; have q0a := blk_frozen q0.out 0; have q0b := blk_frozen q0.out 1; have q0c := blk_frozen q0.out 2) | ((with_reducible refine gate_callee (f := 74) rfl ?_); refine goesL_ (some 34) rfl rfl Try.func74 (by kernel_rfl) rfl #[.slice A0_2 l0_2.length c0_2, .int .i64 (wrap64 (a1 - a0_1))] rfl LMq ?_; (with_reducible refine (r2_Shr.calls k (fun k_ => ((P0_2_ k_ ∨ w.heap.size ≤ k_) ∧ k_ ≠ q1)) _ _ l0_2 (wrap64 (a1 - a0_1)) q3 true _ ?side1 A9.out).mono ?_); (case side1 => exact HO0_2.out); rintro e w16 ⟨v183, rfl, ho0, hb⟩; refine ⟨_, rfl, ?_⟩; replace HO0_2 := Aside0.mk (Kd.V_below (kV HO0_2) hb); have q6 := Aside0.mk (Kd.V_lower (Kd.V_mono (ok' := fun k_ => (P0_2_ k_ ∨ w.heap.size ≤ k_) ∧ k_ ≠ q1) ho0 (fun k_ hk_ => ⟨Or.elim hk_ (fun hs_ => hs_.1) (fun hn_ => (.inr (Nat.le_trans (below_size (kHs HB q4)) hn_))), Or.elim hk_ (fun hs_ => hs_.2) (fun hn_ => (Kd.freshB (g := q1) (o := .cells #[.bool a0_0, .int .i64 a0_1, .slice A0_2 l0_2.length c0_2] 67 (0, 0)) (kB q0) k_ hn_))⟩)) (below_size (kHs HB q4))); replace q0 := Aside0.mk (blk_below (g := q1) (o := .cells #[.bool a0_0, .int .i64 a0_1, .slice A0_2 l0_2.length c0_2] 67 (0, 0)) (kB q0) hb); replace HB := Aside0.mk (below_step (kHs HB q4) hb); (try clear hb); (try clear hb2); (try clear hk); (try clear hi); (try clear ho0); have q0d : w16.cell? ⟨q1, 0, none⟩ = some (.bool a0_0) := bc q0 0; have q0e : w16.cell? ⟨q1, 1, none⟩ = some (.int .i64 a0_1) := bc q0 1; have q0f : w16.cell? ⟨q1, 2, none⟩ = some (.slice A0_2 l0_2.length c0_2) := bc q0 2; have q0g := blk_frozen q0.out 0; have q0h := blk_frozen q0.out 1; have q0i := blk_frozen q0.out 2) | ((with_reducible refine gate_callee (f := 75) rfl ?_); refine goesL_ (some 44) rfl rfl Try.func75 (by kernel_rfl) rfl #[.slice A0_2 l0_2.length c0_2, .int .i64 (wrap64 ((wrap64 (a1 - a0_1)) - 1))] rfl LMq ?_; (with_reducible refine (r2_Bit.calls k _ _ l0_2 (wrap64 ((wrap64 (a1 - a0_1)) - 1)) q5 _ ?side1 ?side2 A11.out).mono ?_); (case side1 => exact kC (Kd.V_reads' HO0_2.out).2.2); (case side2 => exact (Kd.V_reads' HO0_2.out).2.1); rintro e w18 ⟨rfl, hb⟩; refine ⟨_, rfl, ?_⟩; replace HO0_2 := Aside0.mk (Kd.V_below (kV HO0_2) hb); replace q6 := Aside0.mk (Kd.V_below (kV q6) hb); replace q0 := Aside0.mk (blk_below (g := q1) (o := .cells #[.bool a0_0, .int .i64 a0_1, .slice A0_2 l0_2.length c0_2] 67 (0, 0)) (kB q0) hb); replace HB := Aside0.mk (below_step (kHs HB q4) hb); (try clear hb); (try clear hb2); (try clear hk); (try clear hi); have q0j : w18.cell? ⟨q1, 0, none⟩ = some (.bool a0_0) := bc q0 0; have q0k : w18.cell? ⟨q1, 1, none⟩ = some (.int .i64 a0_1) := bc q0 1; have q0l : w18.cell? ⟨q1, 2, none⟩ = some (.slice A0_2 l0_2.length c0_2) := bc q0 2; have q0m := blk_frozen q0.out 0; have q0n := blk_frozen q0.out 1; have q0o := blk_frozen q0.out 2) | ((with_reducible refine gate_callee (f := 68) rfl ?_); refine goesL_ (some 51) rfl rfl Try.func68 (by kernel_rfl) rfl #[.slice A0_2 l0_2.length c0_2] rfl LMq ?_; (with_reducible refine (r2_Len.calls k _ _ l0_2 q9 _ ?side1 ?side2 A12.out).mono ?_); (case side1 => exact kC (Kd.V_reads' HO0_2.out).2.2); (case side2 => exact (Kd.V_reads' HO0_2.out).2.1); rintro e w20 ⟨rfl, hb⟩; refine ⟨_, rfl, ?_⟩; replace HO0_2 := Aside0.mk (Kd.V_below (kV HO0_2) hb); replace q6 := Aside0.mk (Kd.V_below (kV q6) hb); replace q0 := Aside0.mk (blk_below (g := q1) (o := .cells #[.bool a0_0, .int .i64 a0_1, .slice A0_2 l0_2.length c0_2] 67 (0, 0)) (kB q0) hb); replace HB := Aside0.mk (below_step (kHs HB q4) hb); (try clear hb); (try clear hb2); (try clear hk); (try clear hi)))
   (try simp only [Act.put, List.setIfInBounds_toArray, List.set_cons_zero, List.set_cons_succ])
   go_cut [11, 12] (fun v11 v12 wc => ∃ (kq : Nat) (qm : Bool) (qp : List Int), v11 = .bool qm ∧ Aside0 (r4_To.j0 kq a2 (wrap64 (a1 - a0_1)) q3 qm qp a0_0 a0_1 l0_2 = some (r1, r2)) ∧ Aside0 (kq ≤ k) ∧ Aside0 (Kd.V (Kd.int .u32) 41 wc w.heap.size (fun k_ => (P0_2_ k_ ∨ w.heap.size ≤ k_) ∧ k_ ≠ q1) v183 q3) ∧ Aside0 (Kd.V (Kd.int .u32) 41 wc w.heap.size (fun k_ => (P0_2_ k_ ∨ w.heap.size ≤ k_) ∧ k_ ≠ q1) v12 qp) ∧ Aside0 (Kd.V (Kd.int .u32) 41 wc w.heap.size (fun k_ => (P0_2_ k_ ∨ w.heap.size ≤ k_) ∧ k_ ≠ q1) (.slice A0_2 l0_2.length c0_2) l0_2) ∧ Aside0 (wc.heap[q1]? = some (.cells #[.bool a0_0, .int .i64 a0_1, (.slice A0_2 l0_2.length c0_2)] 67 (0, 0))) ∧ Aside0 (Below w.heap.size w wc))
   case first =>
    have H := q0s.out; clear q0s
    by_cases c21 : (wrap64 (a1 - a0_1)) ≤ q9
    · rw [if_pos c21] at H
      have qg : decide ((wrap64 (a1 - a0_1)) ≤ q9) = true := decide_eq_true c21; clear c21
      (first | rw [qg] | (simp only [i64_w, i32_w]; rw [qg]) | skip)
      replace H := Option.bind_eq_some_iff.mp H; obtain ⟨q8, q11, H⟩ := H; replace H : ((r2_Sub.f k l0_2 q8).bind fun q7 => (r4_To.j0 k a2 (wrap64 (a1 - a0_1)) q3 (q5 == 1) q7 a0_0 a0_1 l0_2)) = some (r1, r2) := H; have A22 := Aside0.mk q11; clear q11; replace H := Option.bind_eq_some_iff.mp H; obtain ⟨q7, q12, H⟩ := H; replace H : (r4_To.j0 k a2 (wrap64 (a1 - a0_1)) q3 (q5 == 1) q7 a0_0 a0_1 l0_2) = some (r1, r2) := H; have A23 := Aside0.mk q12; clear q12; have H' := Aside0.mk H; clear H
      try go_wp2
      replace HO0_2 := Aside0.mk (Kd.V_drew HO0_2.out); replace q6 := Aside0.mk (Kd.V_drew q6.out); replace q0 := Aside0.mk (blk_drew q0.out); replace HB := Aside0.mk (below_drew1 HB.out); obtain ⟨q1i, q1j, eo25⟩ := Kd.V_slice q6.out
      (first | subst eo25 | (injection eo25 with f1_ f2_ f3_; have f4_ := f1_.symm; have f5_ := f3_.symm; clear f1_ f2_ f3_; subst f4_; subst f5_))
      refine start_ (n := 7) (S := fun w' => w'.cell? ⟨q1, 0, none⟩ = some (.bool a0_0) ∧ w'.cell? ⟨q1, 1, none⟩ = some (.int .i64 a0_1) ∧ w'.cell? ⟨q1, 2, none⟩ = some (.slice A0_2 l0_2.length c0_2)) (ds := []) #[false, false, false, false, false, false, false] (by kernel_rfl) rfl rfl ⟨bc q0 0, bc q0 1, bc q0 2⟩ (fun hHeld => ?_)
      generalize w20.drew = w24 at HO0_2 q6 q0 HB hHeld ⊢
      refine pure_ (i := 0) (N := some 53) (v := ?_) (a' := ?_) #[true, false, false, false, false, false, false] rfl rfl (by kernel_rfl) (fun _ _ _ h => h) (Or.inl ⟨by rfl, ?_⟩) ?_ ?_; rotate_left
      · intro w'
        go_simp
        with_reducible rfl
      rotate_left
      · exact APq
      refine pure_ (i := 2) (N := some 55) (v := ?_) (a' := ?_) #[true, false, true, false, false, false, false] rfl rfl (by kernel_rfl) (fun _ _ _ h => h) (Or.inl ⟨by rfl, ?_⟩) ?_ ?_; rotate_left
      · intro w'
        go_simp
        with_reducible rfl
      rotate_left
      · exact APq
      refine pure_ (i := 3) (N := some 56) (v := ?_) (a' := ?_) #[true, false, true, true, false, false, false] rfl rfl (by kernel_rfl) (fun _ _ _ h => h) (Or.inl ⟨by rfl, ?_⟩) ?_ ?_; rotate_left
      · intro w'
        go_simp
        with_reducible rfl
      rotate_left
      · exact APq
      refine take_ (i := 1) (N := some 54) (v := ?_) (a' := ?_) #[true, true, true, true, false, false, false] rfl rfl (by kernel_rfl) (fun _ _ _ h => h) (Or.inl ⟨by rfl, ?_⟩) hHeld ?_ ?_; rotate_left
      · rintro w' ⟨s0, s1, s2⟩
        go_simp
        with_reducible rfl
      rotate_left
      · exact APq
      refine one_ (i := 4) (N := some 57) #[true, true, true, true, true, false, false] rfl rfl (by kernel_rfl) (by decide) (fun K hK => ?_); refine goes_ Try.func73 (by kernel_rfl) rfl #[.slice q1i q3.length q1j, .int .i64 (wrap64 (a1 - a0_1))] (by rfl) rfl rfl LMq ?_
      with_reducible refine (r2_Shl.calls k _ _ q3 (wrap64 (a1 - a0_1)) q8 _ ?side1 ?side2 A22.out).mono ?_
      (case side1 => exact kC (Kd.V_reads' q6.out).2.2)
      (case side2 => exact (Kd.V_reads' q6.out).2.1)
      rintro e w26 ⟨v189, rfl, ho0, hb⟩; refine ⟨_, rfl, ?_⟩; replace HO0_2 := Aside0.mk (Kd.V_below (kV HO0_2) hb); replace q6 := Aside0.mk (Kd.V_below (kV q6) hb); have qv := Aside0.mk (Kd.V_lower (Kd.V_mono (ok' := fun k_ => (P0_2_ k_ ∨ w.heap.size ≤ k_) ∧ k_ ≠ q1) ho0 (fun k_ hk_ => ⟨(.inr (Nat.le_trans (below_size HB.out) hk_)), (Kd.freshB q0.out k_ hk_)⟩)) (below_size HB.out)); replace q0 := Aside0.mk (blk_below q0.out hb); replace HB := Aside0.mk (below_step HB.out hb)
      (try clear hb)
      (try clear hb2)
      (try clear hk)
      (try clear hi)
      (try clear ho0)
      obtain ⟨q1k, q1l, eo27⟩ := Kd.V_slice qv.out
      (first | subst eo27 | (injection eo27 with f1_ f2_ f3_; have f4_ := f1_.symm; have f5_ := f3_.symm; clear f1_ f2_ f3_; subst f4_; subst f5_))
      refine hK.out _ _ ⟨bc q0 0, bc q0 1, bc q0 2⟩ (fun hHeld => ?_); clear hK K; refine norm_ (a' := ?_) ?_ ?_; rotate_left
      · show Act.put _ (some 57) _ = _
        exact APq
      refine one_ (i := 5) (N := some 58) #[true, true, true, true, true, true, false] rfl rfl (by kernel_rfl) (by decide) (fun K hK => ?_); refine goes_ Try.func76 (by kernel_rfl) rfl #[.slice A0_2 l0_2.length c0_2, .slice q1k q8.length q1l] (by rfl) rfl rfl LMq ?_
      with_reducible refine (r2_Sub.calls k _ _ l0_2 _ _ q8 q7 _ ?side1 ?side2 ?side3 ?side4 A23.out).mono ?_
      (case side1 => exact kC (Kd.V_reads' HO0_2.out).2.2)
      (case side2 => exact (Kd.V_reads' HO0_2.out).2.1)
      (case side3 => exact kC (Kd.V_reads' qv.out).2.2)
      (case side4 => exact (Kd.V_reads' qv.out).2.1)
      rintro e w28 ⟨v192, rfl, ho0, hb⟩; refine ⟨_, rfl, ?_⟩; replace HO0_2 := Aside0.mk (Kd.V_below (kV HO0_2) hb); replace q6 := Aside0.mk (Kd.V_below (kV q6) hb); replace qv := Aside0.mk (Kd.V_below (kV qv) hb); have q1m := Aside0.mk (Kd.V_lower (Kd.V_mono (ok' := fun k_ => (P0_2_ k_ ∨ w.heap.size ≤ k_) ∧ k_ ≠ q1) ho0 (fun k_ hk_ => ⟨(.inr (Nat.le_trans (below_size HB.out) hk_)), (Kd.freshB q0.out k_ hk_)⟩)) (below_size HB.out)); replace q0 := Aside0.mk (blk_below q0.out hb); replace HB := Aside0.mk (below_step HB.out hb)
      (try clear hb)
      (try clear hb2)
      (try clear hk)
      (try clear hi)
      (try clear ho0)
      refine hK.out _ _ ⟨bc q0 0, bc q0 1, bc q0 2⟩ (fun hHeld => ?_); clear hK K; refine norm_ (a' := ?_) ?_ ?_; rotate_left
      · show Act.put _ (some 58) _ = _
        exact APq
      refine pure_ (i := 6) (N := some 12) (v := ?_) (a' := ?_) #[true, true, true, true, true, true, true] rfl rfl (by kernel_rfl) (fun _ _ _ h => h) (Or.inl ⟨by rfl, ?_⟩) ?_ ?_; rotate_left
      · intro w'
        go_simp
        with_reducible rfl
      rotate_left
      · exact APq
      refine done_ (by kernel_rfl) ?_
      try go_wp2
      go_meet
      case rel => exact ⟨_, ((q5 == 1)), (q7), RSq, (by first | exact H' | (subst_vars; exact H')), ⟨by first | omega | exact Nat.le_refl _⟩, ⟨kV q6⟩, ⟨kV q1m⟩, ⟨kV HO0_2⟩, ⟨kB q0⟩, ⟨kHs HB q4⟩⟩
    rw [if_neg c21] at H
    have qg : decide ((wrap64 (a1 - a0_1)) ≤ q9) = false := decide_eq_false c21; clear c21
    (first | rw [qg] | (simp only [i64_w, i32_w]; rw [qg]) | skip)
    have H' := Aside0.mk H; clear H
    go_wp2
    go_meet
    case rel => exact ⟨_, ((q5 == 1)), (l0_2), RSq, (by first | exact H' | (subst_vars; exact H')), ⟨by first | omega | exact Nat.le_refl _⟩, ⟨kV q6⟩, ⟨kV HO0_2⟩, ⟨kV HO0_2⟩, ⟨kB q0⟩, ⟨kHs HB q4⟩⟩
   case rest =>
    clear q0s; (try clear c1); (try clear c2); (try clear p2); (try clear c3); (try clear c4); (try clear qu); (try clear c6); (try clear p6); (try clear c7); (try clear c10); (try clear c21); (try clear qg); (try clear q07 q08 q09); (try clear q0d q0e q0f); (try clear q0j q0k q0l); (try clear q01 q02 q03); (try clear q0a q0b q0c); (try clear q0g q0h q0i); (try clear q0m q0n q0o); (try clear q04 q05 q06); obtain ⟨kq, qm, qp, rfl, HA, qd, HO_9, HO_12, HO_179002, q0, HB⟩ := hcut
    cases kq with
    | zero => exact absurd HA.out (by simp [r4_To.j0])
    | succ qa =>
     have H := HA.out; clear HA
     simp only [r4_To.j0] at H
     have q0t := Aside0.mk H; clear H
     go_upto_region 11 with (fail)
     go_cut [13] (fun v13 wc => ∃ (kq : Nat) (qw : Bool), v13 = .bool qw ∧ Aside0 (r4_To.j1 kq a2 q3 qm qw a0_0 a0_1 l0_2 = some (r1, r2)) ∧ Aside0 (kq ≤ qa) ∧ Aside0 (Kd.V (Kd.int .u32) 41 wc w.heap.size (fun k_ => (P0_2_ k_ ∨ w.heap.size ≤ k_) ∧ k_ ≠ q1) v183 q3) ∧ Aside0 (Kd.V (Kd.int .u32) 41 wc w.heap.size (fun k_ => (P0_2_ k_ ∨ w.heap.size ≤ k_) ∧ k_ ≠ q1) (.slice A0_2 l0_2.length c0_2) l0_2) ∧ Aside0 (wc.heap[q1]? = some (.cells #[.bool a0_0, .int .i64 a0_1, (.slice A0_2 l0_2.length c0_2)] 67 (0, 0))) ∧ Aside0 (Below w.heap.size w wc))
     case first =>
      have H := q0t.out; clear q0t
      by_cases c30 : qm = true
      · subst c30
        have H1 : ((r2_Of.f qa 1).bind fun qo => ((r2_Shl.f qa qo (wrap64 ((wrap64 (a1 - a0_1)) - 1))).bind fun qf => ((r2_Cmp.f qa qp qf).bind fun qb => (r4_To.j1 qa a2 q3 true (qb == 0) a0_0 a0_1 l0_2)))) = some (r1, r2) := by rw [if_pos rfl] at H; exact H
        clear H; have H := H1; clear H1; replace H := Option.bind_eq_some_iff.mp H; obtain ⟨qo, q13, H⟩ := H; replace H : ((r2_Shl.f qa qo (wrap64 ((wrap64 (a1 - a0_1)) - 1))).bind fun qf => ((r2_Cmp.f qa qp qf).bind fun qb => (r4_To.j1 qa a2 q3 true (qb == 0) a0_0 a0_1 l0_2))) = some (r1, r2) := H; have A31 := Aside0.mk q13; clear q13; replace H := Option.bind_eq_some_iff.mp H; obtain ⟨qf, q14, H⟩ := H; replace H : ((r2_Cmp.f qa qp qf).bind fun qb => (r4_To.j1 qa a2 q3 true (qb == 0) a0_0 a0_1 l0_2)) = some (r1, r2) := H; have A32 := Aside0.mk q14; clear q14; replace H := Option.bind_eq_some_iff.mp H; obtain ⟨qb, q15, H⟩ := H; replace H : (r4_To.j1 qa a2 q3 true (qb == 0) a0_0 a0_1 l0_2) = some (r1, r2) := H; have A33 := Aside0.mk q15; clear q15; have H' := Aside0.mk H; clear H
        go_wp2_with (first | (go_at_call 33; (with_reducible refine (r2_Of.calls qa 1 qo _ A31.out).mono ?_); rintro e w34 ⟨v195, rfl, ho0, hb⟩; replace HO_9 := Aside0.mk (Kd.V_below (kV HO_9) hb); replace HO_12 := Aside0.mk (Kd.V_below (kV HO_12) hb); replace HO_179002 := Aside0.mk (Kd.V_below (kV HO_179002) hb); have qq := Aside0.mk (Kd.V_lower (Kd.V_mono (ok' := fun k_ => (P0_2_ k_ ∨ w.heap.size ≤ k_) ∧ k_ ≠ q1) ho0 (fun k_ hk_ => ⟨(.inr (Nat.le_trans (below_size (kHs HB q4)) hk_)), (Kd.freshB (g := q1) (o := .cells #[.bool a0_0, .int .i64 a0_1, .slice A0_2 l0_2.length c0_2] 67 (0, 0)) (kB q0) k_ hk_)⟩)) (below_size (kHs HB q4))); replace q0 := Aside0.mk (blk_below (g := q1) (o := .cells #[.bool a0_0, .int .i64 a0_1, .slice A0_2 l0_2.length c0_2] 67 (0, 0)) (kB q0) hb); replace HB := Aside0.mk (below_step (kHs HB q4) hb); (try clear hb); (try clear hb2); (try clear hk); (try clear hi); (try clear ho0); obtain ⟨Ao35, co35, eo35⟩ := Kd.V_slice qq.out; subst eo35) | (go_at_call 73; (with_reducible refine (r2_Shl.calls qa _ _ qo (wrap64 ((wrap64 (a1 - a0_1)) - 1)) qf _ ?side1 ?side2 A32.out).mono ?_); (case side1 => exact kC (Kd.V_reads' qq.out).2.2); (case side2 => exact (Kd.V_reads' qq.out).2.1); rintro e w36 ⟨v198, rfl, ho0, hb⟩; replace HO_9 := Aside0.mk (Kd.V_below (kV HO_9) hb); replace HO_12 := Aside0.mk (Kd.V_below (kV HO_12) hb); replace HO_179002 := Aside0.mk (Kd.V_below (kV HO_179002) hb); replace qq := Aside0.mk (Kd.V_below (kV qq) hb); have qx := Aside0.mk (Kd.V_lower (Kd.V_mono (ok' := fun k_ => (P0_2_ k_ ∨ w.heap.size ≤ k_) ∧ k_ ≠ q1) ho0 (fun k_ hk_ => ⟨(.inr (Nat.le_trans (below_size (kHs HB q4)) hk_)), (Kd.freshB (g := q1) (o := .cells #[.bool a0_0, .int .i64 a0_1, .slice A0_2 l0_2.length c0_2] 67 (0, 0)) (kB q0) k_ hk_)⟩)) (below_size (kHs HB q4))); replace q0 := Aside0.mk (blk_below (g := q1) (o := .cells #[.bool a0_0, .int .i64 a0_1, .slice A0_2 l0_2.length c0_2] 67 (0, 0)) (kB q0) hb); replace HB := Aside0.mk (below_step (kHs HB q4) hb); (try clear hb); (try clear hb2); (try clear hk); (try clear hi); (try clear ho0); obtain ⟨Ao37, co37, eo37⟩ := Kd.V_slice HO_12.out; subst eo37; obtain ⟨Ao38, co38, eo38⟩ := Kd.V_slice qx.out; subst eo38) | (go_at_call 40; (with_reducible refine (r2_Cmp.calls qa _ _ qp _ _ qf qb _ ?side1 ?side2 ?side3 ?side4 A33.out).mono ?_); (case side1 => exact kC (Kd.V_reads' HO_12.out).2.2); (case side2 => exact (Kd.V_reads' HO_12.out).2.1); (case side3 => exact kC (Kd.V_reads' qx.out).2.2); (case side4 => exact (Kd.V_reads' qx.out).2.1); rintro e w39 ⟨rfl, hb⟩; replace HO_9 := Aside0.mk (Kd.V_below (kV HO_9) hb); replace HO_12 := Aside0.mk (Kd.V_below (kV HO_12) hb); replace HO_179002 := Aside0.mk (Kd.V_below (kV HO_179002) hb); replace qq := Aside0.mk (Kd.V_below (kV qq) hb); replace qx := Aside0.mk (Kd.V_below (kV qx) hb); replace q0 := Aside0.mk (blk_below (g := q1) (o := .cells #[.bool a0_0, .int .i64 a0_1, .slice A0_2 l0_2.length c0_2] 67 (0, 0)) (kB q0) hb); replace HB := Aside0.mk (below_step (kHs HB q4) hb); (try clear hb); (try clear hb2); (try clear hk); (try clear hi)))
        go_meet
        case rel => exact ⟨_, ((qb == 0)), RSq, (by first | exact H' | (subst_vars; exact H')), ⟨by have := qd.out; first | omega | exact Nat.le_refl _⟩, ⟨kV HO_9⟩, ⟨kV HO_179002⟩, ⟨kB q0⟩, ⟨kHs HB q4⟩⟩
      replace c30 := Bool.eq_false_iff.mpr c30; subst c30
      have H1 : (r4_To.j1 qa a2 q3 false false a0_0 a0_1 l0_2) = some (r1, r2) := by rw [if_neg (show ¬ (false = true) by decide)] at H; exact H
      clear H; have H := H1; clear H1; have H' := Aside0.mk H; clear H
      go_wp2
      go_meet
      case rel => exact ⟨_, (false), RSq, (by first | exact H' | (subst_vars; exact H')), ⟨by have := qd.out; first | omega | exact Nat.le_refl _⟩, ⟨kV HO_9⟩, ⟨kV HO_179002⟩, ⟨kB q0⟩, ⟨kHs HB q4⟩⟩
     case rest =>
      clear q0t; (try clear c1); (try clear c2); (try clear p2); (try clear c3); (try clear c4); (try clear qu); (try clear c6); (try clear p6); (try clear c7); (try clear c10); (try clear c21); (try clear qg); (try clear c30); (try clear c38); (try clear q07 q08 q09); (try clear q0d q0e q0f); (try clear q0j q0k q0l); (try clear q01 q02 q03); (try clear q0a q0b q0c); (try clear q0g q0h q0i); (try clear q0m q0n q0o); (try clear q04 q05 q06); (try clear p2); (try clear p6); obtain ⟨kq, qw, rfl, HA, qh, HO_9, HO_179002, q0, HB⟩ := hcut
      cases kq with
      | zero => exact absurd HA.out (by simp [r4_To.j1])
      | succ qn =>
       have H := HA.out; clear HA
       simp only [r4_To.j1] at H
       have q0u := Aside0.mk H; clear H
       go_upto_region 12 with (fail)
       go_cut [14] (fun v14 wc => ∃ (kq : Nat) (q0p : Bool), v14 = .bool q0p ∧ Aside0 (r4_To.j2 kq a2 q3 qm q0p a0_0 a0_1 l0_2 = some (r1, r2)) ∧ Aside0 (kq ≤ qn) ∧ Aside0 (Kd.V (Kd.int .u32) 41 wc w.heap.size (fun k_ => (P0_2_ k_ ∨ w.heap.size ≤ k_) ∧ k_ ≠ q1) v183 q3) ∧ Aside0 (Kd.V (Kd.int .u32) 41 wc w.heap.size (fun k_ => (P0_2_ k_ ∨ w.heap.size ≤ k_) ∧ k_ ≠ q1) (.slice A0_2 l0_2.length c0_2) l0_2) ∧ Aside0 (wc.heap[q1]? = some (.cells #[.bool a0_0, .int .i64 a0_1, (.slice A0_2 l0_2.length c0_2)] 67 (0, 0))) ∧ Aside0 (Below w.heap.size w wc))
       case first =>
        have H := q0u.out; clear q0u
        by_cases c41 : qm = true
        · subst c41
          have H1 : (if qw = true then (if (q3.length : Int) > 0 then (if 0 < (q3.length : Int) then (r4_To.j2 qn a2 q3 true ((Int.tmod (rd q3 0) 2) == 1) a0_0 a0_1 l0_2) else (none)) else (r4_To.j2 qn a2 q3 true false a0_0 a0_1 l0_2)) else (r4_To.j2 qn a2 q3 true true a0_0 a0_1 l0_2)) = some (r1, r2) := by rw [if_pos rfl] at H; exact H
          clear H; have H := H1; clear H1
          by_cases c42 : qw = true
          · subst c42
            have H1 : (if (q3.length : Int) > 0 then (if 0 < (q3.length : Int) then (r4_To.j2 qn a2 q3 true ((Int.tmod (rd q3 0) 2) == 1) a0_0 a0_1 l0_2) else (none)) else (r4_To.j2 qn a2 q3 true false a0_0 a0_1 l0_2)) = some (r1, r2) := by rw [if_pos rfl] at H; exact H
            clear H; have H := H1; clear H1
            by_cases c43 : (q3.length : Int) > 0
            · rw [if_pos c43] at H
              have qr : decide (0 < (q3.length : Int)) = true := decide_eq_true c43; have q0v : decide (0 < q3.length) = true := decide_eq_true (by omega); clear c43
              (first | rw [qr] | (simp only [i64_w, i32_w]; rw [qr]) | skip)
              by_cases c44 : 0 < (q3.length : Int)
              · rw [if_pos c44] at H
                have q16 : decide (0 < (q3.length : Int)) = true := decide_eq_true c44; have q17 : decide (0 < q3.length) = true := decide_eq_true (by omega); clear c44; have H' := Aside0.mk H; clear H; obtain ⟨Ao45, co45, eo45⟩ := Kd.V_slice HO_9.out; subst eo45; have p201 : 0 ≤ (0 : Int) := (by omega); have q201 : 0 < (q3.length : Int) := of_decide_eq_true ASq; obtain ⟨ad201, e201, q0q⟩ := Kd.at_int (Kd.V_reads' HO_9.out).2.2 0 p201 q201
                cases e201
                have qi201 : (0 < q3.length) = True := eq_true (by omega)
                (try rw [show ((0 : Int)).toNat = 0 from rfl] at q0q)
                (try rw [Addr.add_zero'] at q0q)
                replace p201 := eq_true p201; replace q201 := eq_true q201
                go_wp2
                go_meet
                case rel => exact ⟨_, (((Int.tmod (rd q3 0) 2) == 1)), RSq, (by first | exact H' | (subst_vars; exact H')), ⟨by have := qd.out; have := qh.out; first | omega | exact Nat.le_refl _⟩, ⟨kV HO_9⟩, ⟨kV HO_179002⟩, ⟨kB q0⟩, ⟨kHs HB q4⟩⟩
              rw [if_neg c44] at H
              exact absurd H (by simp)
            rw [if_neg c43] at H
            have qr : decide (0 < (q3.length : Int)) = false := decide_eq_false c43; have q0v : decide (0 < q3.length) = false := decide_eq_false (by omega); clear c43
            (first | rw [qr] | (simp only [i64_w, i32_w]; rw [qr]) | skip)
            have H' := Aside0.mk H; clear H; obtain ⟨Ao46, co46, eo46⟩ := Kd.V_slice HO_9.out; subst eo46
            go_wp2
            go_meet
            case rel => exact ⟨_, (false), RSq, (by first | exact H' | (subst_vars; exact H')), ⟨by have := qd.out; have := qh.out; first | omega | exact Nat.le_refl _⟩, ⟨kV HO_9⟩, ⟨kV HO_179002⟩, ⟨kB q0⟩, ⟨kHs HB q4⟩⟩
          replace c42 := Bool.eq_false_iff.mpr c42; subst c42
          have H1 : (r4_To.j2 qn a2 q3 true true a0_0 a0_1 l0_2) = some (r1, r2) := by rw [if_neg (show ¬ (false = true) by decide)] at H; exact H
          clear H; have H := H1; clear H1; have H' := Aside0.mk H; clear H
          go_wp2
          go_meet
          case rel => exact ⟨_, (true), RSq, (by first | exact H' | (subst_vars; exact H')), ⟨by have := qd.out; have := qh.out; first | omega | exact Nat.le_refl _⟩, ⟨kV HO_9⟩, ⟨kV HO_179002⟩, ⟨kB q0⟩, ⟨kHs HB q4⟩⟩
        replace c41 := Bool.eq_false_iff.mpr c41; subst c41
        have H1 : (r4_To.j2 qn a2 q3 false false a0_0 a0_1 l0_2) = some (r1, r2) := by rw [if_neg (show ¬ (false = true) by decide)] at H; exact H
        clear H; have H := H1; clear H1; have H' := Aside0.mk H; clear H
        go_wp2
        go_meet
        case rel => exact ⟨_, (false), RSq, (by first | exact H' | (subst_vars; exact H')), ⟨by have := qd.out; have := qh.out; first | omega | exact Nat.le_refl _⟩, ⟨kV HO_9⟩, ⟨kV HO_179002⟩, ⟨kB q0⟩, ⟨kHs HB q4⟩⟩
       case rest =>
        clear q0u; (try clear c1); (try clear c2); (try clear p2); (try clear q2); (try clear hx2); (try clear qi2); (try clear c3); (try clear c4); (try clear qu); (try clear c6); (try clear p6); (try clear c7); (try clear c10); (try clear p20); (try clear q20); (try clear hx20); (try clear qi20); (try clear c21); (try clear qg); (try clear c30); (try clear c38); (try clear c41); (try clear c42); (try clear c43); (try clear qr); (try clear q0v); (try clear c44); (try clear q16); (try clear q17); (try clear q07 q08 q09); (try clear q0d q0e q0f); (try clear q0j q0k q0l); (try clear q01 q02 q03); (try clear q0a q0b q0c); (try clear q0g q0h q0i); (try clear q0m q0n q0o); (try clear q04 q05 q06); (try clear q0q); (try clear p2); (try clear p201); (try clear p6); (try clear q201); obtain ⟨kq, q0p, rfl, HA, qy, HO_9, HO_179002, q0, HB⟩ := hcut
        cases kq with
        | zero => exact absurd HA.out (by simp [r4_To.j2])
        | succ q1n =>
         have H := HA.out; clear HA
         simp only [r4_To.j2] at H
         have q0w := Aside0.mk H; clear H
         go_upto_block 0 with (fail)
         go_cut [14] (fun v14 wc => ∃ (kq : Nat) (q0r : Bool), v14 = .bool q0r ∧ Aside0 (r4_To.j3 kq q3 q0r = some (r1, r2)) ∧ Aside0 (kq ≤ q1n) ∧ Aside0 (Kd.V (Kd.int .u32) 41 wc w.heap.size (fun k_ => (P0_2_ k_ ∨ w.heap.size ≤ k_) ∧ k_ ≠ q1) v183 q3) ∧ Aside0 (Kd.V (Kd.int .u32) 41 wc w.heap.size (fun k_ => (P0_2_ k_ ∨ w.heap.size ≤ k_) ∧ k_ ≠ q1) (.slice A0_2 l0_2.length c0_2) l0_2) ∧ Aside0 (wc.heap[q1]? = some (.cells #[.bool a0_0, .int .i64 a0_1, (.slice A0_2 l0_2.length c0_2)] 67 (0, 0))) ∧ Aside0 (Below w.heap.size w wc))
         case first =>
          have H := q0w.out; clear q0w
          by_cases c48 : a2 = 1
          · rw [if_pos c48] at H
            have qt : (a2 == 1) = true := beq_iff_eq.mpr c48; have q18 : (a2 != 1) = false := bne_eq_false_iff_eq.mpr c48; clear c48
            (first | rw [qt] | (simp only [i64_w, i32_w]; rw [qt]) | skip)
            have H' := Aside0.mk H; clear H
            go_wp2
            go_meet
            case rel => exact ⟨_, (qm), RSq, (by first | exact H' | (subst_vars; exact H')), ⟨by have := qd.out; have := qh.out; have := qy.out; first | omega | exact Nat.le_refl _⟩, ⟨kV HO_9⟩, ⟨kV HO_179002⟩, ⟨kB q0⟩, ⟨kHs HB q4⟩⟩
          rw [if_neg c48] at H
          have qt : (a2 == 1) = false := beq_eq_false_iff_ne.mpr c48; have q18 : (a2 != 1) = true := bne_iff_ne.mpr c48
          (first | rw [qt] | (simp only [i64_w, i32_w]; rw [qt]) | skip)
          by_cases c49 : a2 = 2
          · rw [if_pos c49] at H
            have q19 : (a2 == 2) = true := beq_iff_eq.mpr c49; have q1a : (a2 != 2) = false := bne_eq_false_iff_eq.mpr c49; clear c49; have H' := Aside0.mk H; clear H
            go_wp2
            go_meet
            case rel => exact ⟨_, (false), RSq, (by first | exact H' | (subst_vars; exact H')), ⟨by have := qd.out; have := qh.out; have := qy.out; first | omega | exact Nat.le_refl _⟩, ⟨kV HO_9⟩, ⟨kV HO_179002⟩, ⟨kB q0⟩, ⟨kHs HB q4⟩⟩
          rw [if_neg c49] at H
          have q19 : (a2 == 2) = false := beq_eq_false_iff_ne.mpr c49; have q1a : (a2 != 2) = true := bne_iff_ne.mpr c49
          by_cases c50 : a2 = 3
          · rw [if_pos c50] at H
            have q1b : (a2 == 3) = true := beq_iff_eq.mpr c50; have q1c : (a2 != 3) = false := bne_eq_false_iff_eq.mpr c50; clear c50; have H' := Aside0.mk H; clear H; have q1o : wc.cell? ⟨q1, 0, none⟩ = some (.bool a0_0) := bc q0 0; have q1p : wc.cell? ⟨q1, 1, none⟩ = some (.int .i64 a0_1) := bc q0 1; have q1q : wc.cell? ⟨q1, 2, none⟩ = some (.slice A0_2 l0_2.length c0_2) := bc q0 2; have q1r := blk_frozen q0.out 0; have q1s := blk_frozen q0.out 1; have q1t := blk_frozen q0.out 2
            go_wp2
            go_meet
            case rel => exact ⟨_, (!a0_0), RSq, (by first | exact H' | (subst_vars; exact H')), ⟨by have := qd.out; have := qh.out; have := qy.out; first | omega | exact Nat.le_refl _⟩, ⟨kV HO_9⟩, ⟨kV HO_179002⟩, ⟨kB q0⟩, ⟨kHs HB q4⟩⟩
          rw [if_neg c50] at H
          have q1b : (a2 == 3) = false := beq_eq_false_iff_ne.mpr c50; have q1c : (a2 != 3) = true := bne_iff_ne.mpr c50
          by_cases c52 : a2 = 4
          · rw [if_pos c52] at H
            have q1d : (a2 == 4) = true := beq_iff_eq.mpr c52; have q1e : (a2 != 4) = false := bne_eq_false_iff_eq.mpr c52; clear c52; have H' := Aside0.mk H; clear H; have q1u : wc.cell? ⟨q1, 0, none⟩ = some (.bool a0_0) := bc q0 0; have q1v : wc.cell? ⟨q1, 1, none⟩ = some (.int .i64 a0_1) := bc q0 1; have q1w : wc.cell? ⟨q1, 2, none⟩ = some (.slice A0_2 l0_2.length c0_2) := bc q0 2; have q1x := blk_frozen q0.out 0; have q1y := blk_frozen q0.out 1; have q1z := blk_frozen q0.out 2
            go_wp2
            go_meet
            case rel => exact ⟨_, (a0_0), RSq, (by first | exact H' | (subst_vars; exact H')), ⟨by have := qd.out; have := qh.out; have := qy.out; first | omega | exact Nat.le_refl _⟩, ⟨kV HO_9⟩, ⟨kV HO_179002⟩, ⟨kB q0⟩, ⟨kHs HB q4⟩⟩
          rw [if_neg c52] at H
          have q1d : (a2 == 4) = false := beq_eq_false_iff_ne.mpr c52; have q1e : (a2 != 4) = true := bne_iff_ne.mpr c52; have H' := Aside0.mk H; clear H
          go_wp2
          go_meet
          case rel => exact ⟨_, (q0p), RSq, (by first | exact H' | (subst_vars; exact H')), ⟨by have := qd.out; have := qh.out; have := qy.out; first | omega | exact Nat.le_refl _⟩, ⟨kV HO_9⟩, ⟨kV HO_179002⟩, ⟨kB q0⟩, ⟨kHs HB q4⟩⟩
         case rest =>
          clear q0w; (try clear c1); (try clear c2); (try clear p2); (try clear q2); (try clear hx2); (try clear qi2); (try clear c3); (try clear c4); (try clear qu); (try clear c5); (try clear c6); (try clear p6); (try clear c7); (try clear c10); (try clear p20); (try clear q20); (try clear hx20); (try clear qi20); (try clear c21); (try clear qg); (try clear c30); (try clear c38); (try clear c41); (try clear c42); (try clear c43); (try clear qr); (try clear q0v); (try clear c44); (try clear q16); (try clear q17); (try clear c48); (try clear qt); (try clear q18); (try clear c49); (try clear q19); (try clear q1a); (try clear c50); (try clear q1b); (try clear q1c); (try clear c52); (try clear q1d); (try clear q1e); (try clear q07 q08 q09); (try clear q0d q0e q0f); (try clear q0j q0k q0l); (try clear q1o q1p q1q); (try clear q1u q1v q1w); (try clear q01 q02 q03); (try clear q0a q0b q0c); (try clear q0g q0h q0i); (try clear q0m q0n q0o); (try clear q1r q1s q1t); (try clear q1x q1y q1z); (try clear q04 q05 q06); (try clear q0q); (try clear p2); (try clear p20); (try clear p201); (try clear p6); (try clear q2); (try clear q20); (try clear q201); obtain ⟨kq, q0r, rfl, HA, HJ46, HO_9, HO_179002, q0, HB⟩ := hcut
          cases kq with
          | zero => exact absurd HA.out (by simp [r4_To.j3])
          | succ qz =>
           have H := HA.out; clear HA
           simp only [r4_To.j3] at H
           by_cases c54 : q0r = true
           · subst c54
             have H1 : ((r2_Of.f qz 1).bind fun qk => ((r2_Add.f qz q3 qk).bind fun ql => (some (ql, true)))) = some (r1, r2) := by rw [if_pos rfl] at H; exact H
             clear H; have H := H1; clear H1; replace H := Option.bind_eq_some_iff.mp H; obtain ⟨qk, q1f, H⟩ := H; replace H : ((r2_Add.f qz q3 qk).bind fun ql => (some (ql, true))) = some (r1, r2) := H; have A55 := Aside0.mk q1f; clear q1f; replace H := Option.bind_eq_some_iff.mp H; obtain ⟨ql, q1g, H⟩ := H; replace H : (some (ql, true)) = some (r1, r2) := H; have A56 := Aside0.mk q1g; clear q1g
             simp only [Option.some.injEq, Prod.mk.injEq] at H
             obtain ⟨rfl, rfl⟩ := H
             go_wp2_with (first | ((with_reducible refine gate_callee (f := 33) rfl ?_); refine goesL_ (some 103) rfl rfl Try.func33 (by kernel_rfl) rfl #[.int .u64 1] rfl LMq ?_; (with_reducible refine (r2_Of.calls qz 1 qk _ A55.out).mono ?_); rintro e w57 ⟨v203, rfl, ho0, hb⟩; refine ⟨_, rfl, ?_⟩; replace HO_9 := Aside0.mk (Kd.V_below (kV HO_9) hb); replace HO_179002 := Aside0.mk (Kd.V_below (kV HO_179002) hb); have q00 := Aside0.mk (Kd.V_lower (Kd.V_mono (ok' := fun k_ => (P0_2_ k_ ∨ w.heap.size ≤ k_) ∧ k_ ≠ q1) ho0 (fun k_ hk_ => ⟨(.inr (Nat.le_trans (below_size (kHs HB q4)) hk_)), (Kd.freshB (g := q1) (o := .cells #[.bool a0_0, .int .i64 a0_1, .slice A0_2 l0_2.length c0_2] 67 (0, 0)) (kB q0) k_ hk_)⟩)) (below_size (kHs HB q4))); replace q0 := Aside0.mk (blk_below (g := q1) (o := .cells #[.bool a0_0, .int .i64 a0_1, .slice A0_2 l0_2.length c0_2] 67 (0, 0)) (kB q0) hb); replace HB := Aside0.mk (below_step (kHs HB q4) hb); (try clear hb); (try clear hb2); (try clear hk); (try clear hi); (try clear ho0); obtain ⟨q21, q22, eo58⟩ := Kd.V_slice HO_9.out; subst eo58; obtain ⟨q23, q24, eo59⟩ := Kd.V_slice q00.out; subst eo59) | ((with_reducible refine gate_callee (f := 77) rfl ?_); refine goesL_ (some 104) rfl rfl Try.func77 (by kernel_rfl) rfl #[.slice q21 q3.length q22, .slice q23 qk.length q24] rfl LMq ?_; (with_reducible refine (r2_Add.calls qz _ _ q3 _ _ qk ql _ ?side1 ?side2 ?side3 ?side4 A56.out).mono ?_); (case side1 => exact kC (Kd.V_reads' HO_9.out).2.2); (case side2 => exact (Kd.V_reads' HO_9.out).2.1); (case side3 => exact kC (Kd.V_reads' q00.out).2.2); (case side4 => exact (Kd.V_reads' q00.out).2.1); rintro e w60 ⟨v206, rfl, ho0, hb⟩; refine ⟨_, rfl, ?_⟩; replace HO_9 := Aside0.mk (Kd.V_below (kV HO_9) hb); replace HO_179002 := Aside0.mk (Kd.V_below (kV HO_179002) hb); replace q00 := Aside0.mk (Kd.V_below (kV q00) hb); have q25 := Aside0.mk (Kd.V_lower (Kd.V_mono (ok' := fun k_ => (P0_2_ k_ ∨ w.heap.size ≤ k_) ∧ k_ ≠ q1) ho0 (fun k_ hk_ => ⟨(.inr (Nat.le_trans (below_size (kHs HB q4)) hk_)), (Kd.freshB (g := q1) (o := .cells #[.bool a0_0, .int .i64 a0_1, .slice A0_2 l0_2.length c0_2] 67 (0, 0)) (kB q0) k_ hk_)⟩)) (below_size (kHs HB q4))); replace q0 := Aside0.mk (blk_below (g := q1) (o := .cells #[.bool a0_0, .int .i64 a0_1, .slice A0_2 l0_2.length c0_2] 67 (0, 0)) (kB q0) hb); replace HB := Aside0.mk (below_step (kHs HB q4) hb); (try clear hb); (try clear hb2); (try clear hk); (try clear hi); (try clear ho0)))
             go_ret2
             exact ⟨_, by first | rfl | (simp [errW_none, errW_some] <;> rfl) | (simp [*, errW_none, errW_some] <;> rfl), by (with_reducible repeat (first | apply Kd.V_alloc | apply Kd.V_drewN | apply Kd.V_drew)); exact Kd.V_mono q25.out (fun _ hk => hk.1), kHs HB q4⟩
           replace c54 := Bool.eq_false_iff.mpr c54; subst c54
           have H1 : (some (q3, true)) = some (r1, r2) := by rw [if_neg (show ¬ (false = true) by decide)] at H; exact H
           clear H; have H := H1; clear H1
           simp only [Option.some.injEq, Prod.mk.injEq] at H
           obtain ⟨rfl, rfl⟩ := H
           go_wp2
           go_ret2
           exact ⟨_, by first | rfl | (simp [errW_none, errW_some] <;> rfl) | (simp [*, errW_none, errW_some] <;> rfl), by (with_reducible repeat (first | apply Kd.V_alloc | apply Kd.V_drewN | apply Kd.V_drew)); exact Kd.V_mono HO_9.out (fun _ hk => hk.1), kHs HB q4⟩
 replace c10 := Bool.eq_false_iff.mpr c10; subst c10
 have H1 : (some (q3, false)) = some (r1, r2) := by rw [if_neg (show ¬ (false = true) by decide)] at H; exact H
 clear H; have H := H1; clear H1
 simp only [Option.some.injEq, Prod.mk.injEq] at H
 obtain ⟨rfl, rfl⟩ := H
 go_enter Try.func38, Try.ntmps38
 go_wp2_with (first | ((with_reducible refine gate_dst (N := 3) rfl ?_); (try (refine gate_guard (by rfl) ?_; dsimp only)); refine box_event ?hg (N := 3) ?hd (cs := #[.bool a0_0, .int .i64 a0_1, .slice A0_2 l0_2.length c0_2]) (t := 67) ?hr ?_; (case hd => rfl); (case hg => rfl); (case hr => first | (go_simp; done) | (go_simp; rfl)); intro q1 hg w61 hbox hb; replace HO0_2 := Aside0.mk (Kd.V_below (Kd.V_elderB (kV HO0_2) q1 (Nat.le_of_eq hg.symm)) hb); have q0 := Aside0.mk (hbox); have q0x := Aside0.mk ((by rw [hg]; exact (below_size (kH HB)) : w.heap.size ≤ q1)); have q4 := Aside0.mk ((by rw [hg]; exact (below_size (kH HB)) : w.heap.size ≤ q1)); replace HB := Aside0.mk (below_step (kH HB) hb); clear hb hbox hg; have hcz62_0 : w61.cell? ⟨q1, 0, none⟩ = some (.bool a0_0) := bc q0 0; have hcz62_1 : w61.cell? ⟨q1, 1, none⟩ = some (.int .i64 a0_1) := bc q0 1; have hcz62_2 : w61.cell? ⟨q1, 2, none⟩ = some (.slice A0_2 l0_2.length c0_2) := bc q0 2; have hfz62_0 := blk_frozen q0.out 0; have hfz62_1 := blk_frozen q0.out 1; have hfz62_2 := blk_frozen q0.out 2) | ((with_reducible refine gate_callee (f := 74) rfl ?_); refine goesL_ (some 34) rfl rfl Try.func74 (by kernel_rfl) rfl #[.slice A0_2 l0_2.length c0_2, .int .i64 (wrap64 (a1 - a0_1))] rfl LMq ?_; (with_reducible refine (r2_Shr.calls k (fun k_ => ((P0_2_ k_ ∨ w.heap.size ≤ k_) ∧ k_ ≠ q1)) _ _ l0_2 (wrap64 (a1 - a0_1)) q3 false _ ?side1 A9.out).mono ?_); (case side1 => exact HO0_2.out); rintro e w63 ⟨v183, rfl, ho0, hb⟩; refine ⟨_, rfl, ?_⟩; replace HO0_2 := Aside0.mk (Kd.V_below (kV HO0_2) hb); have q6 := Aside0.mk (Kd.V_lower (Kd.V_mono (ok' := fun k_ => (P0_2_ k_ ∨ w.heap.size ≤ k_) ∧ k_ ≠ q1) ho0 (fun k_ hk_ => ⟨Or.elim hk_ (fun hs_ => hs_.1) (fun hn_ => (.inr (Nat.le_trans (below_size (kHs HB q4)) hn_))), Or.elim hk_ (fun hs_ => hs_.2) (fun hn_ => (Kd.freshB (g := q1) (o := .cells #[.bool a0_0, .int .i64 a0_1, .slice A0_2 l0_2.length c0_2] 67 (0, 0)) (kB q0) k_ hn_))⟩)) (below_size (kHs HB q4))); replace q0 := Aside0.mk (blk_below (g := q1) (o := .cells #[.bool a0_0, .int .i64 a0_1, .slice A0_2 l0_2.length c0_2] 67 (0, 0)) (kB q0) hb); replace HB := Aside0.mk (below_step (kHs HB q4) hb); (try clear hb); (try clear hb2); (try clear hk); (try clear hi); (try clear ho0)))
 go_ret2
 exact ⟨_, by first | rfl | (simp [errW_none, errW_some] <;> rfl) | (simp [*, errW_none, errW_some] <;> rfl), by (with_reducible repeat (first | apply Kd.V_alloc | apply Kd.V_drewN | apply Kd.V_drew)); exact Kd.V_mono q6.out (fun _ hk => hk.1), kHs HB q4⟩
end Go.Proofs.Ytbgefpeicmbgiaa.X
