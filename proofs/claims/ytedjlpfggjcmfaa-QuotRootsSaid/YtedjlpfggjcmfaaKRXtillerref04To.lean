import Derived.Test.YtedjlpfggjcmfaaKR4
import Derived.Test.YtedjlpfggjcmfaaKRXtillerref02Shr
namespace Go.Proofs.Ytedjlpfggjcmfaa.X
open Go.RowKit Go.Proofs.YtedjlpfggjcmfaaW.PrintWords Go.Proofs.YtedjlpfggjcmfaaW.PrintLast Go.Proofs.YtedjlpfggjcmfaaW.PrintMore
attribute [local go_sem] max2_int min2_int max_two min_two max_three min_three max_four min_four   
set_option linter.unusedVariables false
set_option linter.unusedSimpArgs false
mutual
def r4_To.j0 : Nat → Int → Int → List Int → Bool → List Int → Bool → Int → List Int → Option (List Int × Bool)
 | 0, _, _, _, _, _, _, _, _ => none
 | k + 1, x2, x8, x9, x11, x12, x258000, x258001, x258002 => if x11 = true then ((r2_Of.f k 1).bind fun t273 => ((r2_Shl.f k t273 (wrap64 (x8 - 1))).bind fun t276 => ((r2_Cmp.f k x12 t276).bind fun t279 => (r4_To.j1 k x2 x9 x11 (t279 == 0) x258000 x258001 x258002)))) else (r4_To.j1 k x2 x9 x11 false x258000 x258001 x258002)
def r4_To.j1 : Nat → Int → List Int → Bool → Bool → Bool → Int → List Int → Option (List Int × Bool)
 | 0, _, _, _, _, _, _, _ => none
 | k + 1, x2, x9, x11, x13, x258000, x258001, x258002 => if x11 = true then (if x13 = true then (if (x9.length : Int) > 0 then (if 0 < (x9.length : Int) then (r4_To.j2 k x2 x9 x11 ((Int.tmod (rd x9 0) 2) == 1) x258000 x258001 x258002) else (none)) else (r4_To.j2 k x2 x9 x11 false x258000 x258001 x258002)) else (r4_To.j2 k x2 x9 x11 true x258000 x258001 x258002)) else (r4_To.j2 k x2 x9 x11 false x258000 x258001 x258002)
def r4_To.j2 : Nat → Int → List Int → Bool → Bool → Bool → Int → List Int → Option (List Int × Bool)
 | 0, _, _, _, _, _, _, _ => none
 | k + 1, x2, x9, x11, x14, x258000, x258001, x258002 => if x2 = 1 then (r4_To.j3 k x9 x11) else (if x2 = 2 then (r4_To.j3 k x9 false) else (if x2 = 3 then (r4_To.j3 k x9 (!x258000)) else (if x2 = 4 then (r4_To.j3 k x9 x258000) else (r4_To.j3 k x9 x14))))
def r4_To.j3 : Nat → List Int → Bool → Option (List Int × Bool)
 | 0, _, _ => none
 | k + 1, x9, x14 => if x14 = true then ((r2_Of.f k 1).bind fun t281 => ((r2_Add.f k x9 t281).bind fun t284 => (some (t284, true)))) else (some (x9, true))
end
def r4_To.f (k : Nat) (a0_0 : Bool) (a0_1 : Int) (l0_2 : List Int) (a1 : Int) (a2 : Int) : Option (List Int × Bool) := if a0_1 ≥ a1 then ((r2_Shl.f k l0_2 (wrap64 (a0_1 - a1))).bind fun t258 => (some (t258, false))) else ((r2_Shr.f k l0_2 (wrap64 (a1 - a0_1))).bind fun bt261 => (if bt261.2 = true then ((r2_Bit.f k l0_2 (wrap64 ((wrap64 (a1 - a0_1)) - 1))).bind fun t265 => ((r2_Len.f k l0_2).bind fun t266 => (if (wrap64 (a1 - a0_1)) ≤ t266 then ((r2_Shl.f k bt261.1 (wrap64 (a1 - a0_1))).bind fun t267 => ((r2_Sub.f k l0_2 t267).bind fun t270 => (r4_To.j0 k a2 (wrap64 (a1 - a0_1)) bt261.1 (t265 == 1) t270 a0_0 a0_1 l0_2))) else (r4_To.j0 k a2 (wrap64 (a1 - a0_1)) bt261.1 (t265 == 1) l0_2 a0_0 a0_1 l0_2)))) else (some (bt261.1, false))))
theorem r4_To.mono_l : ∀ k, (∀ y0 y1 y2 y3 y4 y5 y6 y7, LeO (r4_To.j0 k y0 y1 y2 y3 y4 y5 y6 y7) (r4_To.j0 (k + 1) y0 y1 y2 y3 y4 y5 y6 y7)) ∧ (∀ y0 y1 y2 y3 y4 y5 y6, LeO (r4_To.j1 k y0 y1 y2 y3 y4 y5 y6) (r4_To.j1 (k + 1) y0 y1 y2 y3 y4 y5 y6)) ∧ (∀ y0 y1 y2 y3 y4 y5 y6, LeO (r4_To.j2 k y0 y1 y2 y3 y4 y5 y6) (r4_To.j2 (k + 1) y0 y1 y2 y3 y4 y5 y6)) ∧ (∀ y0 y1, LeO (r4_To.j3 k y0 y1) (r4_To.j3 (k + 1) y0 y1))
 | 0 => ⟨fun _ _ _ _ _ _ _ _ r h => by simp [r4_To.j0] at h, fun _ _ _ _ _ _ _ r h => by simp [r4_To.j1] at h, fun _ _ _ _ _ _ _ r h => by simp [r4_To.j2] at h, fun _ _ r h => by simp [r4_To.j3] at h⟩
 | k + 1 => by
  obtain ⟨ih0, ih1, ih2, ih3⟩ := r4_To.mono_l k; refine ⟨?_, ?_, ?_, ?_⟩
  · intro y0 y1 y2 y3 y4 y5 y6 y7
    unfold r4_To.j0
    repeat' first
    | (with_reducible exact ih0 _ _ _ _ _ _ _ _)
    | (with_reducible exact ih1 _ _ _ _ _ _ _)
    | (with_reducible exact ih2 _ _ _ _ _ _ _)
    | (with_reducible exact ih3 _ _)
    | (with_reducible exact r2_Add.mono _ _ _)
    | (with_reducible exact r2_Bit.mono _ _ _)
    | (with_reducible exact r2_Cmp.mono _ _ _)
    | (with_reducible exact r2_Len.mono _ _)
    | (with_reducible exact r2_Of.mono _ _)
    | (with_reducible exact r2_Shl.mono _ _ _)
    | (with_reducible exact r2_Shr.mono _ _ _)
    | (with_reducible exact r2_Sub.mono _ _ _)
    | (with_reducible exact LeO.refl _)
    | (with_reducible exact LeO.none _)
    | (with_reducible refine LeO.ite ?_ ?_)
    | (with_reducible refine LeO.bind ?_ (fun _ => ?_))
    | exact ih0 _ _ _ _ _ _ _ _
    | exact ih1 _ _ _ _ _ _ _
    | exact ih2 _ _ _ _ _ _ _
    | exact ih3 _ _
    | exact r2_Add.mono _ _ _
    | exact r2_Bit.mono _ _ _
    | exact r2_Cmp.mono _ _ _
    | exact r2_Len.mono _ _
    | exact r2_Of.mono _ _
    | exact r2_Shl.mono _ _ _
    | exact r2_Shr.mono _ _ _
    | exact r2_Sub.mono _ _ _
    | exact LeO.none _
    | refine LeO.ite ?_ ?_
    | refine LeO.bind ?_ (fun _ => ?_)
  · intro y0 y1 y2 y3 y4 y5 y6
    unfold r4_To.j1
    repeat' first
    | (with_reducible exact ih0 _ _ _ _ _ _ _ _)
    | (with_reducible exact ih1 _ _ _ _ _ _ _)
    | (with_reducible exact ih2 _ _ _ _ _ _ _)
    | (with_reducible exact ih3 _ _)
    | (with_reducible exact r2_Add.mono _ _ _)
    | (with_reducible exact r2_Bit.mono _ _ _)
    | (with_reducible exact r2_Cmp.mono _ _ _)
    | (with_reducible exact r2_Len.mono _ _)
    | (with_reducible exact r2_Of.mono _ _)
    | (with_reducible exact r2_Shl.mono _ _ _)
    | (with_reducible exact r2_Shr.mono _ _ _)
    | (with_reducible exact r2_Sub.mono _ _ _)
    | (with_reducible exact LeO.refl _)
    | (with_reducible exact LeO.none _)
    | (with_reducible refine LeO.ite ?_ ?_)
    | (with_reducible refine LeO.bind ?_ (fun _ => ?_))
    | exact ih0 _ _ _ _ _ _ _ _
    | exact ih1 _ _ _ _ _ _ _
    | exact ih2 _ _ _ _ _ _ _
    | exact ih3 _ _
    | exact r2_Add.mono _ _ _
    | exact r2_Bit.mono _ _ _
    | exact r2_Cmp.mono _ _ _
    | exact r2_Len.mono _ _
    | exact r2_Of.mono _ _
    | exact r2_Shl.mono _ _ _
    | exact r2_Shr.mono _ _ _
    | exact r2_Sub.mono _ _ _
    | exact LeO.none _
    | refine LeO.ite ?_ ?_
    | refine LeO.bind ?_ (fun _ => ?_)
  · intro y0 y1 y2 y3 y4 y5 y6
    unfold r4_To.j2
    repeat' first
    | (with_reducible exact ih0 _ _ _ _ _ _ _ _)
    | (with_reducible exact ih1 _ _ _ _ _ _ _)
    | (with_reducible exact ih2 _ _ _ _ _ _ _)
    | (with_reducible exact ih3 _ _)
    | (with_reducible exact r2_Add.mono _ _ _)
    | (with_reducible exact r2_Bit.mono _ _ _)
    | (with_reducible exact r2_Cmp.mono _ _ _)
    | (with_reducible exact r2_Len.mono _ _)
    | (with_reducible exact r2_Of.mono _ _)
    | (with_reducible exact r2_Shl.mono _ _ _)
    | (with_reducible exact r2_Shr.mono _ _ _)
    | (with_reducible exact r2_Sub.mono _ _ _)
    | (with_reducible exact LeO.refl _)
    | (with_reducible exact LeO.none _)
    | (with_reducible refine LeO.ite ?_ ?_)
    | (with_reducible refine LeO.bind ?_ (fun _ => ?_))
    | exact ih0 _ _ _ _ _ _ _ _
    | exact ih1 _ _ _ _ _ _ _
    | exact ih2 _ _ _ _ _ _ _
    | exact ih3 _ _
    | exact r2_Add.mono _ _ _
    | exact r2_Bit.mono _ _ _
    | exact r2_Cmp.mono _ _ _
    | exact r2_Len.mono _ _
    | exact r2_Of.mono _ _
    | exact r2_Shl.mono _ _ _
    | exact r2_Shr.mono _ _ _
    | exact r2_Sub.mono _ _ _
    | exact LeO.none _
    | refine LeO.ite ?_ ?_
    | refine LeO.bind ?_ (fun _ => ?_)
  intro y0 y1
  unfold r4_To.j3
  repeat' first
  | (with_reducible exact ih0 _ _ _ _ _ _ _ _)
  | (with_reducible exact ih1 _ _ _ _ _ _ _)
  | (with_reducible exact ih2 _ _ _ _ _ _ _)
  | (with_reducible exact ih3 _ _)
  | (with_reducible exact r2_Add.mono _ _ _)
  | (with_reducible exact r2_Bit.mono _ _ _)
  | (with_reducible exact r2_Cmp.mono _ _ _)
  | (with_reducible exact r2_Len.mono _ _)
  | (with_reducible exact r2_Of.mono _ _)
  | (with_reducible exact r2_Shl.mono _ _ _)
  | (with_reducible exact r2_Shr.mono _ _ _)
  | (with_reducible exact r2_Sub.mono _ _ _)
  | (with_reducible exact LeO.refl _)
  | (with_reducible exact LeO.none _)
  | (with_reducible refine LeO.ite ?_ ?_)
  | (with_reducible refine LeO.bind ?_ (fun _ => ?_))
  | exact ih0 _ _ _ _ _ _ _ _
  | exact ih1 _ _ _ _ _ _ _
  | exact ih2 _ _ _ _ _ _ _
  | exact ih3 _ _
  | exact r2_Add.mono _ _ _
  | exact r2_Bit.mono _ _ _
  | exact r2_Cmp.mono _ _ _
  | exact r2_Len.mono _ _
  | exact r2_Of.mono _ _
  | exact r2_Shl.mono _ _ _
  | exact r2_Shr.mono _ _ _
  | exact r2_Sub.mono _ _ _
  | exact LeO.none _
  | refine LeO.ite ?_ ?_
  | refine LeO.bind ?_ (fun _ => ?_)
theorem r4_To.mono : ∀ a0 a1 a2 a3 a4 k, LeO (r4_To.f k a0 a1 a2 a3 a4) (r4_To.f (k + 1) a0 a1 a2 a3 a4) := by
 intro a0 a1 a2 a3 a4 k; obtain ⟨ih0, ih1, ih2, ih3⟩ := r4_To.mono_l k
 unfold r4_To.f
 repeat' first
  | (with_reducible exact ih0 _ _ _ _ _ _ _ _)
  | (with_reducible exact ih1 _ _ _ _ _ _ _)
  | (with_reducible exact ih2 _ _ _ _ _ _ _)
  | (with_reducible exact ih3 _ _)
  | (with_reducible exact r2_Add.mono _ _ _)
  | (with_reducible exact r2_Bit.mono _ _ _)
  | (with_reducible exact r2_Cmp.mono _ _ _)
  | (with_reducible exact r2_Len.mono _ _)
  | (with_reducible exact r2_Of.mono _ _)
  | (with_reducible exact r2_Shl.mono _ _ _)
  | (with_reducible exact r2_Shr.mono _ _ _)
  | (with_reducible exact r2_Sub.mono _ _ _)
  | (with_reducible exact LeO.refl _)
  | (with_reducible exact LeO.none _)
  | (with_reducible refine LeO.ite ?_ ?_)
  | (with_reducible refine LeO.bind ?_ (fun _ => ?_))
  | exact ih0 _ _ _ _ _ _ _ _
  | exact ih1 _ _ _ _ _ _ _
  | exact ih2 _ _ _ _ _ _ _
  | exact ih3 _ _
  | exact r2_Add.mono _ _ _
  | exact r2_Bit.mono _ _ _
  | exact r2_Cmp.mono _ _ _
  | exact r2_Len.mono _ _
  | exact r2_Of.mono _ _
  | exact r2_Shl.mono _ _ _
  | exact r2_Shr.mono _ _ _
  | exact r2_Sub.mono _ _ _
  | exact LeO.none _
  | refine LeO.ite ?_ ?_
  | refine LeO.bind ?_ (fun _ => ?_)
set_option maxHeartbeats 8000000 in
set_option maxRecDepth 100000 in
theorem r4_To.calls (k : Nat) (a0_0 : Bool) (a0_1 : Int) (P0_2_ : Nat → Prop) (A0_2 : Option Addr) (c0_2 : Nat) (l0_2 : List Int) (a1 : Int) (a2 : Int) (r1 : List Int) (r2 : Bool) (w : World) (hs0_2 : Kd.V (Kd.int .u32) 86 w w.heap.size (fun k_ => P0_2_ k_) (.slice A0_2 l0_2.length c0_2) l0_2) (h : r4_To.f k a0_0 a0_1 l0_2 a1 a2 = some (r1, r2)) :
 Calls Try.prog 57 #[.agg #[.bool a0_0, .int .i64 a0_1, .slice A0_2 l0_2.length c0_2], .int .i64 a1, .int .i64 a2] w fun e w' => ∃ v0_ : Value, e = .returned (.tuple #[v0_, .bool r2]) ∧ Kd.V (Kd.int .u32) 86 w' w.heap.size (fun k_ => (P0_2_ k_ ∨ w.heap.size ≤ k_)) v0_ r1 ∧ Below w.heap.size w w' := by
 have hu62 := Try.underlying62; have HO0_2 := Aside0.mk (show Kd.V (Kd.int .u32) 86 w w.heap.size (fun k_ => (P0_2_ k_ ∨ w.heap.size ≤ k_)) (.slice A0_2 l0_2.length c0_2) l0_2 from Kd.V_mono hs0_2 (fun k_ hk => .inl hk)); have HB := Aside0.mk (Below.refl w.heap.size w); have H : (if a0_1 ≥ a1 then ((r2_Shl.f k l0_2 (wrap64 (a0_1 - a1))).bind fun t258 => (some (t258, false))) else ((r2_Shr.f k l0_2 (wrap64 (a1 - a0_1))).bind fun bt261 => (if bt261.2 = true then ((r2_Bit.f k l0_2 (wrap64 ((wrap64 (a1 - a0_1)) - 1))).bind fun t265 => ((r2_Len.f k l0_2).bind fun t266 => (if (wrap64 (a1 - a0_1)) ≤ t266 then ((r2_Shl.f k bt261.1 (wrap64 (a1 - a0_1))).bind fun t267 => ((r2_Sub.f k l0_2 t267).bind fun t270 => (r4_To.j0 k a2 (wrap64 (a1 - a0_1)) bt261.1 (t265 == 1) t270 a0_0 a0_1 l0_2))) else (r4_To.j0 k a2 (wrap64 (a1 - a0_1)) bt261.1 (t265 == 1) l0_2 a0_0 a0_1 l0_2)))) else (some (bt261.1, false))))) = some (r1, r2) := h; clear h
 by_cases c4 : a0_1 ≥ a1
 · rw [if_pos c4] at H
   have c4b0 : decide (a1 ≤ a0_1) = true := decide_eq_true c4; clear c4; replace H := Option.bind_eq_some_iff.mp H; obtain ⟨t258, A50, H⟩ := H; replace H : (some (t258, false)) = some (r1, r2) := H; have A5 := Aside0.mk A50; clear A50
   simp only [Option.some.injEq, Prod.mk.injEq] at H
   obtain ⟨rfl, rfl⟩ := H
   go_enter Try.func57, Try.ntmps57
   go_wp2_with (first | ((with_reducible refine gate_dst (N := 3) rfl ?_); (try (refine gate_guard (by rfl) ?_; dsimp only)); refine box_event ?hg (N := 3) ?hd (cs := #[.bool a0_0, .int .i64 a0_1, .slice A0_2 l0_2.length c0_2]) (t := 62) ?hr ?_; (case hd => rfl); (case hg => rfl); (case hr => first | (go_simp; done) | (go_simp; rfl)); intro gb257 hg w6 hbox hb; replace HO0_2 := Aside0.mk (Kd.V_below (Kd.V_elderB (kV HO0_2) gb257 (Nat.le_of_eq hg.symm)) hb); have BK257 := Aside0.mk (hbox); have GW257 := Aside0.mk ((by rw [hg]; exact (below_size (kH HB)) : w.heap.size ≤ gb257)); have GE257 := Aside0.mk ((by rw [hg]; exact (below_size (kH HB)) : w.heap.size ≤ gb257)); replace HB := Aside0.mk (below_step (kH HB) hb); clear hb hbox hg; have hcz7_0 : w6.cell? ⟨gb257, 0, none⟩ = some (.bool a0_0) := bc BK257 0; have hcz7_1 : w6.cell? ⟨gb257, 1, none⟩ = some (.int .i64 a0_1) := bc BK257 1; have hcz7_2 : w6.cell? ⟨gb257, 2, none⟩ = some (.slice A0_2 l0_2.length c0_2) := bc BK257 2; have hfz7_0 := blk_frozen BK257.out 0; have hfz7_1 := blk_frozen BK257.out 1; have hfz7_2 := blk_frozen BK257.out 2) | ((with_reducible refine gate_callee (f := 26) rfl ?_); refine goesL_ (some 25) rfl rfl Try.func26 (by kernel_rfl) rfl #[.slice A0_2 l0_2.length c0_2, .int .i64 (wrap64 (a0_1 - a1))] rfl LMq ?_; (with_reducible refine (r2_Shl.calls k _ _ l0_2 (wrap64 (a0_1 - a1)) t258 _ ?side1 ?side2 A5.out).mono ?_); (case side1 => exact kC (Kd.V_reads' HO0_2.out).2.2); (case side2 => exact (Kd.V_reads' HO0_2.out).2.1); rintro e w8 ⟨v259, rfl, ho0, hb⟩; refine ⟨_, rfl, ?_⟩; replace HO0_2 := Aside0.mk (Kd.V_below (kV HO0_2) hb); have HO260 := Aside0.mk (Kd.V_lower (Kd.V_mono (ok' := fun k_ => (P0_2_ k_ ∨ w.heap.size ≤ k_) ∧ k_ ≠ gb257) ho0 (fun k_ hk_ => ⟨(.inr (Nat.le_trans (below_size (kHs HB GE257)) hk_)), (Kd.freshB (g := gb257) (o := .cells #[.bool a0_0, .int .i64 a0_1, .slice A0_2 l0_2.length c0_2] 62 (0, 0)) (kB BK257) k_ hk_)⟩)) (below_size (kHs HB GE257))); replace BK257 := Aside0.mk (blk_below (g := gb257) (o := .cells #[.bool a0_0, .int .i64 a0_1, .slice A0_2 l0_2.length c0_2] 62 (0, 0)) (kB BK257) hb); replace HB := Aside0.mk (below_step (kHs HB GE257) hb); (try clear hb); (try clear hb2); (try clear hk); (try clear hi); (try clear ho0)))
   go_ret2
   exact ⟨_, by first | rfl | (simp [errW_none, errW_some] <;> rfl) | (simp [*, errW_none, errW_some] <;> rfl), by (with_reducible repeat (first | apply Kd.V_alloc | apply Kd.V_drewN | apply Kd.V_drew)); exact Kd.V_mono HO260.out (fun _ hk => hk.1), kHs HB GE257⟩
 rw [if_neg c4] at H
 have c4b0 : decide (a1 ≤ a0_1) = false := decide_eq_false c4; clear c4; replace H := Option.bind_eq_some_iff.mp H; obtain ⟨⟨t261, t264⟩, A90, H⟩ := H; replace H : (if t264 = true then ((r2_Bit.f k l0_2 (wrap64 ((wrap64 (a1 - a0_1)) - 1))).bind fun t265 => ((r2_Len.f k l0_2).bind fun t266 => (if (wrap64 (a1 - a0_1)) ≤ t266 then ((r2_Shl.f k t261 (wrap64 (a1 - a0_1))).bind fun t267 => ((r2_Sub.f k l0_2 t267).bind fun t270 => (r4_To.j0 k a2 (wrap64 (a1 - a0_1)) t261 (t265 == 1) t270 a0_0 a0_1 l0_2))) else (r4_To.j0 k a2 (wrap64 (a1 - a0_1)) t261 (t265 == 1) l0_2 a0_0 a0_1 l0_2)))) else (some (t261, false))) = some (r1, r2) := H; have A9 := Aside0.mk A90; clear A90
 by_cases c10 : t264 = true
 · subst c10
   have H1 : ((r2_Bit.f k l0_2 (wrap64 ((wrap64 (a1 - a0_1)) - 1))).bind fun t265 => ((r2_Len.f k l0_2).bind fun t266 => (if (wrap64 (a1 - a0_1)) ≤ t266 then ((r2_Shl.f k t261 (wrap64 (a1 - a0_1))).bind fun t267 => ((r2_Sub.f k l0_2 t267).bind fun t270 => (r4_To.j0 k a2 (wrap64 (a1 - a0_1)) t261 (t265 == 1) t270 a0_0 a0_1 l0_2))) else (r4_To.j0 k a2 (wrap64 (a1 - a0_1)) t261 (t265 == 1) l0_2 a0_0 a0_1 l0_2)))) = some (r1, r2) := by rw [if_pos rfl] at H; exact H
   clear H; have H := H1; clear H1; replace H := Option.bind_eq_some_iff.mp H; obtain ⟨t265, A110, H⟩ := H; replace H : ((r2_Len.f k l0_2).bind fun t266 => (if (wrap64 (a1 - a0_1)) ≤ t266 then ((r2_Shl.f k t261 (wrap64 (a1 - a0_1))).bind fun t267 => ((r2_Sub.f k l0_2 t267).bind fun t270 => (r4_To.j0 k a2 (wrap64 (a1 - a0_1)) t261 (t265 == 1) t270 a0_0 a0_1 l0_2))) else (r4_To.j0 k a2 (wrap64 (a1 - a0_1)) t261 (t265 == 1) l0_2 a0_0 a0_1 l0_2))) = some (r1, r2) := H; have A11 := Aside0.mk A110; clear A110; replace H := Option.bind_eq_some_iff.mp H; obtain ⟨t266, A120, H⟩ := H; replace H : (if (wrap64 (a1 - a0_1)) ≤ t266 then ((r2_Shl.f k t261 (wrap64 (a1 - a0_1))).bind fun t267 => ((r2_Sub.f k l0_2 t267).bind fun t270 => (r4_To.j0 k a2 (wrap64 (a1 - a0_1)) t261 (t265 == 1) t270 a0_0 a0_1 l0_2))) else (r4_To.j0 k a2 (wrap64 (a1 - a0_1)) t261 (t265 == 1) l0_2 a0_0 a0_1 l0_2)) = some (r1, r2) := H; have A12 := Aside0.mk A120; clear A120; have HC13 := Aside0.mk H; clear H
   go_enter Try.func57, Try.ntmps57
   go_upto_if 52 with (first | ((with_reducible refine gate_dst (N := 3) rfl ?_); (try (refine gate_guard (by rfl) ?_; dsimp only)); refine box_event ?hg (N := 3) ?hd (cs := #[.bool a0_0, .int .i64 a0_1, .slice A0_2 l0_2.length c0_2]) (t := 62) ?hr ?_; (case hd => rfl); (case hg => rfl); (case hr => first | (go_simp; done) | (go_simp; rfl)); intro gb257 hg w14 hbox hb; replace HO0_2 := Aside0.mk (Kd.V_below (Kd.V_elderB (kV HO0_2) gb257 (Nat.le_of_eq hg.symm)) hb); have BK257 := Aside0.mk (hbox); have GW257 := Aside0.mk ((by rw [hg]; exact (below_size (kH HB)) : w.heap.size ≤ gb257)); have GE257 := Aside0.mk ((by rw [hg]; exact (below_size (kH HB)) : w.heap.size ≤ gb257)); replace HB := Aside0.mk (below_step (kH HB) hb); clear hb hbox hg; have hcz15_0 : w14.cell? ⟨gb257, 0, none⟩ = some (.bool a0_0) := bc BK257 0; have hcz15_1 : w14.cell? ⟨gb257, 1, none⟩ = some (.int .i64 a0_1) := bc BK257 1; have hcz15_2 : w14.cell? ⟨gb257, 2, none⟩ = some (.slice A0_2 l0_2.length c0_2) := bc BK257 2; have hfz15_0 := blk_frozen BK257.out 0; have hfz15_1 := blk_frozen BK257.out 1; have hfz15_2 := blk_frozen BK257.out 2) | ((with_reducible refine gate_callee (f := 66) rfl ?_); refine goesL_ (some 34) rfl rfl Try.func66 (by kernel_rfl) rfl #[.slice A0_2 l0_2.length c0_2, .int .i64 (wrap64 (a1 - a0_1))] rfl LMq ?_; (with_reducible refine (r2_Shr.calls k (fun k_ => ((P0_2_ k_ ∨ w.heap.size ≤ k_) ∧ k_ ≠ gb257)) _ _ l0_2 (wrap64 (a1 - a0_1)) t261 true _ ?side1 A9.out).mono ?_); (case side1 => exact HO0_2.out); rintro e w16 ⟨v262, rfl, ho0, hb⟩; refine ⟨_, rfl, ?_⟩; replace HO0_2 := Aside0.mk (Kd.V_below (kV HO0_2) hb); have HO263 := Aside0.mk (Kd.V_lower (Kd.V_mono (ok' := fun k_ => (P0_2_ k_ ∨ w.heap.size ≤ k_) ∧ k_ ≠ gb257) ho0 (fun k_ hk_ => ⟨Or.elim hk_ (fun hs_ => hs_.1) (fun hn_ => (.inr (Nat.le_trans (below_size (kHs HB GE257)) hn_))), Or.elim hk_ (fun hs_ => hs_.2) (fun hn_ => (Kd.freshB (g := gb257) (o := .cells #[.bool a0_0, .int .i64 a0_1, .slice A0_2 l0_2.length c0_2] 62 (0, 0)) (kB BK257) k_ hn_))⟩)) (below_size (kHs HB GE257))); replace BK257 := Aside0.mk (blk_below (g := gb257) (o := .cells #[.bool a0_0, .int .i64 a0_1, .slice A0_2 l0_2.length c0_2] 62 (0, 0)) (kB BK257) hb); replace HB := Aside0.mk (below_step (kHs HB GE257) hb); (try clear hb); (try clear hb2); (try clear hk); (try clear hi); (try clear ho0); have hcz17_0 : w16.cell? ⟨gb257, 0, none⟩ = some (.bool a0_0) := bc BK257 0; have hcz17_1 : w16.cell? ⟨gb257, 1, none⟩ = some (.int .i64 a0_1) := bc BK257 1; have hcz17_2 : w16.cell? ⟨gb257, 2, none⟩ = some (.slice A0_2 l0_2.length c0_2) := bc BK257 2; have hfz17_0 := blk_frozen BK257.out 0; have hfz17_1 := blk_frozen BK257.out 1; have hfz17_2 := blk_frozen BK257.out 2) | ((with_reducible refine gate_callee (f := 67) rfl ?_); refine goesL_ (some 44) rfl rfl Try.func67 (by kernel_rfl) rfl #[.slice A0_2 l0_2.length c0_2, .int .i64 (wrap64 ((wrap64 (a1 - a0_1)) - 1))] rfl LMq ?_; (with_reducible refine (r2_Bit.calls k _ _ l0_2 (wrap64 ((wrap64 (a1 - a0_1)) - 1)) t265 _ ?side1 ?side2 A11.out).mono ?_); (case side1 => exact kC (Kd.V_reads' HO0_2.out).2.2); (case side2 => exact (Kd.V_reads' HO0_2.out).2.1); rintro e w18 ⟨rfl, hb⟩; refine ⟨_, rfl, ?_⟩; replace HO0_2 := Aside0.mk (Kd.V_below (kV HO0_2) hb); replace HO263 := Aside0.mk (Kd.V_below (kV HO263) hb); replace BK257 := Aside0.mk (blk_below (g := gb257) (o := .cells #[.bool a0_0, .int .i64 a0_1, .slice A0_2 l0_2.length c0_2] 62 (0, 0)) (kB BK257) hb); replace HB := Aside0.mk (below_step (kHs HB GE257) hb); (try clear hb); (try clear hb2); (try clear hk); (try clear hi); have hcz19_0 : w18.cell? ⟨gb257, 0, none⟩ = some (.bool a0_0) := bc BK257 0; have hcz19_1 : w18.cell? ⟨gb257, 1, none⟩ = some (.int .i64 a0_1) := bc BK257 1; have hcz19_2 : w18.cell? ⟨gb257, 2, none⟩ = some (.slice A0_2 l0_2.length c0_2) := bc BK257 2; have hfz19_0 := blk_frozen BK257.out 0; have hfz19_1 := blk_frozen BK257.out 1; have hfz19_2 := blk_frozen BK257.out 2) | ((with_reducible refine gate_callee (f := 31) rfl ?_); refine goesL_ (some 51) rfl rfl Try.func31 (by kernel_rfl) rfl #[.slice A0_2 l0_2.length c0_2] rfl LMq ?_; (with_reducible refine (r2_Len.calls k _ _ l0_2 t266 _ ?side1 ?side2 A12.out).mono ?_); (case side1 => exact kC (Kd.V_reads' HO0_2.out).2.2); (case side2 => exact (Kd.V_reads' HO0_2.out).2.1); rintro e w20 ⟨rfl, hb⟩; refine ⟨_, rfl, ?_⟩; replace HO0_2 := Aside0.mk (Kd.V_below (kV HO0_2) hb); replace HO263 := Aside0.mk (Kd.V_below (kV HO263) hb); replace BK257 := Aside0.mk (blk_below (g := gb257) (o := .cells #[.bool a0_0, .int .i64 a0_1, .slice A0_2 l0_2.length c0_2] 62 (0, 0)) (kB BK257) hb); replace HB := Aside0.mk (below_step (kHs HB GE257) hb); (try clear hb); (try clear hb2); (try clear hk); (try clear hi)))
   (try simp only [Act.put, List.setIfInBounds_toArray, List.set_cons_zero, List.set_cons_succ])
   go_cut [11, 12] (fun v11 v12 wc => ∃ (kq : Nat) (x11_12 : Bool) (x12_12 : List Int), v11 = .bool x11_12 ∧ Aside0 (r4_To.j0 kq a2 (wrap64 (a1 - a0_1)) t261 x11_12 x12_12 a0_0 a0_1 l0_2 = some (r1, r2)) ∧ Aside0 (kq ≤ k) ∧ Aside0 (Kd.V (Kd.int .u32) 86 wc w.heap.size (fun k_ => (P0_2_ k_ ∨ w.heap.size ≤ k_) ∧ k_ ≠ gb257) v262 t261) ∧ Aside0 (Kd.V (Kd.int .u32) 86 wc w.heap.size (fun k_ => (P0_2_ k_ ∨ w.heap.size ≤ k_) ∧ k_ ≠ gb257) v12 x12_12) ∧ Aside0 (Kd.V (Kd.int .u32) 86 wc w.heap.size (fun k_ => (P0_2_ k_ ∨ w.heap.size ≤ k_) ∧ k_ ≠ gb257) (.slice A0_2 l0_2.length c0_2) l0_2) ∧ Aside0 (wc.heap[gb257]? = some (.cells #[.bool a0_0, .int .i64 a0_1, (.slice A0_2 l0_2.length c0_2)] 62 (0, 0))) ∧ Aside0 (Below w.heap.size w wc))
   case first =>
    have H := HC13.out; clear HC13
    by_cases c21 : (wrap64 (a1 - a0_1)) ≤ t266
    · rw [if_pos c21] at H
      have c21b0 : decide ((wrap64 (a1 - a0_1)) ≤ t266) = true := decide_eq_true c21; clear c21
      (first | rw [c21b0] | (simp only [i64_w, i32_w]; rw [c21b0]) | skip)
      replace H := Option.bind_eq_some_iff.mp H; obtain ⟨t267, A220, H⟩ := H; replace H : ((r2_Sub.f k l0_2 t267).bind fun t270 => (r4_To.j0 k a2 (wrap64 (a1 - a0_1)) t261 (t265 == 1) t270 a0_0 a0_1 l0_2)) = some (r1, r2) := H; have A22 := Aside0.mk A220; clear A220; replace H := Option.bind_eq_some_iff.mp H; obtain ⟨t270, A230, H⟩ := H; replace H : (r4_To.j0 k a2 (wrap64 (a1 - a0_1)) t261 (t265 == 1) t270 a0_0 a0_1 l0_2) = some (r1, r2) := H; have A23 := Aside0.mk A230; clear A230; have H' := Aside0.mk H; clear H
      try go_wp2
      replace HO0_2 := Aside0.mk (Kd.V_drew HO0_2.out); replace HO263 := Aside0.mk (Kd.V_drew HO263.out); replace BK257 := Aside0.mk (blk_drew BK257.out); replace HB := Aside0.mk (below_drew1 HB.out); obtain ⟨Ao25, co25, eo25⟩ := Kd.V_slice HO263.out
      (first | subst eo25 | (injection eo25 with f1_ f2_ f3_; have f4_ := f1_.symm; have f5_ := f3_.symm; clear f1_ f2_ f3_; subst f4_; subst f5_))
      refine start_ (n := 7) (S := fun w' => w'.cell? ⟨gb257, 0, none⟩ = some (.bool a0_0) ∧ w'.cell? ⟨gb257, 1, none⟩ = some (.int .i64 a0_1) ∧ w'.cell? ⟨gb257, 2, none⟩ = some (.slice A0_2 l0_2.length c0_2)) (ds := []) #[false, false, false, false, false, false, false] (by kernel_rfl) rfl rfl ⟨bc BK257 0, bc BK257 1, bc BK257 2⟩ (fun hHeld => ?_)
      generalize w20.drew = w24 at HO0_2 HO263 BK257 HB hHeld ⊢
      refine pure_ (i := 0) (N := some 53) (v := ?_) (a' := ?_) #[true, false, false, false, false, false, false] rfl rfl (by kernel_rfl) (fun _ _ _ h => h) (Or.inl ⟨by rfl, ?_⟩) ?_ ?_; rotate_left
      · intro w'
        go_simp
        with_reducible rfl
      rotate_left
      · exact APq
      refine pure_ (i := 2) (N := some 55) (v := ?_) (a' := ?_) #[true, false, true, false, false, false, false] rfl rfl (by kernel_rfl) (fun _ _ _ h => h) (Or.inl ⟨by rfl, ?_⟩) ?_ ?_; rotate_left
      · intro w'
        go_simp
        with_reducible rfl
      rotate_left
      · exact APq
      refine pure_ (i := 3) (N := some 56) (v := ?_) (a' := ?_) #[true, false, true, true, false, false, false] rfl rfl (by kernel_rfl) (fun _ _ _ h => h) (Or.inl ⟨by rfl, ?_⟩) ?_ ?_; rotate_left
      · intro w'
        go_simp
        with_reducible rfl
      rotate_left
      · exact APq
      refine take_ (i := 1) (N := some 54) (v := ?_) (a' := ?_) #[true, true, true, true, false, false, false] rfl rfl (by kernel_rfl) (fun _ _ _ h => h) (Or.inl ⟨by rfl, ?_⟩) hHeld ?_ ?_; rotate_left
      · rintro w' ⟨s0, s1, s2⟩
        go_simp
        with_reducible rfl
      rotate_left
      · exact APq
      refine one_ (i := 4) (N := some 57) #[true, true, true, true, true, false, false] rfl rfl (by kernel_rfl) (by decide) (fun K hK => ?_); refine goes_ Try.func26 (by kernel_rfl) rfl #[.slice Ao25 t261.length co25, .int .i64 (wrap64 (a1 - a0_1))] (by rfl) rfl rfl LMq ?_
      with_reducible refine (r2_Shl.calls k _ _ t261 (wrap64 (a1 - a0_1)) t267 _ ?side1 ?side2 A22.out).mono ?_
      (case side1 => exact kC (Kd.V_reads' HO263.out).2.2)
      (case side2 => exact (Kd.V_reads' HO263.out).2.1)
      rintro e w26 ⟨v268, rfl, ho0, hb⟩; refine ⟨_, rfl, ?_⟩; replace HO0_2 := Aside0.mk (Kd.V_below (kV HO0_2) hb); replace HO263 := Aside0.mk (Kd.V_below (kV HO263) hb); have HO269 := Aside0.mk (Kd.V_lower (Kd.V_mono (ok' := fun k_ => (P0_2_ k_ ∨ w.heap.size ≤ k_) ∧ k_ ≠ gb257) ho0 (fun k_ hk_ => ⟨(.inr (Nat.le_trans (below_size HB.out) hk_)), (Kd.freshB BK257.out k_ hk_)⟩)) (below_size HB.out)); replace BK257 := Aside0.mk (blk_below BK257.out hb); replace HB := Aside0.mk (below_step HB.out hb)
      (try clear hb)
      (try clear hb2)
      (try clear hk)
      (try clear hi)
      (try clear ho0)
      obtain ⟨Ao27, co27, eo27⟩ := Kd.V_slice HO269.out
      (first | subst eo27 | (injection eo27 with f1_ f2_ f3_; have f4_ := f1_.symm; have f5_ := f3_.symm; clear f1_ f2_ f3_; subst f4_; subst f5_))
      refine hK.out _ _ ⟨bc BK257 0, bc BK257 1, bc BK257 2⟩ (fun hHeld => ?_); clear hK K; refine norm_ (a' := ?_) ?_ ?_; rotate_left
      · show Act.put _ (some 57) _ = _
        exact APq
      refine one_ (i := 5) (N := some 58) #[true, true, true, true, true, true, false] rfl rfl (by kernel_rfl) (by decide) (fun K hK => ?_); refine goes_ Try.func54 (by kernel_rfl) rfl #[.slice A0_2 l0_2.length c0_2, .slice Ao27 t267.length co27] (by rfl) rfl rfl LMq ?_
      with_reducible refine (r2_Sub.calls k _ _ l0_2 _ _ t267 t270 _ ?side1 ?side2 ?side3 ?side4 A23.out).mono ?_
      (case side1 => exact kC (Kd.V_reads' HO0_2.out).2.2)
      (case side2 => exact (Kd.V_reads' HO0_2.out).2.1)
      (case side3 => exact kC (Kd.V_reads' HO269.out).2.2)
      (case side4 => exact (Kd.V_reads' HO269.out).2.1)
      rintro e w28 ⟨v271, rfl, ho0, hb⟩; refine ⟨_, rfl, ?_⟩; replace HO0_2 := Aside0.mk (Kd.V_below (kV HO0_2) hb); replace HO263 := Aside0.mk (Kd.V_below (kV HO263) hb); replace HO269 := Aside0.mk (Kd.V_below (kV HO269) hb); have HO272 := Aside0.mk (Kd.V_lower (Kd.V_mono (ok' := fun k_ => (P0_2_ k_ ∨ w.heap.size ≤ k_) ∧ k_ ≠ gb257) ho0 (fun k_ hk_ => ⟨(.inr (Nat.le_trans (below_size HB.out) hk_)), (Kd.freshB BK257.out k_ hk_)⟩)) (below_size HB.out)); replace BK257 := Aside0.mk (blk_below BK257.out hb); replace HB := Aside0.mk (below_step HB.out hb)
      (try clear hb)
      (try clear hb2)
      (try clear hk)
      (try clear hi)
      (try clear ho0)
      refine hK.out _ _ ⟨bc BK257 0, bc BK257 1, bc BK257 2⟩ (fun hHeld => ?_); clear hK K; refine norm_ (a' := ?_) ?_ ?_; rotate_left
      · show Act.put _ (some 58) _ = _
        exact APq
      refine pure_ (i := 6) (N := some 12) (v := ?_) (a' := ?_) #[true, true, true, true, true, true, true] rfl rfl (by kernel_rfl) (fun _ _ _ h => h) (Or.inl ⟨by rfl, ?_⟩) ?_ ?_; rotate_left
      · intro w'
        go_simp
        with_reducible rfl
      rotate_left
      · exact APq
      refine done_ (by kernel_rfl) ?_
      try go_wp2
      go_meet
      case rel => exact ⟨_, ((t265 == 1)), (t270), RSq, (by first | exact H' | (subst_vars; exact H')), ⟨by first | omega | exact Nat.le_refl _⟩, ⟨kV HO263⟩, ⟨kV HO272⟩, ⟨kV HO0_2⟩, ⟨kB BK257⟩, ⟨kHs HB GE257⟩⟩
    rw [if_neg c21] at H
    have c21b0 : decide ((wrap64 (a1 - a0_1)) ≤ t266) = false := decide_eq_false c21; clear c21
    (first | rw [c21b0] | (simp only [i64_w, i32_w]; rw [c21b0]) | skip)
    have H' := Aside0.mk H; clear H
    go_wp2
    go_meet
    case rel => exact ⟨_, ((t265 == 1)), (l0_2), RSq, (by first | exact H' | (subst_vars; exact H')), ⟨by first | omega | exact Nat.le_refl _⟩, ⟨kV HO263⟩, ⟨kV HO0_2⟩, ⟨kV HO0_2⟩, ⟨kB BK257⟩, ⟨kHs HB GE257⟩⟩
   case rest =>
    clear HC13; (try clear c1); (try clear c2); (try clear p2); (try clear c3); (try clear c4); (try clear c4b0); (try clear c5); (try clear c6); (try clear p6); (try clear c10); (try clear c21); (try clear c21b0); (try clear c26); (try clear hcz15_0 hcz15_1 hcz15_2); (try clear hcz17_0 hcz17_1 hcz17_2); (try clear hcz19_0 hcz19_1 hcz19_2); (try clear hcz7_0 hcz7_1 hcz7_2); (try clear hfz15_0 hfz15_1 hfz15_2); (try clear hfz17_0 hfz17_1 hfz17_2); (try clear hfz19_0 hfz19_1 hfz19_2); (try clear hfz7_0 hfz7_1 hfz7_2); obtain ⟨kq, x11_12, x12_12, rfl, HA, HJ12, HO_9, HO_12, HO_258002, BK257, HB⟩ := hcut
    cases kq with
    | zero => exact absurd HA.out (by simp [r4_To.j0])
    | succ kj12 =>
     have H := HA.out; clear HA
     simp only [r4_To.j0] at H
     have HC29 := Aside0.mk H; clear H
     go_upto_region 11 with (fail)
     go_cut [13] (fun v13 wc => ∃ (kq : Nat) (x13_28 : Bool), v13 = .bool x13_28 ∧ Aside0 (r4_To.j1 kq a2 t261 x11_12 x13_28 a0_0 a0_1 l0_2 = some (r1, r2)) ∧ Aside0 (kq ≤ kj12) ∧ Aside0 (Kd.V (Kd.int .u32) 86 wc w.heap.size (fun k_ => (P0_2_ k_ ∨ w.heap.size ≤ k_) ∧ k_ ≠ gb257) v262 t261) ∧ Aside0 (Kd.V (Kd.int .u32) 86 wc w.heap.size (fun k_ => (P0_2_ k_ ∨ w.heap.size ≤ k_) ∧ k_ ≠ gb257) (.slice A0_2 l0_2.length c0_2) l0_2) ∧ Aside0 (wc.heap[gb257]? = some (.cells #[.bool a0_0, .int .i64 a0_1, (.slice A0_2 l0_2.length c0_2)] 62 (0, 0))) ∧ Aside0 (Below w.heap.size w wc))
     case first =>
      have H := HC29.out; clear HC29
      by_cases c30 : x11_12 = true
      · subst c30
        have H1 : ((r2_Of.f kj12 1).bind fun t273 => ((r2_Shl.f kj12 t273 (wrap64 ((wrap64 (a1 - a0_1)) - 1))).bind fun t276 => ((r2_Cmp.f kj12 x12_12 t276).bind fun t279 => (r4_To.j1 kj12 a2 t261 true (t279 == 0) a0_0 a0_1 l0_2)))) = some (r1, r2) := by rw [if_pos rfl] at H; exact H
        clear H; have H := H1; clear H1; replace H := Option.bind_eq_some_iff.mp H; obtain ⟨t273, A310, H⟩ := H; replace H : ((r2_Shl.f kj12 t273 (wrap64 ((wrap64 (a1 - a0_1)) - 1))).bind fun t276 => ((r2_Cmp.f kj12 x12_12 t276).bind fun t279 => (r4_To.j1 kj12 a2 t261 true (t279 == 0) a0_0 a0_1 l0_2))) = some (r1, r2) := H; have A31 := Aside0.mk A310; clear A310; replace H := Option.bind_eq_some_iff.mp H; obtain ⟨t276, A320, H⟩ := H; replace H : ((r2_Cmp.f kj12 x12_12 t276).bind fun t279 => (r4_To.j1 kj12 a2 t261 true (t279 == 0) a0_0 a0_1 l0_2)) = some (r1, r2) := H; have A32 := Aside0.mk A320; clear A320; replace H := Option.bind_eq_some_iff.mp H; obtain ⟨t279, A330, H⟩ := H; replace H : (r4_To.j1 kj12 a2 t261 true (t279 == 0) a0_0 a0_1 l0_2) = some (r1, r2) := H; have A33 := Aside0.mk A330; clear A330; have H' := Aside0.mk H; clear H
        go_wp2_with (first | (go_at_call 27; (with_reducible refine (r2_Of.calls kj12 1 t273 _ A31.out).mono ?_); rintro e w34 ⟨v274, rfl, ho0, hb⟩; replace HO_9 := Aside0.mk (Kd.V_below (kV HO_9) hb); replace HO_12 := Aside0.mk (Kd.V_below (kV HO_12) hb); replace HO_258002 := Aside0.mk (Kd.V_below (kV HO_258002) hb); have HO275 := Aside0.mk (Kd.V_lower (Kd.V_mono (ok' := fun k_ => (P0_2_ k_ ∨ w.heap.size ≤ k_) ∧ k_ ≠ gb257) ho0 (fun k_ hk_ => ⟨(.inr (Nat.le_trans (below_size (kHs HB GE257)) hk_)), (Kd.freshB (g := gb257) (o := .cells #[.bool a0_0, .int .i64 a0_1, .slice A0_2 l0_2.length c0_2] 62 (0, 0)) (kB BK257) k_ hk_)⟩)) (below_size (kHs HB GE257))); replace BK257 := Aside0.mk (blk_below (g := gb257) (o := .cells #[.bool a0_0, .int .i64 a0_1, .slice A0_2 l0_2.length c0_2] 62 (0, 0)) (kB BK257) hb); replace HB := Aside0.mk (below_step (kHs HB GE257) hb); (try clear hb); (try clear hb2); (try clear hk); (try clear hi); (try clear ho0); obtain ⟨Ao35, co35, eo35⟩ := Kd.V_slice HO275.out; subst eo35) | (go_at_call 26; (with_reducible refine (r2_Shl.calls kj12 _ _ t273 (wrap64 ((wrap64 (a1 - a0_1)) - 1)) t276 _ ?side1 ?side2 A32.out).mono ?_); (case side1 => exact kC (Kd.V_reads' HO275.out).2.2); (case side2 => exact (Kd.V_reads' HO275.out).2.1); rintro e w36 ⟨v277, rfl, ho0, hb⟩; replace HO_9 := Aside0.mk (Kd.V_below (kV HO_9) hb); replace HO_12 := Aside0.mk (Kd.V_below (kV HO_12) hb); replace HO_258002 := Aside0.mk (Kd.V_below (kV HO_258002) hb); replace HO275 := Aside0.mk (Kd.V_below (kV HO275) hb); have HO278 := Aside0.mk (Kd.V_lower (Kd.V_mono (ok' := fun k_ => (P0_2_ k_ ∨ w.heap.size ≤ k_) ∧ k_ ≠ gb257) ho0 (fun k_ hk_ => ⟨(.inr (Nat.le_trans (below_size (kHs HB GE257)) hk_)), (Kd.freshB (g := gb257) (o := .cells #[.bool a0_0, .int .i64 a0_1, .slice A0_2 l0_2.length c0_2] 62 (0, 0)) (kB BK257) k_ hk_)⟩)) (below_size (kHs HB GE257))); replace BK257 := Aside0.mk (blk_below (g := gb257) (o := .cells #[.bool a0_0, .int .i64 a0_1, .slice A0_2 l0_2.length c0_2] 62 (0, 0)) (kB BK257) hb); replace HB := Aside0.mk (below_step (kHs HB GE257) hb); (try clear hb); (try clear hb2); (try clear hk); (try clear hi); (try clear ho0); obtain ⟨Ao37, co37, eo37⟩ := Kd.V_slice HO_12.out; subst eo37; obtain ⟨Ao38, co38, eo38⟩ := Kd.V_slice HO278.out; subst eo38) | (go_at_call 32; (with_reducible refine (r2_Cmp.calls kj12 _ _ x12_12 _ _ t276 t279 _ ?side1 ?side2 ?side3 ?side4 A33.out).mono ?_); (case side1 => exact kC (Kd.V_reads' HO_12.out).2.2); (case side2 => exact (Kd.V_reads' HO_12.out).2.1); (case side3 => exact kC (Kd.V_reads' HO278.out).2.2); (case side4 => exact (Kd.V_reads' HO278.out).2.1); rintro e w39 ⟨rfl, hb⟩; replace HO_9 := Aside0.mk (Kd.V_below (kV HO_9) hb); replace HO_12 := Aside0.mk (Kd.V_below (kV HO_12) hb); replace HO_258002 := Aside0.mk (Kd.V_below (kV HO_258002) hb); replace HO275 := Aside0.mk (Kd.V_below (kV HO275) hb); replace HO278 := Aside0.mk (Kd.V_below (kV HO278) hb); replace BK257 := Aside0.mk (blk_below (g := gb257) (o := .cells #[.bool a0_0, .int .i64 a0_1, .slice A0_2 l0_2.length c0_2] 62 (0, 0)) (kB BK257) hb); replace HB := Aside0.mk (below_step (kHs HB GE257) hb); (try clear hb); (try clear hb2); (try clear hk); (try clear hi)))
        go_meet
        case rel => exact ⟨_, ((t279 == 0)), RSq, (by first | exact H' | (subst_vars; exact H')), ⟨by have := HJ12.out; first | omega | exact Nat.le_refl _⟩, ⟨kV HO_9⟩, ⟨kV HO_258002⟩, ⟨kB BK257⟩, ⟨kHs HB GE257⟩⟩
      replace c30 := Bool.eq_false_iff.mpr c30; subst c30
      have H1 : (r4_To.j1 kj12 a2 t261 false false a0_0 a0_1 l0_2) = some (r1, r2) := by rw [if_neg (show ¬ (false = true) by decide)] at H; exact H
      clear H; have H := H1; clear H1; have H' := Aside0.mk H; clear H
      go_wp2
      go_meet
      case rel => exact ⟨_, (false), RSq, (by first | exact H' | (subst_vars; exact H')), ⟨by have := HJ12.out; first | omega | exact Nat.le_refl _⟩, ⟨kV HO_9⟩, ⟨kV HO_258002⟩, ⟨kB BK257⟩, ⟨kHs HB GE257⟩⟩
     case rest =>
      clear HC29; (try clear c1); (try clear c2); (try clear p2); (try clear c3); (try clear c4); (try clear c4b0); (try clear c5); (try clear c6); (try clear p6); (try clear c10); (try clear c21); (try clear c21b0); (try clear c26); (try clear c30); (try clear c31); (try clear hcz15_0 hcz15_1 hcz15_2); (try clear hcz17_0 hcz17_1 hcz17_2); (try clear hcz19_0 hcz19_1 hcz19_2); (try clear hcz7_0 hcz7_1 hcz7_2); (try clear hfz15_0 hfz15_1 hfz15_2); (try clear hfz17_0 hfz17_1 hfz17_2); (try clear hfz19_0 hfz19_1 hfz19_2); (try clear hfz7_0 hfz7_1 hfz7_2); (try clear p2); (try clear p6); obtain ⟨kq, x13_28, rfl, HA, HJ28, HO_9, HO_258002, BK257, HB⟩ := hcut
      cases kq with
      | zero => exact absurd HA.out (by simp [r4_To.j1])
      | succ kj28 =>
       have H := HA.out; clear HA
       simp only [r4_To.j1] at H
       have HC40 := Aside0.mk H; clear H
       go_upto_region 12 with (fail)
       go_cut [14] (fun v14 wc => ∃ (kq : Nat) (x14_39 : Bool), v14 = .bool x14_39 ∧ Aside0 (r4_To.j2 kq a2 t261 x11_12 x14_39 a0_0 a0_1 l0_2 = some (r1, r2)) ∧ Aside0 (kq ≤ kj28) ∧ Aside0 (Kd.V (Kd.int .u32) 86 wc w.heap.size (fun k_ => (P0_2_ k_ ∨ w.heap.size ≤ k_) ∧ k_ ≠ gb257) v262 t261) ∧ Aside0 (Kd.V (Kd.int .u32) 86 wc w.heap.size (fun k_ => (P0_2_ k_ ∨ w.heap.size ≤ k_) ∧ k_ ≠ gb257) (.slice A0_2 l0_2.length c0_2) l0_2) ∧ Aside0 (wc.heap[gb257]? = some (.cells #[.bool a0_0, .int .i64 a0_1, (.slice A0_2 l0_2.length c0_2)] 62 (0, 0))) ∧ Aside0 (Below w.heap.size w wc))
       case first =>
        have H := HC40.out; clear HC40
        by_cases c41 : x11_12 = true
        · subst c41
          have H1 : (if x13_28 = true then (if (t261.length : Int) > 0 then (if 0 < (t261.length : Int) then (r4_To.j2 kj28 a2 t261 true ((Int.tmod (rd t261 0) 2) == 1) a0_0 a0_1 l0_2) else (none)) else (r4_To.j2 kj28 a2 t261 true false a0_0 a0_1 l0_2)) else (r4_To.j2 kj28 a2 t261 true true a0_0 a0_1 l0_2)) = some (r1, r2) := by rw [if_pos rfl] at H; exact H
          clear H; have H := H1; clear H1
          by_cases c42 : x13_28 = true
          · subst c42
            have H1 : (if (t261.length : Int) > 0 then (if 0 < (t261.length : Int) then (r4_To.j2 kj28 a2 t261 true ((Int.tmod (rd t261 0) 2) == 1) a0_0 a0_1 l0_2) else (none)) else (r4_To.j2 kj28 a2 t261 true false a0_0 a0_1 l0_2)) = some (r1, r2) := by rw [if_pos rfl] at H; exact H
            clear H; have H := H1; clear H1
            by_cases c43 : (t261.length : Int) > 0
            · rw [if_pos c43] at H
              have c43b0 : decide (0 < (t261.length : Int)) = true := decide_eq_true c43; have c43b1 : decide (0 < t261.length) = true := decide_eq_true (by omega); clear c43
              (first | rw [c43b0] | (simp only [i64_w, i32_w]; rw [c43b0]) | skip)
              by_cases c44 : 0 < (t261.length : Int)
              · rw [if_pos c44] at H
                have c44b0 : decide (0 < (t261.length : Int)) = true := decide_eq_true c44; have c44b1 : decide (0 < t261.length) = true := decide_eq_true (by omega); clear c44; have H' := Aside0.mk H; clear H; obtain ⟨Ao45, co45, eo45⟩ := Kd.V_slice HO_9.out; subst eo45; have p280 : 0 ≤ (0 : Int) := (by omega); have q280 : 0 < (t261.length : Int) := of_decide_eq_true ASq; obtain ⟨ad280, e280, hx280_0⟩ := Kd.at_int (Kd.V_reads' HO_9.out).2.2 0 p280 q280
                cases e280
                have qi280 : (0 < t261.length) = True := eq_true (by omega)
                (try rw [show ((0 : Int)).toNat = 0 from rfl] at hx280_0)
                (try rw [Addr.add_zero'] at hx280_0)
                replace p280 := eq_true p280; replace q280 := eq_true q280
                go_wp2
                go_meet
                case rel => exact ⟨_, (((Int.tmod (rd t261 0) 2) == 1)), RSq, (by first | exact H' | (subst_vars; exact H')), ⟨by have := HJ12.out; have := HJ28.out; first | omega | exact Nat.le_refl _⟩, ⟨kV HO_9⟩, ⟨kV HO_258002⟩, ⟨kB BK257⟩, ⟨kHs HB GE257⟩⟩
              rw [if_neg c44] at H
              exact absurd H (by simp)
            rw [if_neg c43] at H
            have c43b0 : decide (0 < (t261.length : Int)) = false := decide_eq_false c43; have c43b1 : decide (0 < t261.length) = false := decide_eq_false (by omega); clear c43
            (first | rw [c43b0] | (simp only [i64_w, i32_w]; rw [c43b0]) | skip)
            have H' := Aside0.mk H; clear H; obtain ⟨Ao46, co46, eo46⟩ := Kd.V_slice HO_9.out; subst eo46
            go_wp2
            go_meet
            case rel => exact ⟨_, (false), RSq, (by first | exact H' | (subst_vars; exact H')), ⟨by have := HJ12.out; have := HJ28.out; first | omega | exact Nat.le_refl _⟩, ⟨kV HO_9⟩, ⟨kV HO_258002⟩, ⟨kB BK257⟩, ⟨kHs HB GE257⟩⟩
          replace c42 := Bool.eq_false_iff.mpr c42; subst c42
          have H1 : (r4_To.j2 kj28 a2 t261 true true a0_0 a0_1 l0_2) = some (r1, r2) := by rw [if_neg (show ¬ (false = true) by decide)] at H; exact H
          clear H; have H := H1; clear H1; have H' := Aside0.mk H; clear H
          go_wp2
          go_meet
          case rel => exact ⟨_, (true), RSq, (by first | exact H' | (subst_vars; exact H')), ⟨by have := HJ12.out; have := HJ28.out; first | omega | exact Nat.le_refl _⟩, ⟨kV HO_9⟩, ⟨kV HO_258002⟩, ⟨kB BK257⟩, ⟨kHs HB GE257⟩⟩
        replace c41 := Bool.eq_false_iff.mpr c41; subst c41
        have H1 : (r4_To.j2 kj28 a2 t261 false false a0_0 a0_1 l0_2) = some (r1, r2) := by rw [if_neg (show ¬ (false = true) by decide)] at H; exact H
        clear H; have H := H1; clear H1; have H' := Aside0.mk H; clear H
        go_wp2
        go_meet
        case rel => exact ⟨_, (false), RSq, (by first | exact H' | (subst_vars; exact H')), ⟨by have := HJ12.out; have := HJ28.out; first | omega | exact Nat.le_refl _⟩, ⟨kV HO_9⟩, ⟨kV HO_258002⟩, ⟨kB BK257⟩, ⟨kHs HB GE257⟩⟩
       case rest =>
        clear HC40; (try clear c1); (try clear c2); (try clear p2); (try clear q2); (try clear hx2); (try clear qi2); (try clear c3); (try clear c4); (try clear c4b0); (try clear c5); (try clear c6); (try clear p6); (try clear c10); (try clear c21); (try clear c21b0); (try clear c26); (try clear p28); (try clear q28); (try clear hx28); (try clear qi28); (try clear c30); (try clear c31); (try clear c41); (try clear c42); (try clear c43); (try clear c43b0); (try clear c43b1); (try clear c44); (try clear c44b0); (try clear c44b1); (try clear hcz15_0 hcz15_1 hcz15_2); (try clear hcz17_0 hcz17_1 hcz17_2); (try clear hcz19_0 hcz19_1 hcz19_2); (try clear hcz7_0 hcz7_1 hcz7_2); (try clear hfz15_0 hfz15_1 hfz15_2); (try clear hfz17_0 hfz17_1 hfz17_2); (try clear hfz19_0 hfz19_1 hfz19_2); (try clear hfz7_0 hfz7_1 hfz7_2); (try clear hx280_0); (try clear p2); (try clear p280); (try clear p6); (try clear q280); obtain ⟨kq, x14_39, rfl, HA, HJ39, HO_9, HO_258002, BK257, HB⟩ := hcut
        cases kq with
        | zero => exact absurd HA.out (by simp [r4_To.j2])
        | succ kj39 =>
         have H := HA.out; clear HA
         simp only [r4_To.j2] at H
         have HC47 := Aside0.mk H; clear H
         go_upto_block 0 with (fail)
         go_cut [14] (fun v14 wc => ∃ (kq : Nat) (x14_46 : Bool), v14 = .bool x14_46 ∧ Aside0 (r4_To.j3 kq t261 x14_46 = some (r1, r2)) ∧ Aside0 (kq ≤ kj39) ∧ Aside0 (Kd.V (Kd.int .u32) 86 wc w.heap.size (fun k_ => (P0_2_ k_ ∨ w.heap.size ≤ k_) ∧ k_ ≠ gb257) v262 t261) ∧ Aside0 (Kd.V (Kd.int .u32) 86 wc w.heap.size (fun k_ => (P0_2_ k_ ∨ w.heap.size ≤ k_) ∧ k_ ≠ gb257) (.slice A0_2 l0_2.length c0_2) l0_2) ∧ Aside0 (wc.heap[gb257]? = some (.cells #[.bool a0_0, .int .i64 a0_1, (.slice A0_2 l0_2.length c0_2)] 62 (0, 0))) ∧ Aside0 (Below w.heap.size w wc))
         case first =>
          have H := HC47.out; clear HC47
          by_cases c48 : a2 = 1
          · rw [if_pos c48] at H
            have c48b0 : (a2 == 1) = true := beq_iff_eq.mpr c48; have c48b1 : (a2 != 1) = false := bne_eq_false_iff_eq.mpr c48; clear c48
            (first | rw [c48b0] | (simp only [i64_w, i32_w]; rw [c48b0]) | skip)
            have H' := Aside0.mk H; clear H
            go_wp2
            go_meet
            case rel => exact ⟨_, (x11_12), RSq, (by first | exact H' | (subst_vars; exact H')), ⟨by have := HJ12.out; have := HJ28.out; have := HJ39.out; first | omega | exact Nat.le_refl _⟩, ⟨kV HO_9⟩, ⟨kV HO_258002⟩, ⟨kB BK257⟩, ⟨kHs HB GE257⟩⟩
          rw [if_neg c48] at H
          have c48b0 : (a2 == 1) = false := beq_eq_false_iff_ne.mpr c48; have c48b1 : (a2 != 1) = true := bne_iff_ne.mpr c48
          (first | rw [c48b0] | (simp only [i64_w, i32_w]; rw [c48b0]) | skip)
          by_cases c49 : a2 = 2
          · rw [if_pos c49] at H
            have c49b0 : (a2 == 2) = true := beq_iff_eq.mpr c49; have c49b1 : (a2 != 2) = false := bne_eq_false_iff_eq.mpr c49; clear c49; have H' := Aside0.mk H; clear H
            go_wp2
            go_meet
            case rel => exact ⟨_, (false), RSq, (by first | exact H' | (subst_vars; exact H')), ⟨by have := HJ12.out; have := HJ28.out; have := HJ39.out; first | omega | exact Nat.le_refl _⟩, ⟨kV HO_9⟩, ⟨kV HO_258002⟩, ⟨kB BK257⟩, ⟨kHs HB GE257⟩⟩
          rw [if_neg c49] at H
          have c49b0 : (a2 == 2) = false := beq_eq_false_iff_ne.mpr c49; have c49b1 : (a2 != 2) = true := bne_iff_ne.mpr c49
          by_cases c50 : a2 = 3
          · rw [if_pos c50] at H
            have c50b0 : (a2 == 3) = true := beq_iff_eq.mpr c50; have c50b1 : (a2 != 3) = false := bne_eq_false_iff_eq.mpr c50; clear c50; have H' := Aside0.mk H; clear H; have hcz51_0 : wc.cell? ⟨gb257, 0, none⟩ = some (.bool a0_0) := bc BK257 0; have hcz51_1 : wc.cell? ⟨gb257, 1, none⟩ = some (.int .i64 a0_1) := bc BK257 1; have hcz51_2 : wc.cell? ⟨gb257, 2, none⟩ = some (.slice A0_2 l0_2.length c0_2) := bc BK257 2; have hfz51_0 := blk_frozen BK257.out 0; have hfz51_1 := blk_frozen BK257.out 1; have hfz51_2 := blk_frozen BK257.out 2
            go_wp2
            go_meet
            case rel => exact ⟨_, (!a0_0), RSq, (by first | exact H' | (subst_vars; exact H')), ⟨by have := HJ12.out; have := HJ28.out; have := HJ39.out; first | omega | exact Nat.le_refl _⟩, ⟨kV HO_9⟩, ⟨kV HO_258002⟩, ⟨kB BK257⟩, ⟨kHs HB GE257⟩⟩
          rw [if_neg c50] at H
          have c50b0 : (a2 == 3) = false := beq_eq_false_iff_ne.mpr c50; have c50b1 : (a2 != 3) = true := bne_iff_ne.mpr c50
          by_cases c52 : a2 = 4
          · rw [if_pos c52] at H
            have c52b0 : (a2 == 4) = true := beq_iff_eq.mpr c52; have c52b1 : (a2 != 4) = false := bne_eq_false_iff_eq.mpr c52; clear c52; have H' := Aside0.mk H; clear H; have hcz53_0 : wc.cell? ⟨gb257, 0, none⟩ = some (.bool a0_0) := bc BK257 0; have hcz53_1 : wc.cell? ⟨gb257, 1, none⟩ = some (.int .i64 a0_1) := bc BK257 1; have hcz53_2 : wc.cell? ⟨gb257, 2, none⟩ = some (.slice A0_2 l0_2.length c0_2) := bc BK257 2; have hfz53_0 := blk_frozen BK257.out 0; have hfz53_1 := blk_frozen BK257.out 1; have hfz53_2 := blk_frozen BK257.out 2
            go_wp2
            go_meet
            case rel => exact ⟨_, (a0_0), RSq, (by first | exact H' | (subst_vars; exact H')), ⟨by have := HJ12.out; have := HJ28.out; have := HJ39.out; first | omega | exact Nat.le_refl _⟩, ⟨kV HO_9⟩, ⟨kV HO_258002⟩, ⟨kB BK257⟩, ⟨kHs HB GE257⟩⟩
          rw [if_neg c52] at H
          have c52b0 : (a2 == 4) = false := beq_eq_false_iff_ne.mpr c52; have c52b1 : (a2 != 4) = true := bne_iff_ne.mpr c52; have H' := Aside0.mk H; clear H
          go_wp2
          go_meet
          case rel => exact ⟨_, (x14_39), RSq, (by first | exact H' | (subst_vars; exact H')), ⟨by have := HJ12.out; have := HJ28.out; have := HJ39.out; first | omega | exact Nat.le_refl _⟩, ⟨kV HO_9⟩, ⟨kV HO_258002⟩, ⟨kB BK257⟩, ⟨kHs HB GE257⟩⟩
         case rest =>
          clear HC47; (try clear c1); (try clear c2); (try clear p2); (try clear q2); (try clear hx2); (try clear qi2); (try clear c3); (try clear c4); (try clear c4b0); (try clear c5); (try clear c6); (try clear p6); (try clear c10); (try clear c21); (try clear c21b0); (try clear c26); (try clear p28); (try clear q28); (try clear hx28); (try clear qi28); (try clear c30); (try clear c31); (try clear c41); (try clear c42); (try clear c43); (try clear c43b0); (try clear c43b1); (try clear c44); (try clear c44b0); (try clear c44b1); (try clear c48); (try clear c48b0); (try clear c48b1); (try clear c49); (try clear c49b0); (try clear c49b1); (try clear c50); (try clear c50b0); (try clear c50b1); (try clear c52); (try clear c52b0); (try clear c52b1); (try clear hcz15_0 hcz15_1 hcz15_2); (try clear hcz17_0 hcz17_1 hcz17_2); (try clear hcz19_0 hcz19_1 hcz19_2); (try clear hcz51_0 hcz51_1 hcz51_2); (try clear hcz53_0 hcz53_1 hcz53_2); (try clear hcz7_0 hcz7_1 hcz7_2); (try clear hfz15_0 hfz15_1 hfz15_2); (try clear hfz17_0 hfz17_1 hfz17_2); (try clear hfz19_0 hfz19_1 hfz19_2); (try clear hfz51_0 hfz51_1 hfz51_2); (try clear hfz53_0 hfz53_1 hfz53_2); (try clear hfz7_0 hfz7_1 hfz7_2); (try clear hx280_0); (try clear p2); (try clear p28); (try clear p280); (try clear p6); (try clear q2); (try clear q28); (try clear q280); obtain ⟨kq, x14_46, rfl, HA, HJ46, HO_9, HO_258002, BK257, HB⟩ := hcut
          cases kq with
          | zero => exact absurd HA.out (by simp [r4_To.j3])
          | succ kj46 =>
           have H := HA.out; clear HA
           simp only [r4_To.j3] at H
           by_cases c54 : x14_46 = true
           · subst c54
             have H1 : ((r2_Of.f kj46 1).bind fun t281 => ((r2_Add.f kj46 t261 t281).bind fun t284 => (some (t284, true)))) = some (r1, r2) := by rw [if_pos rfl] at H; exact H
             clear H; have H := H1; clear H1; replace H := Option.bind_eq_some_iff.mp H; obtain ⟨t281, A550, H⟩ := H; replace H : ((r2_Add.f kj46 t261 t281).bind fun t284 => (some (t284, true))) = some (r1, r2) := H; have A55 := Aside0.mk A550; clear A550; replace H := Option.bind_eq_some_iff.mp H; obtain ⟨t284, A560, H⟩ := H; replace H : (some (t284, true)) = some (r1, r2) := H; have A56 := Aside0.mk A560; clear A560
             simp only [Option.some.injEq, Prod.mk.injEq] at H
             obtain ⟨rfl, rfl⟩ := H
             go_wp2_with (first | ((with_reducible refine gate_callee (f := 27) rfl ?_); refine goesL_ (some 103) rfl rfl Try.func27 (by kernel_rfl) rfl #[.int .u64 1] rfl LMq ?_; (with_reducible refine (r2_Of.calls kj46 1 t281 _ A55.out).mono ?_); rintro e w57 ⟨v282, rfl, ho0, hb⟩; refine ⟨_, rfl, ?_⟩; replace HO_9 := Aside0.mk (Kd.V_below (kV HO_9) hb); replace HO_258002 := Aside0.mk (Kd.V_below (kV HO_258002) hb); have HO283 := Aside0.mk (Kd.V_lower (Kd.V_mono (ok' := fun k_ => (P0_2_ k_ ∨ w.heap.size ≤ k_) ∧ k_ ≠ gb257) ho0 (fun k_ hk_ => ⟨(.inr (Nat.le_trans (below_size (kHs HB GE257)) hk_)), (Kd.freshB (g := gb257) (o := .cells #[.bool a0_0, .int .i64 a0_1, .slice A0_2 l0_2.length c0_2] 62 (0, 0)) (kB BK257) k_ hk_)⟩)) (below_size (kHs HB GE257))); replace BK257 := Aside0.mk (blk_below (g := gb257) (o := .cells #[.bool a0_0, .int .i64 a0_1, .slice A0_2 l0_2.length c0_2] 62 (0, 0)) (kB BK257) hb); replace HB := Aside0.mk (below_step (kHs HB GE257) hb); (try clear hb); (try clear hb2); (try clear hk); (try clear hi); (try clear ho0); obtain ⟨Ao58, co58, eo58⟩ := Kd.V_slice HO_9.out; subst eo58; obtain ⟨Ao59, co59, eo59⟩ := Kd.V_slice HO283.out; subst eo59) | ((with_reducible refine gate_callee (f := 28) rfl ?_); refine goesL_ (some 104) rfl rfl Try.func28 (by kernel_rfl) rfl #[.slice Ao58 t261.length co58, .slice Ao59 t281.length co59] rfl LMq ?_; (with_reducible refine (r2_Add.calls kj46 _ _ t261 _ _ t281 t284 _ ?side1 ?side2 ?side3 ?side4 A56.out).mono ?_); (case side1 => exact kC (Kd.V_reads' HO_9.out).2.2); (case side2 => exact (Kd.V_reads' HO_9.out).2.1); (case side3 => exact kC (Kd.V_reads' HO283.out).2.2); (case side4 => exact (Kd.V_reads' HO283.out).2.1); rintro e w60 ⟨v285, rfl, ho0, hb⟩; refine ⟨_, rfl, ?_⟩; replace HO_9 := Aside0.mk (Kd.V_below (kV HO_9) hb); replace HO_258002 := Aside0.mk (Kd.V_below (kV HO_258002) hb); replace HO283 := Aside0.mk (Kd.V_below (kV HO283) hb); have HO286 := Aside0.mk (Kd.V_lower (Kd.V_mono (ok' := fun k_ => (P0_2_ k_ ∨ w.heap.size ≤ k_) ∧ k_ ≠ gb257) ho0 (fun k_ hk_ => ⟨(.inr (Nat.le_trans (below_size (kHs HB GE257)) hk_)), (Kd.freshB (g := gb257) (o := .cells #[.bool a0_0, .int .i64 a0_1, .slice A0_2 l0_2.length c0_2] 62 (0, 0)) (kB BK257) k_ hk_)⟩)) (below_size (kHs HB GE257))); replace BK257 := Aside0.mk (blk_below (g := gb257) (o := .cells #[.bool a0_0, .int .i64 a0_1, .slice A0_2 l0_2.length c0_2] 62 (0, 0)) (kB BK257) hb); replace HB := Aside0.mk (below_step (kHs HB GE257) hb); (try clear hb); (try clear hb2); (try clear hk); (try clear hi); (try clear ho0)))
             go_ret2
             exact ⟨_, by first | rfl | (simp [errW_none, errW_some] <;> rfl) | (simp [*, errW_none, errW_some] <;> rfl), by (with_reducible repeat (first | apply Kd.V_alloc | apply Kd.V_drewN | apply Kd.V_drew)); exact Kd.V_mono HO286.out (fun _ hk => hk.1), kHs HB GE257⟩
           replace c54 := Bool.eq_false_iff.mpr c54; subst c54
           have H1 : (some (t261, true)) = some (r1, r2) := by rw [if_neg (show ¬ (false = true) by decide)] at H; exact H
           clear H; have H := H1; clear H1
           simp only [Option.some.injEq, Prod.mk.injEq] at H
           obtain ⟨rfl, rfl⟩ := H
           go_wp2
           go_ret2
           exact ⟨_, by first | rfl | (simp [errW_none, errW_some] <;> rfl) | (simp [*, errW_none, errW_some] <;> rfl), by (with_reducible repeat (first | apply Kd.V_alloc | apply Kd.V_drewN | apply Kd.V_drew)); exact Kd.V_mono HO_9.out (fun _ hk => hk.1), kHs HB GE257⟩
 replace c10 := Bool.eq_false_iff.mpr c10; subst c10
 have H1 : (some (t261, false)) = some (r1, r2) := by rw [if_neg (show ¬ (false = true) by decide)] at H; exact H
 clear H; have H := H1; clear H1
 simp only [Option.some.injEq, Prod.mk.injEq] at H
 obtain ⟨rfl, rfl⟩ := H
 go_enter Try.func57, Try.ntmps57
 go_wp2_with (first | ((with_reducible refine gate_dst (N := 3) rfl ?_); (try (refine gate_guard (by rfl) ?_; dsimp only)); refine box_event ?hg (N := 3) ?hd (cs := #[.bool a0_0, .int .i64 a0_1, .slice A0_2 l0_2.length c0_2]) (t := 62) ?hr ?_; (case hd => rfl); (case hg => rfl); (case hr => first | (go_simp; done) | (go_simp; rfl)); intro gb257 hg w61 hbox hb; replace HO0_2 := Aside0.mk (Kd.V_below (Kd.V_elderB (kV HO0_2) gb257 (Nat.le_of_eq hg.symm)) hb); have BK257 := Aside0.mk (hbox); have GW257 := Aside0.mk ((by rw [hg]; exact (below_size (kH HB)) : w.heap.size ≤ gb257)); have GE257 := Aside0.mk ((by rw [hg]; exact (below_size (kH HB)) : w.heap.size ≤ gb257)); replace HB := Aside0.mk (below_step (kH HB) hb); clear hb hbox hg; have hcz62_0 : w61.cell? ⟨gb257, 0, none⟩ = some (.bool a0_0) := bc BK257 0; have hcz62_1 : w61.cell? ⟨gb257, 1, none⟩ = some (.int .i64 a0_1) := bc BK257 1; have hcz62_2 : w61.cell? ⟨gb257, 2, none⟩ = some (.slice A0_2 l0_2.length c0_2) := bc BK257 2; have hfz62_0 := blk_frozen BK257.out 0; have hfz62_1 := blk_frozen BK257.out 1; have hfz62_2 := blk_frozen BK257.out 2) | ((with_reducible refine gate_callee (f := 66) rfl ?_); refine goesL_ (some 34) rfl rfl Try.func66 (by kernel_rfl) rfl #[.slice A0_2 l0_2.length c0_2, .int .i64 (wrap64 (a1 - a0_1))] rfl LMq ?_; (with_reducible refine (r2_Shr.calls k (fun k_ => ((P0_2_ k_ ∨ w.heap.size ≤ k_) ∧ k_ ≠ gb257)) _ _ l0_2 (wrap64 (a1 - a0_1)) t261 false _ ?side1 A9.out).mono ?_); (case side1 => exact HO0_2.out); rintro e w63 ⟨v262, rfl, ho0, hb⟩; refine ⟨_, rfl, ?_⟩; replace HO0_2 := Aside0.mk (Kd.V_below (kV HO0_2) hb); have HO263 := Aside0.mk (Kd.V_lower (Kd.V_mono (ok' := fun k_ => (P0_2_ k_ ∨ w.heap.size ≤ k_) ∧ k_ ≠ gb257) ho0 (fun k_ hk_ => ⟨Or.elim hk_ (fun hs_ => hs_.1) (fun hn_ => (.inr (Nat.le_trans (below_size (kHs HB GE257)) hn_))), Or.elim hk_ (fun hs_ => hs_.2) (fun hn_ => (Kd.freshB (g := gb257) (o := .cells #[.bool a0_0, .int .i64 a0_1, .slice A0_2 l0_2.length c0_2] 62 (0, 0)) (kB BK257) k_ hn_))⟩)) (below_size (kHs HB GE257))); replace BK257 := Aside0.mk (blk_below (g := gb257) (o := .cells #[.bool a0_0, .int .i64 a0_1, .slice A0_2 l0_2.length c0_2] 62 (0, 0)) (kB BK257) hb); replace HB := Aside0.mk (below_step (kHs HB GE257) hb); (try clear hb); (try clear hb2); (try clear hk); (try clear hi); (try clear ho0)))
 go_ret2
 exact ⟨_, by first | rfl | (simp [errW_none, errW_some] <;> rfl) | (simp [*, errW_none, errW_some] <;> rfl), by (with_reducible repeat (first | apply Kd.V_alloc | apply Kd.V_drewN | apply Kd.V_drew)); exact Kd.V_mono HO263.out (fun _ hk => hk.1), kHs HB GE257⟩
end Go.Proofs.Ytedjlpfggjcmfaa.X
