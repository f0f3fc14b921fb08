import Derived.Test.YtedjlpfggjcmfaaKR4
import Derived.Test.YtedjlpfggjcmfaaKRXtillerref04To
namespace Go.Proofs.Ytedjlpfggjcmfaa.X
open Go.RowKit Go.Proofs.YtedjlpfggjcmfaaW.PrintWords Go.Proofs.YtedjlpfggjcmfaaW.PrintLast Go.Proofs.YtedjlpfggjcmfaaW.PrintMore
attribute [local go_sem] max2_int min2_int max_two min_two max_three min_three max_four min_four   
set_option linter.unusedVariables false
set_option linter.unusedSimpArgs false
mutual
def r4_Round.j0 : Nat → Int → Bool → Bool → Int → List Int → Option (Int × Int)
 | 0, _, _, _, _, _ => none
 | k + 1, x1, x19, x289000, x289001, x289002 => if x19 = true then (r4_Round.j1 k 0 x289000 x289001 x289002) else (r4_Round.j1 k x1 x289000 x289001 x289002)
def r4_Round.j1 : Nat → Int → Bool → Int → List Int → Option (Int × Int)
 | 0, _, _, _, _ => none
 | k + 1, x1, x289000, x289001, x289002 => if (x289002.length : Int) = 0 then ((r4_signed.f 0 x289000).bind fun t289 => (some (t289, 0))) else ((r2_Len.f k x289002).bind fun t290 => (if (wrap64 (x289001 + t290)) > 1100 then ((r4_over.f x289000 x1).bind fun t291 => ((r4_signed.f t291 x289000).bind fun t292 => (some (t292, 20)))) else (if (wrap64 (x289001 + t290)) < (-1200) then ((r2_Of.f k 1).bind fun t293 => (r4_Round.j2 k x1 (-1299) x289000 (-1300) t293)) else (r4_Round.j2 k x1 (wrap64 (x289001 + t290)) x289000 x289001 x289002))))
def r4_Round.j2 : Nat → Int → Int → Bool → Int → List Int → Option (Int × Int)
 | 0, _, _, _, _, _ => none
 | k + 1, x1, x6, x289000, x289001, x289002 => if (wrap64 (x6 - 53)) < (-1074) then ((r4_To.f k x289000 x289001 x289002 (-1074) x1).bind fun bt296 => (if bt296.2 = true then ((r4_To.f k x289000 x289001 x289002 (wrap64 (x6 - 53)) x1).bind fun bt300 => ((r2_Len.f k bt300.1).bind fun t304 => (if (wrap64 ((wrap64 (t304 + x6)) - 53)) ≤ (-1022) then (r4_Round.j3 k x1 (-1074) bt296.1 24 x289000 x289001 x289002) else (r4_Round.j3 k x1 (-1074) bt296.1 16 x289000 x289001 x289002)))) else (r4_Round.j3 k x1 (-1074) bt296.1 0 x289000 x289001 x289002))) else ((r4_To.f k x289000 x289001 x289002 (wrap64 (x6 - 53)) x1).bind fun bt311 => (if bt311.2 = true then ((r4_To.f k x289000 x289001 x289002 (wrap64 (x6 - 53)) x1).bind fun bt315 => ((r2_Len.f k bt315.1).bind fun t319 => (if (wrap64 ((wrap64 (t319 + x6)) - 53)) ≤ (-1022) then (r4_Round.j5 k x1 (wrap64 (x6 - 53)) bt311.1 24 x289000 x289001 x289002) else (r4_Round.j5 k x1 (wrap64 (x6 - 53)) bt311.1 16 x289000 x289001 x289002)))) else (r4_Round.j5 k x1 (wrap64 (x6 - 53)) bt311.1 0 x289000 x289001 x289002)))
def r4_Round.j3 : Nat → Int → Int → List Int → Int → Bool → Int → List Int → Option (Int × Int)
 | 0, _, _, _, _, _, _, _ => none
 | k + 1, x1, x7, x8, x10, x289000, x289001, x289002 => (r2_Len.f k x8).bind fun t305 => (if (wrap64 (t305 + x7)) > 1024 then ((r4_over.f x289000 x1).bind fun t306 => ((r4_signed.f t306 x289000).bind fun t307 => (some (t307, 20)))) else ((r2_Low.f k x8).bind fun t308 => (if t308 = 9007199254740992 then (r4_Round.j4 k (wrap64 (x7 + 1)) x10 4503599627370496 x289000 x289001 x289002) else (r4_Round.j4 k x7 x10 t308 x289000 x289001 x289002))))
def r4_Round.j4 : Nat → Int → Int → Int → Bool → Int → List Int → Option (Int × Int)
 | 0, _, _, _, _, _, _ => none
 | k + 1, x7, x10, x13, x289000, x289001, x289002 => if x13 ≥ 4503599627370496 then ((r4_signed.f (IntKind.u64.wrap ((IntKind.u64.wrap ((IntKind.u64.wrap ((IntKind.u64.wrap (wrap64 (x7 + 1075))) * 4503599627370496)) + x13)) - 4503599627370496)) x289000).bind fun t309 => (some (t309, x10))) else ((r4_signed.f x13 x289000).bind fun t310 => (some (t310, x10)))
def r4_Round.j5 : Nat → Int → Int → List Int → Int → Bool → Int → List Int → Option (Int × Int)
 | 0, _, _, _, _, _, _, _ => none
 | k + 1, x1, x7, x8, x10, x289000, x289001, x289002 => (r2_Len.f k x8).bind fun t320 => (if (wrap64 (t320 + x7)) > 1024 then ((r4_over.f x289000 x1).bind fun t321 => ((r4_signed.f t321 x289000).bind fun t322 => (some (t322, 20)))) else ((r2_Low.f k x8).bind fun t323 => (if t323 = 9007199254740992 then (r4_Round.j6 k (wrap64 (x7 + 1)) x10 4503599627370496 x289000 x289001 x289002) else (r4_Round.j6 k x7 x10 t323 x289000 x289001 x289002))))
def r4_Round.j6 : Nat → Int → Int → Int → Bool → Int → List Int → Option (Int × Int)
 | 0, _, _, _, _, _, _ => none
 | k + 1, x7, x10, x13, x289000, x289001, x289002 => if x13 ≥ 4503599627370496 then ((r4_signed.f (IntKind.u64.wrap ((IntKind.u64.wrap ((IntKind.u64.wrap ((IntKind.u64.wrap (wrap64 (x7 + 1075))) * 4503599627370496)) + x13)) - 4503599627370496)) x289000).bind fun t324 => (some (t324, x10))) else ((r4_signed.f x13 x289000).bind fun t325 => (some (t325, x10)))
end
def r4_Round.f (k : Nat) (a0_0 : Bool) (a0_1 : Int) (l0_2 : List Int) (a1 : Int) : Option (Int × Int) := if a1 < 0 then (r4_Round.j0 k a1 true a0_0 a0_1 l0_2) else (r4_Round.j0 k a1 (decide (a1 > 4)) a0_0 a0_1 l0_2)
theorem r4_Round.mono_l : ∀ k, (∀ y0 y1 y2 y3 y4, LeO (r4_Round.j0 k y0 y1 y2 y3 y4) (r4_Round.j0 (k + 1) y0 y1 y2 y3 y4)) ∧ (∀ y0 y1 y2 y3, LeO (r4_Round.j1 k y0 y1 y2 y3) (r4_Round.j1 (k + 1) y0 y1 y2 y3)) ∧ (∀ y0 y1 y2 y3 y4, LeO (r4_Round.j2 k y0 y1 y2 y3 y4) (r4_Round.j2 (k + 1) y0 y1 y2 y3 y4)) ∧ (∀ y0 y1 y2 y3 y4 y5 y6, LeO (r4_Round.j3 k y0 y1 y2 y3 y4 y5 y6) (r4_Round.j3 (k + 1) y0 y1 y2 y3 y4 y5 y6)) ∧ (∀ y0 y1 y2 y3 y4 y5, LeO (r4_Round.j4 k y0 y1 y2 y3 y4 y5) (r4_Round.j4 (k + 1) y0 y1 y2 y3 y4 y5)) ∧ (∀ y0 y1 y2 y3 y4 y5 y6, LeO (r4_Round.j5 k y0 y1 y2 y3 y4 y5 y6) (r4_Round.j5 (k + 1) y0 y1 y2 y3 y4 y5 y6)) ∧ (∀ y0 y1 y2 y3 y4 y5, LeO (r4_Round.j6 k y0 y1 y2 y3 y4 y5) (r4_Round.j6 (k + 1) y0 y1 y2 y3 y4 y5))
 | 0 => ⟨fun _ _ _ _ _ r h => by simp [r4_Round.j0] at h, fun _ _ _ _ r h => by simp [r4_Round.j1] at h, fun _ _ _ _ _ r h => by simp [r4_Round.j2] at h, fun _ _ _ _ _ _ _ r h => by simp [r4_Round.j3] at h, fun _ _ _ _ _ _ r h => by simp [r4_Round.j4] at h, fun _ _ _ _ _ _ _ r h => by simp [r4_Round.j5] at h, fun _ _ _ _ _ _ r h => by simp [r4_Round.j6] at h⟩
 | k + 1 => by
  obtain ⟨ih0, ih1, ih2, ih3, ih4, ih5, ih6⟩ := r4_Round.mono_l k; refine ⟨?_, ?_, ?_, ?_, ?_, ?_, ?_⟩
  · intro y0 y1 y2 y3 y4
    unfold r4_Round.j0
    repeat' first
    | (with_reducible exact ih0 _ _ _ _ _)
    | (with_reducible exact ih1 _ _ _ _)
    | (with_reducible exact ih2 _ _ _ _ _)
    | (with_reducible exact ih3 _ _ _ _ _ _ _)
    | (with_reducible exact ih4 _ _ _ _ _ _)
    | (with_reducible exact ih5 _ _ _ _ _ _ _)
    | (with_reducible exact ih6 _ _ _ _ _ _)
    | (with_reducible exact r2_Len.mono _ _)
    | (with_reducible exact r2_Low.mono _ _)
    | (with_reducible exact r2_Of.mono _ _)
    | (with_reducible exact r4_To.mono _ _ _ _ _ _)
    | (with_reducible exact LeO.refl _)
    | (with_reducible exact LeO.none _)
    | (with_reducible refine LeO.ite ?_ ?_)
    | (with_reducible refine LeO.bind ?_ (fun _ => ?_))
    | exact ih0 _ _ _ _ _
    | exact ih1 _ _ _ _
    | exact ih2 _ _ _ _ _
    | exact ih3 _ _ _ _ _ _ _
    | exact ih4 _ _ _ _ _ _
    | exact ih5 _ _ _ _ _ _ _
    | exact ih6 _ _ _ _ _ _
    | exact r2_Len.mono _ _
    | exact r2_Low.mono _ _
    | exact r2_Of.mono _ _
    | exact r4_To.mono _ _ _ _ _ _
    | exact LeO.none _
    | refine LeO.ite ?_ ?_
    | refine LeO.bind ?_ (fun _ => ?_)
  · intro y0 y1 y2 y3
    unfold r4_Round.j1
    repeat' first
    | (with_reducible exact ih0 _ _ _ _ _)
    | (with_reducible exact ih1 _ _ _ _)
    | (with_reducible exact ih2 _ _ _ _ _)
    | (with_reducible exact ih3 _ _ _ _ _ _ _)
    | (with_reducible exact ih4 _ _ _ _ _ _)
    | (with_reducible exact ih5 _ _ _ _ _ _ _)
    | (with_reducible exact ih6 _ _ _ _ _ _)
    | (with_reducible exact r2_Len.mono _ _)
    | (with_reducible exact r2_Low.mono _ _)
    | (with_reducible exact r2_Of.mono _ _)
    | (with_reducible exact r4_To.mono _ _ _ _ _ _)
    | (with_reducible exact LeO.refl _)
    | (with_reducible exact LeO.none _)
    | (with_reducible refine LeO.ite ?_ ?_)
    | (with_reducible refine LeO.bind ?_ (fun _ => ?_))
    | exact ih0 _ _ _ _ _
    | exact ih1 _ _ _ _
    | exact ih2 _ _ _ _ _
    | exact ih3 _ _ _ _ _ _ _
    | exact ih4 _ _ _ _ _ _
    | exact ih5 _ _ _ _ _ _ _
    | exact ih6 _ _ _ _ _ _
    | exact r2_Len.mono _ _
    | exact r2_Low.mono _ _
    | exact r2_Of.mono _ _
    | exact r4_To.mono _ _ _ _ _ _
    | exact LeO.none _
    | refine LeO.ite ?_ ?_
    | refine LeO.bind ?_ (fun _ => ?_)
  · intro y0 y1 y2 y3 y4
    unfold r4_Round.j2
    repeat' first
    | (with_reducible exact ih0 _ _ _ _ _)
    | (with_reducible exact ih1 _ _ _ _)
    | (with_reducible exact ih2 _ _ _ _ _)
    | (with_reducible exact ih3 _ _ _ _ _ _ _)
    | (with_reducible exact ih4 _ _ _ _ _ _)
    | (with_reducible exact ih5 _ _ _ _ _ _ _)
    | (with_reducible exact ih6 _ _ _ _ _ _)
    | (with_reducible exact r2_Len.mono _ _)
    | (with_reducible exact r2_Low.mono _ _)
    | (with_reducible exact r2_Of.mono _ _)
    | (with_reducible exact r4_To.mono _ _ _ _ _ _)
    | (with_reducible exact LeO.refl _)
    | (with_reducible exact LeO.none _)
    | (with_reducible refine LeO.ite ?_ ?_)
    | (with_reducible refine LeO.bind ?_ (fun _ => ?_))
    | exact ih0 _ _ _ _ _
    | exact ih1 _ _ _ _
    | exact ih2 _ _ _ _ _
    | exact ih3 _ _ _ _ _ _ _
    | exact ih4 _ _ _ _ _ _
    | exact ih5 _ _ _ _ _ _ _
    | exact ih6 _ _ _ _ _ _
    | exact r2_Len.mono _ _
    | exact r2_Low.mono _ _
    | exact r2_Of.mono _ _
    | exact r4_To.mono _ _ _ _ _ _
    | exact LeO.none _
    | refine LeO.ite ?_ ?_
    | refine LeO.bind ?_ (fun _ => ?_)
  · intro y0 y1 y2 y3 y4 y5 y6
    unfold r4_Round.j3
    repeat' first
    | (with_reducible exact ih0 _ _ _ _ _)
    | (with_reducible exact ih1 _ _ _ _)
    | (with_reducible exact ih2 _ _ _ _ _)
    | (with_reducible exact ih3 _ _ _ _ _ _ _)
    | (with_reducible exact ih4 _ _ _ _ _ _)
    | (with_reducible exact ih5 _ _ _ _ _ _ _)
    | (with_reducible exact ih6 _ _ _ _ _ _)
    | (with_reducible exact r2_Len.mono _ _)
    | (with_reducible exact r2_Low.mono _ _)
    | (with_reducible exact r2_Of.mono _ _)
    | (with_reducible exact r4_To.mono _ _ _ _ _ _)
    | (with_reducible exact LeO.refl _)
    | (with_reducible exact LeO.none _)
    | (with_reducible refine LeO.ite ?_ ?_)
    | (with_reducible refine LeO.bind ?_ (fun _ => ?_))
    | exact ih0 _ _ _ _ _
    | exact ih1 _ _ _ _
    | exact ih2 _ _ _ _ _
    | exact ih3 _ _ _ _ _ _ _
    | exact ih4 _ _ _ _ _ _
    | exact ih5 _ _ _ _ _ _ _
    | exact ih6 _ _ _ _ _ _
    | exact r2_Len.mono _ _
    | exact r2_Low.mono _ _
    | exact r2_Of.mono _ _
    | exact r4_To.mono _ _ _ _ _ _
    | exact LeO.none _
    | refine LeO.ite ?_ ?_
    | refine LeO.bind ?_ (fun _ => ?_)
  · intro y0 y1 y2 y3 y4 y5
    unfold r4_Round.j4
    repeat' first
    | (with_reducible exact ih0 _ _ _ _ _)
    | (with_reducible exact ih1 _ _ _ _)
    | (with_reducible exact ih2 _ _ _ _ _)
    | (with_reducible exact ih3 _ _ _ _ _ _ _)
    | (with_reducible exact ih4 _ _ _ _ _ _)
    | (with_reducible exact ih5 _ _ _ _ _ _ _)
    | (with_reducible exact ih6 _ _ _ _ _ _)
    | (with_reducible exact r2_Len.mono _ _)
    | (with_reducible exact r2_Low.mono _ _)
    | (with_reducible exact r2_Of.mono _ _)
    | (with_reducible exact r4_To.mono _ _ _ _ _ _)
    | (with_reducible exact LeO.refl _)
    | (with_reducible exact LeO.none _)
    | (with_reducible refine LeO.ite ?_ ?_)
    | (with_reducible refine LeO.bind ?_ (fun _ => ?_))
    | exact ih0 _ _ _ _ _
    | exact ih1 _ _ _ _
    | exact ih2 _ _ _ _ _
    | exact ih3 _ _ _ _ _ _ _
    | exact ih4 _ _ _ _ _ _
    | exact ih5 _ _ _ _ _ _ _
    | exact ih6 _ _ _ _ _ _
    | exact r2_Len.mono _ _
    | exact r2_Low.mono _ _
    | exact r2_Of.mono _ _
    | exact r4_To.mono _ _ _ _ _ _
    | exact LeO.none _
    | refine LeO.ite ?_ ?_
    | refine LeO.bind ?_ (fun _ => ?_)
  · intro y0 y1 y2 y3 y4 y5 y6
    unfold r4_Round.j5
    repeat' first
    | (with_reducible exact ih0 _ _ _ _ _)
    | (with_reducible exact ih1 _ _ _ _)
    | (with_reducible exact ih2 _ _ _ _ _)
    | (with_reducible exact ih3 _ _ _ _ _ _ _)
    | (with_reducible exact ih4 _ _ _ _ _ _)
    | (with_reducible exact ih5 _ _ _ _ _ _ _)
    | (with_reducible exact ih6 _ _ _ _ _ _)
    | (with_reducible exact r2_Len.mono _ _)
    | (with_reducible exact r2_Low.mono _ _)
    | (with_reducible exact r2_Of.mono _ _)
    | (with_reducible exact r4_To.mono _ _ _ _ _ _)
    | (with_reducible exact LeO.refl _)
    | (with_reducible exact LeO.none _)
    | (with_reducible refine LeO.ite ?_ ?_)
    | (with_reducible refine LeO.bind ?_ (fun _ => ?_))
    | exact ih0 _ _ _ _ _
    | exact ih1 _ _ _ _
    | exact ih2 _ _ _ _ _
    | exact ih3 _ _ _ _ _ _ _
    | exact ih4 _ _ _ _ _ _
    | exact ih5 _ _ _ _ _ _ _
    | exact ih6 _ _ _ _ _ _
    | exact r2_Len.mono _ _
    | exact r2_Low.mono _ _
    | exact r2_Of.mono _ _
    | exact r4_To.mono _ _ _ _ _ _
    | exact LeO.none _
    | refine LeO.ite ?_ ?_
    | refine LeO.bind ?_ (fun _ => ?_)
  intro y0 y1 y2 y3 y4 y5
  unfold r4_Round.j6
  repeat' first
  | (with_reducible exact ih0 _ _ _ _ _)
  | (with_reducible exact ih1 _ _ _ _)
  | (with_reducible exact ih2 _ _ _ _ _)
  | (with_reducible exact ih3 _ _ _ _ _ _ _)
  | (with_reducible exact ih4 _ _ _ _ _ _)
  | (with_reducible exact ih5 _ _ _ _ _ _ _)
  | (with_reducible exact ih6 _ _ _ _ _ _)
  | (with_reducible exact r2_Len.mono _ _)
  | (with_reducible exact r2_Low.mono _ _)
  | (with_reducible exact r2_Of.mono _ _)
  | (with_reducible exact r4_To.mono _ _ _ _ _ _)
  | (with_reducible exact LeO.refl _)
  | (with_reducible exact LeO.none _)
  | (with_reducible refine LeO.ite ?_ ?_)
  | (with_reducible refine LeO.bind ?_ (fun _ => ?_))
  | exact ih0 _ _ _ _ _
  | exact ih1 _ _ _ _
  | exact ih2 _ _ _ _ _
  | exact ih3 _ _ _ _ _ _ _
  | exact ih4 _ _ _ _ _ _
  | exact ih5 _ _ _ _ _ _ _
  | exact ih6 _ _ _ _ _ _
  | exact r2_Len.mono _ _
  | exact r2_Low.mono _ _
  | exact r2_Of.mono _ _
  | exact r4_To.mono _ _ _ _ _ _
  | exact LeO.none _
  | refine LeO.ite ?_ ?_
  | refine LeO.bind ?_ (fun _ => ?_)
theorem r4_Round.mono : ∀ a0 a1 a2 a3 k, LeO (r4_Round.f k a0 a1 a2 a3) (r4_Round.f (k + 1) a0 a1 a2 a3) := by
 intro a0 a1 a2 a3 k; obtain ⟨ih0, ih1, ih2, ih3, ih4, ih5, ih6⟩ := r4_Round.mono_l k
 unfold r4_Round.f
 repeat' first
  | (with_reducible exact ih0 _ _ _ _ _)
  | (with_reducible exact ih1 _ _ _ _)
  | (with_reducible exact ih2 _ _ _ _ _)
  | (with_reducible exact ih3 _ _ _ _ _ _ _)
  | (with_reducible exact ih4 _ _ _ _ _ _)
  | (with_reducible exact ih5 _ _ _ _ _ _ _)
  | (with_reducible exact ih6 _ _ _ _ _ _)
  | (with_reducible exact r2_Len.mono _ _)
  | (with_reducible exact r2_Low.mono _ _)
  | (with_reducible exact r2_Of.mono _ _)
  | (with_reducible exact r4_To.mono _ _ _ _ _ _)
  | (with_reducible exact LeO.refl _)
  | (with_reducible exact LeO.none _)
  | (with_reducible refine LeO.ite ?_ ?_)
  | (with_reducible refine LeO.bind ?_ (fun _ => ?_))
  | exact ih0 _ _ _ _ _
  | exact ih1 _ _ _ _
  | exact ih2 _ _ _ _ _
  | exact ih3 _ _ _ _ _ _ _
  | exact ih4 _ _ _ _ _ _
  | exact ih5 _ _ _ _ _ _ _
  | exact ih6 _ _ _ _ _ _
  | exact r2_Len.mono _ _
  | exact r2_Low.mono _ _
  | exact r2_Of.mono _ _
  | exact r4_To.mono _ _ _ _ _ _
  | exact LeO.none _
  | refine LeO.ite ?_ ?_
  | refine LeO.bind ?_ (fun _ => ?_)
def r4_Round.T7 : Bool × List (List Nat × List Nat) := (true, [([], []), ([0], [0]), ([], []), ([1, 2], [1, 2]), ([], []), ([4], [4]), ([3, 5, 3], [3, 5]), ([6, 6, 0, 1, 2, 3, 4, 5, 6], [6]), ([7, 0, 1, 2, 3, 4, 5, 6, 7], [])])
def r4_Round.B7 : List Nat := [0, 1, 0, 7, 0, 16, 63, 127, 255]
theorem r4_Round.tab7 : rtab .any (opsOf Try.f29 7) = r4_Round.T7 := by kernel_rfl
theorem r4_Round.bits7 : waitsOk r4_Round.T7.2 r4_Round.B7 = true := by kernel_rfl
def r4_Round.T20 : Bool × List (List Nat × List Nat) := (true, [([], []), ([0], [0]), ([], []), ([1, 2], [1, 2]), ([], []), ([4], [4]), ([3, 5, 3], [3, 5]), ([6, 6, 0, 1, 2, 3, 4, 5, 6], [6]), ([7, 0, 1, 2, 3, 4, 5, 6, 7], [])])
def r4_Round.B20 : List Nat := [0, 1, 0, 7, 0, 16, 63, 127, 255]
theorem r4_Round.tab20 : rtab .any (opsOf Try.f29 20) = r4_Round.T20 := by kernel_rfl
theorem r4_Round.bits20 : waitsOk r4_Round.T20.2 r4_Round.B20 = true := by kernel_rfl
set_option maxHeartbeats 8000000 in
set_option maxRecDepth 100000 in
theorem r4_Round.calls (k : Nat) (a0_0 : Bool) (a0_1 : Int) (P0_2_ : Nat → Prop) (A0_2 : Option Addr) (c0_2 : Nat) (l0_2 : List Int) (a1 : Int) (r1 : Int) (r2 : Int) (w : World) (hs0_2 : Kd.V (Kd.int .u32) 86 w w.heap.size (fun k_ => P0_2_ k_) (.slice A0_2 l0_2.length c0_2) l0_2) (h : r4_Round.f k a0_0 a0_1 l0_2 a1 = some (r1, r2)) :
 Calls Try.prog 29 #[.agg #[.bool a0_0, .int .i64 a0_1, .slice A0_2 l0_2.length c0_2], .int .i64 a1] w fun e w' => e = .returned (.tuple #[.int .u64 r1, .int .i64 r2]) ∧ Below w.heap.size w w' := by
 have hu62 := Try.underlying62; have HO0_2 := Aside0.mk (show Kd.V (Kd.int .u32) 86 w w.heap.size (fun k_ => (P0_2_ k_ ∨ w.heap.size ≤ k_)) (.slice A0_2 l0_2.length c0_2) l0_2 from Kd.V_mono hs0_2 (fun k_ hk => .inl hk)); have HB := Aside0.mk (Below.refl w.heap.size w); have H : (if a1 < 0 then (r4_Round.j0 k a1 true a0_0 a0_1 l0_2) else (r4_Round.j0 k a1 (decide (a1 > 4)) a0_0 a0_1 l0_2)) = some (r1, r2) := h; clear h; have HC3 := Aside0.mk H; clear H
 go_enter Try.func29, Try.ntmps29
 go_upto_region 1 with (first | ((with_reducible refine gate_dst (N := 2) rfl ?_); refine box_event ?hg (N := 2) ?hd (cs := #[.bool a0_0, .int .i64 a0_1, .slice A0_2 l0_2.length c0_2]) (t := 62) ?hr ?_; (case hd => rfl); (case hg => rfl); (case hr => first | (go_simp; done) | (go_simp; rfl)); intro gb288 hg w4 hbox hb; replace HO0_2 := Aside0.mk (Kd.V_below (Kd.V_elderB (kV HO0_2) gb288 (Nat.le_of_eq hg.symm)) hb); have BK288 := Aside0.mk (hbox); have GW288 := Aside0.mk ((by rw [hg]; exact (below_size (kH HB)) : w.heap.size ≤ gb288)); have GE288 := Aside0.mk ((by rw [hg]; exact (below_size (kH HB)) : w.heap.size ≤ gb288)); replace HB := Aside0.mk (below_step (kH HB) hb); clear hb hbox hg))
 (try simp only [Act.put, List.setIfInBounds_toArray, List.set_cons_zero, List.set_cons_succ])
 go_cut [19] (fun v19 wc => ∃ (kq : Nat) (x19_2 : Bool), v19 = .bool x19_2 ∧ Aside0 (r4_Round.j0 kq a1 x19_2 a0_0 a0_1 l0_2 = some (r1, r2)) ∧ Aside0 (kq ≤ k) ∧ Aside0 (Kd.V (Kd.int .u32) 86 wc w.heap.size (fun k_ => (P0_2_ k_ ∨ w.heap.size ≤ k_) ∧ k_ ≠ gb288) (.slice A0_2 l0_2.length c0_2) l0_2) ∧ Aside0 (wc.heap[gb288]? = some (.cells #[.bool a0_0, .int .i64 a0_1, (.slice A0_2 l0_2.length c0_2)] 62 (0, 0))) ∧ Aside0 (Below w.heap.size w wc))
 case first =>
  have H := HC3.out; clear HC3
  by_cases c5 : a1 < 0
  · rw [if_pos c5] at H
    have c5b0 : decide (a1 < 0) = true := decide_eq_true c5; clear c5
    (first | rw [c5b0] | (simp only [i64_w, i32_w]; rw [c5b0]) | skip)
    have H' := Aside0.mk H; clear H
    go_wp2
    go_meet
    case rel => exact ⟨_, (true), RSq, (by first | exact H' | (subst_vars; exact H')), ⟨by first | omega | exact Nat.le_refl _⟩, ⟨kV HO0_2⟩, ⟨kB BK288⟩, ⟨kHs HB GE288⟩⟩
  rw [if_neg c5] at H
  have c5b0 : decide (a1 < 0) = false := decide_eq_false c5; clear c5
  (first | rw [c5b0] | (simp only [i64_w, i32_w]; rw [c5b0]) | skip)
  have H' := Aside0.mk H; clear H
  go_wp2
  go_meet
  case rel => exact ⟨_, (decide (a1 > 4)), RSq, (by first | exact H' | (subst_vars; exact H')), ⟨by first | omega | exact Nat.le_refl _⟩, ⟨kV HO0_2⟩, ⟨kB BK288⟩, ⟨kHs HB GE288⟩⟩
 case rest =>
  clear HC3; (try clear c2); (try clear p2); (try clear c5); (try clear c5b0); obtain ⟨kq, x19_2, rfl, HA, HJ2, HO_289002, BK288, HB⟩ := hcut
  cases kq with
  | zero => exact absurd HA.out (by simp [r4_Round.j0])
  | succ kj2 =>
   have H := HA.out; clear HA
   simp only [r4_Round.j0] at H
   have HC6 := Aside0.mk H; clear H
   go_upto_if 19 with (fail)
   go_cut [1] (fun v1 wc => ∃ (kq : Nat) (x1_5 : Int), v1 = .int .i64 x1_5 ∧ Aside0 (r4_Round.j1 kq x1_5 a0_0 a0_1 l0_2 = some (r1, r2)) ∧ Aside0 (kq ≤ kj2) ∧ Aside0 (Kd.V (Kd.int .u32) 86 wc w.heap.size (fun k_ => (P0_2_ k_ ∨ w.heap.size ≤ k_) ∧ k_ ≠ gb288) (.slice A0_2 l0_2.length c0_2) l0_2) ∧ Aside0 (wc.heap[gb288]? = some (.cells #[.bool a0_0, .int .i64 a0_1, (.slice A0_2 l0_2.length c0_2)] 62 (0, 0))) ∧ Aside0 (Below w.heap.size w wc))
   case first =>
    have H := HC6.out; clear HC6
    by_cases c7 : x19_2 = true
    · subst c7
      have H1 : (r4_Round.j1 kj2 0 a0_0 a0_1 l0_2) = some (r1, r2) := by rw [if_pos rfl] at H; exact H
      clear H; have H := H1; clear H1; have H' := Aside0.mk H; clear H
      go_wp2
      go_meet
      case rel => exact ⟨_, (0), RSq, (by first | exact H' | (subst_vars; exact H')), ⟨by have := HJ2.out; first | omega | exact Nat.le_refl _⟩, ⟨kV HO_289002⟩, ⟨kB BK288⟩, ⟨kHs HB GE288⟩⟩
    replace c7 := Bool.eq_false_iff.mpr c7; subst c7
    have H1 : (r4_Round.j1 kj2 a1 a0_0 a0_1 l0_2) = some (r1, r2) := by rw [if_neg (show ¬ (false = true) by decide)] at H; exact H
    clear H; have H := H1; clear H1; have H' := Aside0.mk H; clear H
    go_wp2
    go_meet
    case rel => exact ⟨_, (a1), RSq, (by first | exact H' | (subst_vars; exact H')), ⟨by have := HJ2.out; first | omega | exact Nat.le_refl _⟩, ⟨kV HO_289002⟩, ⟨kB BK288⟩, ⟨kHs HB GE288⟩⟩
   case rest =>
    clear HC6; (try clear c2); (try clear p2); (try clear c5); (try clear c5b0); (try clear p6); (try clear c7); (try clear p2); obtain ⟨kq, x1_5, rfl, HA, HJ5, HO_289002, BK288, HB⟩ := hcut
    cases kq with
    | zero => exact absurd HA.out (by simp [r4_Round.j1])
    | succ kj5 =>
     have H := HA.out; clear HA
     simp only [r4_Round.j1] at H
     by_cases c8 : (l0_2.length : Int) = 0
     · rw [if_pos c8] at H
       have c8b0 : ((l0_2.length : Int) == 0) = true := beq_iff_eq.mpr c8; have c8b1 : ((l0_2.length : Int) != 0) = false := bne_eq_false_iff_eq.mpr c8; clear c8; replace H := Option.bind_eq_some_iff.mp H; obtain ⟨t289, A90, H⟩ := H; replace H : (some (t289, 0)) = some (r1, r2) := H; have A9 := Aside0.mk A90; clear A90
       simp only [Option.some.injEq, Prod.mk.injEq] at H
       obtain ⟨rfl, rfl⟩ := H; have hcz10_0 : wc.cell? ⟨gb288, 0, none⟩ = some (.bool a0_0) := bc BK288 0; have hcz10_1 : wc.cell? ⟨gb288, 1, none⟩ = some (.int .i64 a0_1) := bc BK288 1; have hcz10_2 : wc.cell? ⟨gb288, 2, none⟩ = some (.slice A0_2 l0_2.length c0_2) := bc BK288 2; have hfz10_0 := blk_frozen BK288.out 0; have hfz10_1 := blk_frozen BK288.out 1; have hfz10_2 := blk_frozen BK288.out 2
       go_wp2_with (first | ((with_reducible refine gate_callee (f := 55) rfl ?_); refine goesL_ (some 26) rfl rfl Try.func55 (by kernel_rfl) rfl #[.int .u64 0, .bool a0_0] rfl LMq ?_; (with_reducible refine (r4_signed.calls 0 a0_0 t289 _ A9.out).mono ?_); rintro e w' ⟨rfl, ⟨nd, rfl⟩⟩; refine ⟨_, rfl, ?_⟩))
       go_ret2
       exact ⟨by first | rfl | (simp [errW_none, errW_some] <;> rfl) | (simp [*, errW_none, errW_some] <;> rfl), kHs HB GE288⟩
     rw [if_neg c8] at H
     have c8b0 : ((l0_2.length : Int) == 0) = false := beq_eq_false_iff_ne.mpr c8; have c8b1 : ((l0_2.length : Int) != 0) = true := bne_iff_ne.mpr c8
     have c8b2 : ¬ (l0_2 = []) := fun h_ => c8 (by rw [h_]; rfl)
     replace H := Option.bind_eq_some_iff.mp H; obtain ⟨t290, A110, H⟩ := H; replace H : (if (wrap64 (a0_1 + t290)) > 1100 then ((r4_over.f a0_0 x1_5).bind fun t291 => ((r4_signed.f t291 a0_0).bind fun t292 => (some (t292, 20)))) else (if (wrap64 (a0_1 + t290)) < (-1200) then ((r2_Of.f kj5 1).bind fun t293 => (r4_Round.j2 kj5 x1_5 (-1299) a0_0 (-1300) t293)) else (r4_Round.j2 kj5 x1_5 (wrap64 (a0_1 + t290)) a0_0 a0_1 l0_2))) = some (r1, r2) := H; have A11 := Aside0.mk A110; clear A110
     by_cases c12 : (wrap64 (a0_1 + t290)) > 1100
     · rw [if_pos c12] at H
       have c12b0 : decide (1100 < (wrap64 (a0_1 + t290))) = true := decide_eq_true c12; clear c12; replace H := Option.bind_eq_some_iff.mp H; obtain ⟨t291, A130, H⟩ := H; replace H : ((r4_signed.f t291 a0_0).bind fun t292 => (some (t292, 20))) = some (r1, r2) := H; have A13 := Aside0.mk A130; clear A130; replace H := Option.bind_eq_some_iff.mp H; obtain ⟨t292, A140, H⟩ := H; replace H : (some (t292, 20)) = some (r1, r2) := H; have A14 := Aside0.mk A140; clear A140
       simp only [Option.some.injEq, Prod.mk.injEq] at H
       obtain ⟨rfl, rfl⟩ := H; have hcz15_0 : wc.cell? ⟨gb288, 0, none⟩ = some (.bool a0_0) := bc BK288 0; have hcz15_1 : wc.cell? ⟨gb288, 1, none⟩ = some (.int .i64 a0_1) := bc BK288 1; have hcz15_2 : wc.cell? ⟨gb288, 2, none⟩ = some (.slice A0_2 l0_2.length c0_2) := bc BK288 2; have hfz15_0 := blk_frozen BK288.out 0; have hfz15_1 := blk_frozen BK288.out 1; have hfz15_2 := blk_frozen BK288.out 2
       try go_wp2
       replace HO_289002 := Aside0.mk (Kd.V_drew HO_289002.out); replace BK288 := Aside0.mk (blk_drew BK288.out); replace HB := Aside0.mk (below_drew1 HB.out); refine start_ (n := 7) (S := fun w' => w'.cell? ⟨gb288, 0, none⟩ = some (.bool a0_0) ∧ w'.cell? ⟨gb288, 1, none⟩ = some (.int .i64 a0_1) ∧ w'.cell? ⟨gb288, 2, none⟩ = some (.slice A0_2 l0_2.length c0_2)) (ds := []) #[false, false, false, false, false, false, false] (by kernel_rfl) rfl rfl ⟨bc BK288 0, bc BK288 1, bc BK288 2⟩ (fun hHeld => ?_)
       generalize wc.drew = w16 at HO_289002 BK288 HB hHeld ⊢
       refine pure_ (i := 0) (N := some 27) (v := ?_) (a' := ?_) #[true, false, false, false, false, false, false] rfl rfl (by kernel_rfl) (fun _ _ _ h => h) (Or.inl ⟨by rfl, ?_⟩) ?_ ?_; rotate_left
       · intro w'
         go_simp
         with_reducible rfl
       rotate_left
       · exact APq
       refine pure_ (i := 2) (N := some 29) (v := ?_) (a' := ?_) #[true, false, true, false, false, false, false] rfl rfl (by kernel_rfl) (fun _ _ _ h => h) (Or.inl ⟨by rfl, ?_⟩) ?_ ?_; rotate_left
       · intro w'
         go_simp
         with_reducible rfl
       rotate_left
       · exact APq
       refine take_ (i := 1) (N := some 28) (v := ?_) (a' := ?_) #[true, true, true, false, false, false, false] rfl rfl (by kernel_rfl) (fun _ _ _ h => h) (Or.inl ⟨by rfl, ?_⟩) hHeld ?_ ?_; rotate_left
       · rintro w' ⟨s0, s1, s2⟩
         go_simp
         with_reducible rfl
       rotate_left
       · exact APq
       refine take_ (i := 3) (N := some 30) (v := ?_) (a' := ?_) #[true, true, true, true, false, false, false] rfl rfl (by kernel_rfl) (fun _ _ _ h => h) (Or.inl ⟨by rfl, ?_⟩) hHeld ?_ ?_; rotate_left
       · rintro w' ⟨s0, s1, s2⟩
         go_simp
         with_reducible rfl
       rotate_left
       · exact APq
       refine one_ (i := 4) (N := some 31) #[true, true, true, true, true, false, false] rfl rfl (by kernel_rfl) (by decide) (fun K hK => ?_); refine goes_ Try.func31 (by kernel_rfl) rfl #[.slice A0_2 l0_2.length c0_2] (by rfl) rfl rfl LMq ?_
       with_reducible refine (r2_Len.calls kj5 _ _ l0_2 t290 _ ?side1 ?side2 A11.out).mono ?_
       (case side1 => exact kC (Kd.V_reads' HO_289002.out).2.2)
       (case side2 => exact (Kd.V_reads' HO_289002.out).2.1)
       rintro e w17 ⟨rfl, hb⟩; refine ⟨_, rfl, ?_⟩; replace HO_289002 := Aside0.mk (Kd.V_below (kV HO_289002) hb); replace BK288 := Aside0.mk (blk_below BK288.out hb); replace HB := Aside0.mk (below_step HB.out hb)
       (try clear hb)
       (try clear hb2)
       (try clear hk)
       (try clear hi)
       refine hK.out _ _ ⟨bc BK288 0, bc BK288 1, bc BK288 2⟩ (fun hHeld => ?_); clear hK K; refine norm_ (a' := ?_) ?_ ?_; rotate_left
       · show Act.put _ (some 31) _ = _
         exact APq
       refine pure_ (i := 5) (N := some 32) (v := ?_) (a' := ?_) #[true, true, true, true, true, true, false] rfl rfl (by kernel_rfl) (fun _ _ _ h => h) (Or.inl ⟨by rfl, ?_⟩) ?_ ?_; rotate_left
       · intro w'
         go_simp
         with_reducible rfl
       rotate_left
       · exact APq
       refine pure_ (i := 6) (N := some 6) (v := ?_) (a' := ?_) #[true, true, true, true, true, true, true] rfl rfl (by kernel_rfl) (fun _ _ _ h => h) (Or.inl ⟨by rfl, ?_⟩) ?_ ?_; rotate_left
       · intro w'
         go_simp
         with_reducible rfl
       rotate_left
       · exact APq
       refine done_ (by kernel_rfl) ?_
       try go_wp2
       replace HO_289002 := Aside0.mk (Kd.V_drew HO_289002.out); replace BK288 := Aside0.mk (blk_drew BK288.out); replace HB := Aside0.mk (below_drew1 HB.out); refine start_ (n := 9) (S := fun w' => w'.cell? ⟨gb288, 0, none⟩ = some (.bool a0_0) ∧ w'.cell? ⟨gb288, 1, none⟩ = some (.int .i64 a0_1) ∧ w'.cell? ⟨gb288, 2, none⟩ = some (.slice A0_2 l0_2.length c0_2)) (ds := []) #[false, false, false, false, false, false, false, false, false] (by kernel_rfl) rfl rfl ⟨bc BK288 0, bc BK288 1, bc BK288 2⟩ (fun hHeld => ?_); refine with_tabW r4_Round.tab7 r4_Round.bits7 (fun HT_ HW_ => ?_)
       generalize w17.drew = w18 at HO_289002 BK288 HB hHeld ⊢
       refine pure_ (i := 0) (N := some 35) (v := ?_) (a' := ?_) #[true, false, false, false, false, false, false, false, false] rfl rfl (any_of HT_.out (by kernel_rfl)) (fun _ _ _ h => h) (Or.inl ⟨by rfl, ?_⟩) ?_ ?_; rotate_left
       · intro w'
         go_simp
         with_reducible rfl
       rotate_left
       · exact APq
       refine pure_ (i := 2) (N := some 37) (v := ?_) (a' := ?_) #[true, false, true, false, false, false, false, false, false] rfl rfl (any_of HT_.out (by kernel_rfl)) (fun _ _ _ h => h) (Or.inl ⟨by rfl, ?_⟩) ?_ ?_; rotate_left
       · intro w'
         go_simp
         with_reducible rfl
       rotate_left
       · exact APq
       refine pure_ (i := 4) (N := some 39) (v := ?_) (a' := ?_) #[true, false, true, false, true, false, false, false, false] rfl rfl (any_of HT_.out (by kernel_rfl)) (fun _ _ _ h => h) (Or.inl ⟨by rfl, ?_⟩) ?_ ?_; rotate_left
       · intro w'
         go_simp
         with_reducible rfl
       rotate_left
       · exact APq
       refine take_ (i := 1) (N := some 36) (v := ?_) (a' := ?_) #[true, true, true, false, true, false, false, false, false] rfl rfl (take_ofW HT_.out HW_.out (by kernel_rfl)) (fun _ _ _ h => h) (Or.inl ⟨by rfl, ?_⟩) hHeld ?_ ?_; rotate_left
       · rintro w' ⟨s0, s1, s2⟩
         go_simp
         with_reducible rfl
       rotate_left
       · exact APq
       refine take_ (i := 5) (N := some 40) (v := ?_) (a' := ?_) #[true, true, true, false, true, true, false, false, false] rfl rfl (take_ofW HT_.out HW_.out (by kernel_rfl)) (fun _ _ _ h => h) (Or.inl ⟨by rfl, ?_⟩) hHeld ?_ ?_; rotate_left
       · rintro w' ⟨s0, s1, s2⟩
         go_simp
         with_reducible rfl
       rotate_left
       · exact APq
       refine one_ (i := 3) (N := some 38) #[true, true, true, true, true, true, false, false, false] rfl rfl (one_of HT_.out (by kernel_rfl)) (by decide) (fun K hK => ?_); refine goes_ Try.func56 (by kernel_rfl) rfl #[.bool a0_0, .int .i64 x1_5] (by rfl) rfl rfl LMq ?_
       with_reducible refine (r4_over.calls a0_0 x1_5 t291 _ A13.out).mono ?_
       rintro e w' ⟨rfl, ⟨nd, rfl⟩⟩; refine ⟨_, rfl, ?_⟩; refine hK.out _ _ ⟨bc BK288 0, bc BK288 1, bc BK288 2⟩ (fun hHeld => ?_); clear hK K; refine norm_ (a' := ?_) ?_ ?_; rotate_left
       · show Act.put _ (some 38) _ = _
         exact APq
       refine one_ (i := 6) (N := some 41) #[true, true, true, true, true, true, true, false, false] rfl rfl (one_of HT_.out (by kernel_rfl)) (by decide) (fun K hK => ?_); refine goes_ Try.func55 (by kernel_rfl) rfl #[.int .u64 t291, .bool a0_0] (by rfl) rfl rfl LMq ?_
       with_reducible refine (r4_signed.calls t291 a0_0 t292 _ A14.out).mono ?_
       rintro e w' ⟨rfl, ⟨nd, rfl⟩⟩; refine ⟨_, rfl, ?_⟩; refine hK.out _ _ ⟨bc BK288 0, bc BK288 1, bc BK288 2⟩ (fun hHeld => ?_); clear hK K; refine norm_ (a' := ?_) ?_ ?_; rotate_left
       · show Act.put _ (some 41) _ = _
         exact APq
       refine pure_ (i := 7) (N := some 4) (v := ?_) (a' := ?_) #[true, true, true, true, true, true, true, true, false] rfl rfl (any_of HT_.out (by kernel_rfl)) (fun _ _ _ h => h) (Or.inl ⟨by rfl, ?_⟩) ?_ ?_; rotate_left
       · intro w'
         go_simp
         with_reducible rfl
       rotate_left
       · exact APq
       refine pure_ (i := 8) (N := some 5) (v := ?_) (a' := ?_) #[true, true, true, true, true, true, true, true, true] rfl rfl (any_of HT_.out (by kernel_rfl)) (fun _ _ _ h => h) (Or.inl ⟨by rfl, ?_⟩) ?_ ?_; rotate_left
       · intro w'
         go_simp
         with_reducible rfl
       rotate_left
       · exact APq
       refine done_ (done_of HT_.out (by kernel_rfl)) ?_
       try go_wp2
       go_ret2
       exact ⟨by first | rfl | (simp [errW_none, errW_some] <;> rfl) | (simp [*, errW_none, errW_some] <;> rfl), kHs HB GE288⟩
     rw [if_neg c12] at H
     have c12b0 : decide (1100 < (wrap64 (a0_1 + t290))) = false := decide_eq_false c12; clear c12; have HC19 := Aside0.mk H; clear H; have hcz20_0 : wc.cell? ⟨gb288, 0, none⟩ = some (.bool a0_0) := bc BK288 0; have hcz20_1 : wc.cell? ⟨gb288, 1, none⟩ = some (.int .i64 a0_1) := bc BK288 1; have hcz20_2 : wc.cell? ⟨gb288, 2, none⟩ = some (.slice A0_2 l0_2.length c0_2) := bc BK288 2; have hfz20_0 := blk_frozen BK288.out 0; have hfz20_1 := blk_frozen BK288.out 1; have hfz20_2 := blk_frozen BK288.out 2
     try go_wp2
     replace HO_289002 := Aside0.mk (Kd.V_drew HO_289002.out); replace BK288 := Aside0.mk (blk_drew BK288.out); replace HB := Aside0.mk (below_drew1 HB.out); refine start_ (n := 7) (S := fun w' => w'.cell? ⟨gb288, 0, none⟩ = some (.bool a0_0) ∧ w'.cell? ⟨gb288, 1, none⟩ = some (.int .i64 a0_1) ∧ w'.cell? ⟨gb288, 2, none⟩ = some (.slice A0_2 l0_2.length c0_2)) (ds := []) #[false, false, false, false, false, false, false] (by kernel_rfl) rfl rfl ⟨bc BK288 0, bc BK288 1, bc BK288 2⟩ (fun hHeld => ?_)
     generalize wc.drew = w21 at HO_289002 BK288 HB hHeld ⊢
     refine pure_ (i := 0) (N := some 27) (v := ?_) (a' := ?_) #[true, false, false, false, false, false, false] rfl rfl (by kernel_rfl) (fun _ _ _ h => h) (Or.inl ⟨by rfl, ?_⟩) ?_ ?_; rotate_left
     · intro w'
       go_simp
       with_reducible rfl
     rotate_left
     · exact APq
     refine pure_ (i := 2) (N := some 29) (v := ?_) (a' := ?_) #[true, false, true, false, false, false, false] rfl rfl (by kernel_rfl) (fun _ _ _ h => h) (Or.inl ⟨by rfl, ?_⟩) ?_ ?_; rotate_left
     · intro w'
       go_simp
       with_reducible rfl
     rotate_left
     · exact APq
     refine take_ (i := 1) (N := some 28) (v := ?_) (a' := ?_) #[true, true, true, false, false, false, false] rfl rfl (by kernel_rfl) (fun _ _ _ h => h) (Or.inl ⟨by rfl, ?_⟩) hHeld ?_ ?_; rotate_left
     · rintro w' ⟨s0, s1, s2⟩
       go_simp
       with_reducible rfl
     rotate_left
     · exact APq
     refine take_ (i := 3) (N := some 30) (v := ?_) (a' := ?_) #[true, true, true, true, false, false, false] rfl rfl (by kernel_rfl) (fun _ _ _ h => h) (Or.inl ⟨by rfl, ?_⟩) hHeld ?_ ?_; rotate_left
     · rintro w' ⟨s0, s1, s2⟩
       go_simp
       with_reducible rfl
     rotate_left
     · exact APq
     refine one_ (i := 4) (N := some 31) #[true, true, true, true, true, false, false] rfl rfl (by kernel_rfl) (by decide) (fun K hK => ?_); refine goes_ Try.func31 (by kernel_rfl) rfl #[.slice A0_2 l0_2.length c0_2] (by rfl) rfl rfl LMq ?_
     with_reducible refine (r2_Len.calls kj5 _ _ l0_2 t290 _ ?side1 ?side2 A11.out).mono ?_
     (case side1 => exact kC (Kd.V_reads' HO_289002.out).2.2)
     (case side2 => exact (Kd.V_reads' HO_289002.out).2.1)
     rintro e w22 ⟨rfl, hb⟩; refine ⟨_, rfl, ?_⟩; replace HO_289002 := Aside0.mk (Kd.V_below (kV HO_289002) hb); replace BK288 := Aside0.mk (blk_below BK288.out hb); replace HB := Aside0.mk (below_step HB.out hb)
     (try clear hb)
     (try clear hb2)
     (try clear hk)
     (try clear hi)
     refine hK.out _ _ ⟨bc BK288 0, bc BK288 1, bc BK288 2⟩ (fun hHeld => ?_); clear hK K; refine norm_ (a' := ?_) ?_ ?_; rotate_left
     · show Act.put _ (some 31) _ = _
       exact APq
     refine pure_ (i := 5) (N := some 32) (v := ?_) (a' := ?_) #[true, true, true, true, true, true, false] rfl rfl (by kernel_rfl) (fun _ _ _ h => h) (Or.inl ⟨by rfl, ?_⟩) ?_ ?_; rotate_left
     · intro w'
       go_simp
       with_reducible rfl
     rotate_left
     · exact APq
     refine pure_ (i := 6) (N := some 6) (v := ?_) (a' := ?_) #[true, true, true, true, true, true, true] rfl rfl (by kernel_rfl) (fun _ _ _ h => h) (Or.inl ⟨by rfl, ?_⟩) ?_ ?_; rotate_left
     · intro w'
       go_simp
       with_reducible rfl
     rotate_left
     · exact APq
     refine done_ (by kernel_rfl) ?_
     go_upto_if 43 with (fail)
     go_cut [6] (fun v6 wc => ∃ (kq : Nat) (x6_18 : Int) (x289000_18 : Bool) (x289001_18 : Int) (x289002_18 : List Int) (u289002 : Value), v6 = .int .i64 x6_18 ∧ Aside0 (r4_Round.j2 kq x1_5 x6_18 x289000_18 x289001_18 x289002_18 = some (r1, r2)) ∧ Aside0 (kq ≤ kj5) ∧ Aside0 (Kd.V (Kd.int .u32) 86 wc w.heap.size (fun k_ => (P0_2_ k_ ∨ w.heap.size ≤ k_) ∧ k_ ≠ gb288) u289002 x289002_18) ∧ Aside0 (wc.heap[gb288]? = some (.cells #[.bool x289000_18, .int .i64 x289001_18, u289002] 62 (0, 0))) ∧ Aside0 (Below w.heap.size w wc))
     case first =>
      have H := HC19.out; clear HC19
      by_cases c23 : (wrap64 (a0_1 + t290)) < (-1200)
      · rw [if_pos c23] at H
        have c23b0 : decide ((wrap64 (a0_1 + t290)) < (-1200)) = true := decide_eq_true c23; clear c23
        (first | rw [c23b0] | (simp only [i64_w, i32_w]; rw [c23b0]) | skip)
        replace H := Option.bind_eq_some_iff.mp H; obtain ⟨t293, A240, H⟩ := H; replace H : (r4_Round.j2 kj5 x1_5 (-1299) a0_0 (-1300) t293) = some (r1, r2) := H; have A24 := Aside0.mk A240; clear A240; have H' := Aside0.mk H; clear H
        try go_wp2
        replace HO_289002 := Aside0.mk (Kd.V_drew HO_289002.out); replace BK288 := Aside0.mk (blk_drew BK288.out); replace HB := Aside0.mk (below_drew1 HB.out); refine start_ (n := 5) (S := fun w' => w'.cell? ⟨gb288, 0, none⟩ = some (.bool a0_0) ∧ w'.cell? ⟨gb288, 1, none⟩ = some (.int .i64 a0_1) ∧ w'.cell? ⟨gb288, 2, none⟩ = some (.slice A0_2 l0_2.length c0_2)) (ds := [4]) #[false, false, false, false, false] (by kernel_rfl) rfl rfl ⟨bc BK288 0, bc BK288 1, bc BK288 2⟩ (fun hHeld => ?_)
        generalize w22.drew = w25 at HO_289002 BK288 HB hHeld ⊢
        refine pure_ (i := 0) (N := some 44) (v := ?_) (a' := ?_) #[true, false, false, false, false] rfl rfl (by kernel_rfl) (fun _ _ _ h => h) (Or.inl ⟨by rfl, ?_⟩) ?_ ?_; rotate_left
        · intro w'
          go_simp
          with_reducible rfl
        rotate_left
        · exact APq
        refine take_ (i := 1) (N := some 45) (v := ?_) (a' := ?_) #[true, true, false, false, false] rfl rfl (by kernel_rfl) (fun _ _ _ h => h) (Or.inl ⟨by rfl, ?_⟩) hHeld ?_ ?_; rotate_left
        · rintro w' ⟨s0, s1, s2⟩
          go_simp
          with_reducible rfl
        rotate_left
        · exact APq
        refine one_ (i := 2) (N := some 46) #[true, true, true, false, false] rfl rfl (by kernel_rfl) (by decide) (fun K hK => ?_); refine goes_ Try.func27 (by kernel_rfl) rfl #[.int .u64 1] (by rfl) rfl rfl LMq ?_
        with_reducible refine (r2_Of.calls kj5 1 t293 _ A24.out).mono ?_
        rintro e w26 ⟨v294, rfl, ho0, hb⟩; refine ⟨_, rfl, ?_⟩; replace HO_289002 := Aside0.mk (Kd.V_below (kV HO_289002) hb); have HO295 := Aside0.mk (Kd.V_lower (Kd.V_mono (ok' := fun k_ => (P0_2_ k_ ∨ w.heap.size ≤ k_) ∧ k_ ≠ gb288) ho0 (fun k_ hk_ => ⟨(.inr (Nat.le_trans (below_size HB.out) hk_)), (Kd.freshB BK288.out k_ hk_)⟩)) (below_size HB.out)); replace BK288 := Aside0.mk (blk_below BK288.out hb); replace HB := Aside0.mk (below_step HB.out hb)
        (try clear hb)
        (try clear hb2)
        (try clear hk)
        (try clear hi)
        (try clear ho0)
        obtain ⟨Ao27, co27, eo27⟩ := Kd.V_slice HO295.out
        (first | subst eo27 | (injection eo27 with f1_ f2_ f3_; have f4_ := f1_.symm; have f5_ := f3_.symm; clear f1_ f2_ f3_; subst f4_; subst f5_))
        refine hK.out _ _ ⟨bc BK288 0, bc BK288 1, bc BK288 2⟩ (fun hHeld => ?_); clear hK K; refine norm_ (a' := ?_) ?_ ?_; rotate_left
        · show Act.put _ (some 46) _ = _
          exact APq
        refine pure_ (i := 3) (N := some 47) (v := ?_) (a' := ?_) #[true, true, true, true, false] rfl rfl (by kernel_rfl) (fun _ _ _ h => h) (Or.inl ⟨by rfl, ?_⟩) ?_ ?_; rotate_left
        · intro w'
          go_simp
          with_reducible rfl
        rotate_left
        · exact APq
        refine last_ (i := 4) (N := none) #[true, true, true, true, true] rfl rfl (by kernel_rfl) (by decide) (fun K hK => ?_); have hs28 : w26.cell? ⟨gb288, 0, none⟩ = some (.bool a0_0) := bc BK288 0; have hfs28 := blk_frozen BK288.out 0; have hs29 : w26.cell? ⟨gb288, 1, none⟩ = some (.int .i64 a0_1) := bc BK288 1; have hfs29 := blk_frozen BK288.out 1; have hs30 : w26.cell? ⟨gb288, 2, none⟩ = some (.slice A0_2 l0_2.length c0_2) := bc BK288 2; have hfs30 := blk_frozen BK288.out 2; refine skip_ (w1 := ?_) (by rfl) rfl ?_ ?_; rotate_left
        · go_simp
          rfl
        refine hK.out _ _ ?_; clear hK K; refine done_ (by kernel_rfl) ?_
        try go_wp2
        go_meet
        case rel => exact ⟨_, ((-1299)), (a0_0), ((-1300)), (t293), (.slice Ao27 t293.length co27), RSq, (by first | exact H' | (subst_vars; exact H')), ⟨by have := HJ2.out; have := HJ5.out; first | omega | exact Nat.le_refl _⟩, ⟨by (with_reducible repeat (first | apply Kd.V_alloc | apply Kd.V_drewN | apply Kd.V_drew)); exact Kd.V_mono (Kd.V_far (p := ⟨gb288, 2, none⟩) (Kd.V_far (p := ⟨gb288, 1, none⟩) (Kd.V_far (p := ⟨gb288, 0, none⟩) (Kd.V_mono HO295.out (fun k_ hk => (⟨hk, hk.2⟩ : _ ∧ k_ ≠ gb288))) (fun _ hk => hk.2) (.bool a0_0)) (fun _ hk => hk.2) (.int .i64 (-1300))) (fun _ hk => hk.2) (.slice Ao27 t293.length co27)) (fun _ hk => ⟨hk.1.1, hk.1.2⟩)⟩, ⟨by (with_reducible repeat (first | refine blk_drewN ?_ _ | refine blk_drew ?_ | refine blk_alloc ?_ _)); refine blk_put (cs := #[.bool a0_0, .int .i64 (-1300), .slice A0_2 l0_2.length c0_2]) ?_ 2 _ rfl; refine blk_put (cs := #[.bool a0_0, .int .i64 a0_1, .slice A0_2 l0_2.length c0_2]) ?_ 1 _ rfl; refine blk_put (cs := #[.bool a0_0, .int .i64 a0_1, .slice A0_2 l0_2.length c0_2]) ?_ 0 _ rfl; (with_reducible repeat (first | refine blk_drewN ?_ _ | refine blk_drew ?_ | refine blk_alloc ?_ _)); exact BK288.out⟩, ⟨kHs HB GE288⟩⟩
      rw [if_neg c23] at H
      have c23b0 : decide ((wrap64 (a0_1 + t290)) < (-1200)) = false := decide_eq_false c23; clear c23
      (first | rw [c23b0] | (simp only [i64_w, i32_w]; rw [c23b0]) | skip)
      have H' := Aside0.mk H; clear H
      go_wp2
      go_meet
      case rel => exact ⟨_, (wrap64 (a0_1 + t290)), (a0_0), (a0_1), (l0_2), (.slice A0_2 l0_2.length c0_2), RSq, (by first | exact H' | (subst_vars; exact H')), ⟨by have := HJ2.out; have := HJ5.out; first | omega | exact Nat.le_refl _⟩, ⟨kV HO_289002⟩, ⟨kB BK288⟩, ⟨kHs HB GE288⟩⟩
     case rest =>
      clear HC19; (try clear c1); (try clear c2); (try clear p2); (try clear c3); (try clear c5); (try clear c5b0); (try clear p6); (try clear c7); (try clear c8); (try clear c8b0); (try clear c8b1); (try clear c8b2); (try clear c12); (try clear c12b0); (try clear c23); (try clear c23b0); (try clear c27); (try clear c29); (try clear hcz10_0 hcz10_1 hcz10_2); (try clear hcz15_0 hcz15_1 hcz15_2); (try clear hcz20_0 hcz20_1 hcz20_2); (try clear hfz10_0 hfz10_1 hfz10_2); (try clear hfz15_0 hfz15_1 hfz15_2); (try clear hfz20_0 hfz20_1 hfz20_2); (try clear p2); (try clear p6); obtain ⟨kq, x6_18, x289000_18, x289001_18, x289002_18, u289002, rfl, HA, HJ18, HO_289002, BK288, HB⟩ := hcut
      cases kq with
      | zero => exact absurd HA.out (by simp [r4_Round.j2])
      | succ kj18 =>
       have H := HA.out; clear HA
       simp only [r4_Round.j2] at H
       by_cases c31 : (wrap64 (x6_18 - 53)) < (-1074)
       · rw [if_pos c31] at H
         have c31i := eq_true c31; have c31b0 : decide ((wrap64 (x6_18 - 53)) < (-1074)) = true := decide_eq_true c31; clear c31; replace H := Option.bind_eq_some_iff.mp H; obtain ⟨⟨t296, t299⟩, A320, H⟩ := H; replace H : (if t299 = true then ((r4_To.f kj18 x289000_18 x289001_18 x289002_18 (wrap64 (x6_18 - 53)) x1_5).bind fun bt300 => ((r2_Len.f kj18 bt300.1).bind fun t304 => (if (wrap64 ((wrap64 (t304 + x6_18)) - 53)) ≤ (-1022) then (r4_Round.j3 kj18 x1_5 (-1074) t296 24 x289000_18 x289001_18 x289002_18) else (r4_Round.j3 kj18 x1_5 (-1074) t296 16 x289000_18 x289001_18 x289002_18)))) else (r4_Round.j3 kj18 x1_5 (-1074) t296 0 x289000_18 x289001_18 x289002_18)) = some (r1, r2) := H; have A32 := Aside0.mk A320; clear A320; have HC33 := Aside0.mk H; clear H; have hcz34_0 : wc.cell? ⟨gb288, 0, none⟩ = some (.bool x289000_18) := bc BK288 0; have hcz34_1 : wc.cell? ⟨gb288, 1, none⟩ = some (.int .i64 x289001_18) := bc BK288 1; have hcz34_2 : wc.cell? ⟨gb288, 2, none⟩ = some (u289002) := bc BK288 2; have hfz34_0 := blk_frozen BK288.out 0; have hfz34_1 := blk_frozen BK288.out 1; have hfz34_2 := blk_frozen BK288.out 2; obtain ⟨Ao35, co35, eo35⟩ := Kd.V_slice HO_289002.out; subst eo35
         go_upto_if 58 with (first | ((with_reducible refine gate_callee (f := 57) rfl ?_); refine goesL_ (some 55) rfl rfl Try.func57 (by kernel_rfl) rfl #[.agg #[.bool x289000_18, .int .i64 x289001_18, .slice Ao35 x289002_18.length co35], .int .i64 (-1074), .int .i64 x1_5] rfl LMq ?_; (with_reducible refine (r4_To.calls kj18 x289000_18 x289001_18 (fun k_ => ((P0_2_ k_ ∨ w.heap.size ≤ k_) ∧ k_ ≠ gb288)) _ _ x289002_18 (-1074) x1_5 t296 t299 _ ?side1 A32.out).mono ?_); (case side1 => exact HO_289002.out); rintro e w36 ⟨v297, rfl, ho0, hb⟩; refine ⟨_, rfl, ?_⟩; replace HO_289002 := Aside0.mk (Kd.V_below (kV HO_289002) hb); have HO298 := Aside0.mk (Kd.V_lower (Kd.V_mono (ok' := fun k_ => (P0_2_ k_ ∨ w.heap.size ≤ k_) ∧ k_ ≠ gb288) ho0 (fun k_ hk_ => ⟨Or.elim hk_ (fun hs_ => hs_.1) (fun hn_ => (.inr (Nat.le_trans (below_size (kHs HB GE288)) hn_))), Or.elim hk_ (fun hs_ => hs_.2) (fun hn_ => (Kd.freshB (g := gb288) (o := .cells #[.bool x289000_18, .int .i64 x289001_18, .slice Ao35 x289002_18.length co35] 62 (0, 0)) (kB BK288) k_ hn_))⟩)) (below_size (kHs HB GE288))); replace BK288 := Aside0.mk (blk_below (g := gb288) (o := .cells #[.bool x289000_18, .int .i64 x289001_18, .slice Ao35 x289002_18.length co35] 62 (0, 0)) (kB BK288) hb); replace HB := Aside0.mk (below_step (kHs HB GE288) hb); (try clear hb); (try clear hb2); (try clear hk); (try clear hi); (try clear ho0)))
         (try simp only [Act.put, List.setIfInBounds_toArray, List.set_cons_zero, List.set_cons_succ])
         go_cut [10] (fun v10 wc => ∃ (kq : Nat) (x10_32 : Int), v10 = .int .i64 x10_32 ∧ Aside0 (r4_Round.j3 kq x1_5 (-1074) t296 x10_32 x289000_18 x289001_18 x289002_18 = some (r1, r2)) ∧ Aside0 (kq ≤ kj18) ∧ Aside0 (Kd.V (Kd.int .u32) 86 wc w.heap.size (fun k_ => (P0_2_ k_ ∨ w.heap.size ≤ k_) ∧ k_ ≠ gb288) v297 t296) ∧ Aside0 (Kd.V (Kd.int .u32) 86 wc w.heap.size (fun k_ => (P0_2_ k_ ∨ w.heap.size ≤ k_) ∧ k_ ≠ gb288) (.slice Ao35 x289002_18.length co35) x289002_18) ∧ Aside0 (wc.heap[gb288]? = some (.cells #[.bool x289000_18, .int .i64 x289001_18, (.slice Ao35 x289002_18.length co35)] 62 (0, 0))) ∧ Aside0 (Below w.heap.size w wc))
         case first =>
          have H := HC33.out; clear HC33
          by_cases c37 : t299 = true
          · subst c37
            have H1 : ((r4_To.f kj18 x289000_18 x289001_18 x289002_18 (wrap64 (x6_18 - 53)) x1_5).bind fun bt300 => ((r2_Len.f kj18 bt300.1).bind fun t304 => (if (wrap64 ((wrap64 (t304 + x6_18)) - 53)) ≤ (-1022) then (r4_Round.j3 kj18 x1_5 (-1074) t296 24 x289000_18 x289001_18 x289002_18) else (r4_Round.j3 kj18 x1_5 (-1074) t296 16 x289000_18 x289001_18 x289002_18)))) = some (r1, r2) := by rw [if_pos rfl] at H; exact H
            clear H; have H := H1; clear H1; replace H := Option.bind_eq_some_iff.mp H; obtain ⟨⟨t300, t303⟩, A380, H⟩ := H; replace H : ((r2_Len.f kj18 t300).bind fun t304 => (if (wrap64 ((wrap64 (t304 + x6_18)) - 53)) ≤ (-1022) then (r4_Round.j3 kj18 x1_5 (-1074) t296 24 x289000_18 x289001_18 x289002_18) else (r4_Round.j3 kj18 x1_5 (-1074) t296 16 x289000_18 x289001_18 x289002_18))) = some (r1, r2) := H; have A38 := Aside0.mk A380; clear A380; replace H := Option.bind_eq_some_iff.mp H; obtain ⟨t304, A390, H⟩ := H; replace H : (if (wrap64 ((wrap64 (t304 + x6_18)) - 53)) ≤ (-1022) then (r4_Round.j3 kj18 x1_5 (-1074) t296 24 x289000_18 x289001_18 x289002_18) else (r4_Round.j3 kj18 x1_5 (-1074) t296 16 x289000_18 x289001_18 x289002_18)) = some (r1, r2) := H; have A39 := Aside0.mk A390; clear A390
            by_cases c40 : (wrap64 ((wrap64 (t304 + x6_18)) - 53)) ≤ (-1022)
            · rw [if_pos c40] at H
              have c40b0 : decide ((wrap64 ((wrap64 (t304 + x6_18)) - 53)) ≤ (-1022)) = true := decide_eq_true c40; clear c40
              (first | rw [c40b0] | (simp only [i64_w, i32_w]; rw [c40b0]) | skip)
              have H' := Aside0.mk H; clear H; have hcz41_0 : w36.cell? ⟨gb288, 0, none⟩ = some (.bool x289000_18) := bc BK288 0; have hcz41_1 : w36.cell? ⟨gb288, 1, none⟩ = some (.int .i64 x289001_18) := bc BK288 1; have hcz41_2 : w36.cell? ⟨gb288, 2, none⟩ = some (.slice Ao35 x289002_18.length co35) := bc BK288 2; have hfz41_0 := blk_frozen BK288.out 0; have hfz41_1 := blk_frozen BK288.out 1; have hfz41_2 := blk_frozen BK288.out 2
              go_wp2_with (first | ((with_reducible refine gate_callee (f := 57) rfl ?_); refine goesL_ (some 64) rfl rfl Try.func57 (by kernel_rfl) rfl #[.agg #[.bool x289000_18, .int .i64 x289001_18, .slice Ao35 x289002_18.length co35], .int .i64 (wrap64 (x6_18 - 53)), .int .i64 x1_5] rfl LMq ?_; (with_reducible refine (r4_To.calls kj18 x289000_18 x289001_18 (fun k_ => ((P0_2_ k_ ∨ w.heap.size ≤ k_) ∧ k_ ≠ gb288)) _ _ x289002_18 (wrap64 (x6_18 - 53)) x1_5 t300 t303 _ ?side1 A38.out).mono ?_); (case side1 => exact HO_289002.out); rintro e w42 ⟨v301, rfl, ho0, hb⟩; refine ⟨_, rfl, ?_⟩; replace HO_289002 := Aside0.mk (Kd.V_below (kV HO_289002) hb); replace HO298 := Aside0.mk (Kd.V_below (kV HO298) hb); have HO302 := Aside0.mk (Kd.V_lower (Kd.V_mono (ok' := fun k_ => (P0_2_ k_ ∨ w.heap.size ≤ k_) ∧ k_ ≠ gb288) ho0 (fun k_ hk_ => ⟨Or.elim hk_ (fun hs_ => hs_.1) (fun hn_ => (.inr (Nat.le_trans (below_size (kHs HB GE288)) hn_))), Or.elim hk_ (fun hs_ => hs_.2) (fun hn_ => (Kd.freshB (g := gb288) (o := .cells #[.bool x289000_18, .int .i64 x289001_18, .slice Ao35 x289002_18.length co35] 62 (0, 0)) (kB BK288) k_ hn_))⟩)) (below_size (kHs HB GE288))); replace BK288 := Aside0.mk (blk_below (g := gb288) (o := .cells #[.bool x289000_18, .int .i64 x289001_18, .slice Ao35 x289002_18.length co35] 62 (0, 0)) (kB BK288) hb); replace HB := Aside0.mk (below_step (kHs HB GE288) hb); (try clear hb); (try clear hb2); (try clear hk); (try clear hi); (try clear ho0); obtain ⟨Ao43, co43, eo43⟩ := Kd.V_slice HO302.out; subst eo43) | ((with_reducible refine gate_callee (f := 31) rfl ?_); refine goesL_ (some 68) rfl rfl Try.func31 (by kernel_rfl) rfl #[.slice Ao43 t300.length co43] rfl LMq ?_; (with_reducible refine (r2_Len.calls kj18 _ _ t300 t304 _ ?side1 ?side2 A39.out).mono ?_); (case side1 => exact kC (Kd.V_reads' HO302.out).2.2); (case side2 => exact (Kd.V_reads' HO302.out).2.1); rintro e w44 ⟨rfl, hb⟩; refine ⟨_, rfl, ?_⟩; replace HO_289002 := Aside0.mk (Kd.V_below (kV HO_289002) hb); replace HO298 := Aside0.mk (Kd.V_below (kV HO298) hb); replace HO302 := Aside0.mk (Kd.V_below (kV HO302) hb); replace BK288 := Aside0.mk (blk_below (g := gb288) (o := .cells #[.bool x289000_18, .int .i64 x289001_18, .slice Ao35 x289002_18.length co35] 62 (0, 0)) (kB BK288) hb); replace HB := Aside0.mk (below_step (kHs HB GE288) hb); (try clear hb); (try clear hb2); (try clear hk); (try clear hi)))
              go_meet
              case rel => exact ⟨_, (24), RSq, (by first | exact H' | (subst_vars; exact H')), ⟨by have := HJ2.out; have := HJ5.out; have := HJ18.out; first | omega | exact Nat.le_refl _⟩, ⟨kV HO298⟩, ⟨kV HO_289002⟩, ⟨kB BK288⟩, ⟨kHs HB GE288⟩⟩
            rw [if_neg c40] at H
            have c40b0 : decide ((wrap64 ((wrap64 (t304 + x6_18)) - 53)) ≤ (-1022)) = false := decide_eq_false c40; clear c40
            (first | rw [c40b0] | (simp only [i64_w, i32_w]; rw [c40b0]) | skip)
            have H' := Aside0.mk H; clear H; have hcz45_0 : w36.cell? ⟨gb288, 0, none⟩ = some (.bool x289000_18) := bc BK288 0; have hcz45_1 : w36.cell? ⟨gb288, 1, none⟩ = some (.int .i64 x289001_18) := bc BK288 1; have hcz45_2 : w36.cell? ⟨gb288, 2, none⟩ = some (.slice Ao35 x289002_18.length co35) := bc BK288 2; have hfz45_0 := blk_frozen BK288.out 0; have hfz45_1 := blk_frozen BK288.out 1; have hfz45_2 := blk_frozen BK288.out 2
            go_wp2_with (first | ((with_reducible refine gate_callee (f := 57) rfl ?_); refine goesL_ (some 64) rfl rfl Try.func57 (by kernel_rfl) rfl #[.agg #[.bool x289000_18, .int .i64 x289001_18, .slice Ao35 x289002_18.length co35], .int .i64 (wrap64 (x6_18 - 53)), .int .i64 x1_5] rfl LMq ?_; (with_reducible refine (r4_To.calls kj18 x289000_18 x289001_18 (fun k_ => ((P0_2_ k_ ∨ w.heap.size ≤ k_) ∧ k_ ≠ gb288)) _ _ x289002_18 (wrap64 (x6_18 - 53)) x1_5 t300 t303 _ ?side1 A38.out).mono ?_); (case side1 => exact HO_289002.out); rintro e w46 ⟨v301, rfl, ho0, hb⟩; refine ⟨_, rfl, ?_⟩; replace HO_289002 := Aside0.mk (Kd.V_below (kV HO_289002) hb); replace HO298 := Aside0.mk (Kd.V_below (kV HO298) hb); have HO302 := Aside0.mk (Kd.V_lower (Kd.V_mono (ok' := fun k_ => (P0_2_ k_ ∨ w.heap.size ≤ k_) ∧ k_ ≠ gb288) ho0 (fun k_ hk_ => ⟨Or.elim hk_ (fun hs_ => hs_.1) (fun hn_ => (.inr (Nat.le_trans (below_size (kHs HB GE288)) hn_))), Or.elim hk_ (fun hs_ => hs_.2) (fun hn_ => (Kd.freshB (g := gb288) (o := .cells #[.bool x289000_18, .int .i64 x289001_18, .slice Ao35 x289002_18.length co35] 62 (0, 0)) (kB BK288) k_ hn_))⟩)) (below_size (kHs HB GE288))); replace BK288 := Aside0.mk (blk_below (g := gb288) (o := .cells #[.bool x289000_18, .int .i64 x289001_18, .slice Ao35 x289002_18.length co35] 62 (0, 0)) (kB BK288) hb); replace HB := Aside0.mk (below_step (kHs HB GE288) hb); (try clear hb); (try clear hb2); (try clear hk); (try clear hi); (try clear ho0); obtain ⟨Ao47, co47, eo47⟩ := Kd.V_slice HO302.out; subst eo47) | ((with_reducible refine gate_callee (f := 31) rfl ?_); refine goesL_ (some 68) rfl rfl Try.func31 (by kernel_rfl) rfl #[.slice Ao47 t300.length co47] rfl LMq ?_; (with_reducible refine (r2_Len.calls kj18 _ _ t300 t304 _ ?side1 ?side2 A39.out).mono ?_); (case side1 => exact kC (Kd.V_reads' HO302.out).2.2); (case side2 => exact (Kd.V_reads' HO302.out).2.1); rintro e w48 ⟨rfl, hb⟩; refine ⟨_, rfl, ?_⟩; replace HO_289002 := Aside0.mk (Kd.V_below (kV HO_289002) hb); replace HO298 := Aside0.mk (Kd.V_below (kV HO298) hb); replace HO302 := Aside0.mk (Kd.V_below (kV HO302) hb); replace BK288 := Aside0.mk (blk_below (g := gb288) (o := .cells #[.bool x289000_18, .int .i64 x289001_18, .slice Ao35 x289002_18.length co35] 62 (0, 0)) (kB BK288) hb); replace HB := Aside0.mk (below_step (kHs HB GE288) hb); (try clear hb); (try clear hb2); (try clear hk); (try clear hi)))
            go_meet
            case rel => exact ⟨_, (16), RSq, (by first | exact H' | (subst_vars; exact H')), ⟨by have := HJ2.out; have := HJ5.out; have := HJ18.out; first | omega | exact Nat.le_refl _⟩, ⟨kV HO298⟩, ⟨kV HO_289002⟩, ⟨kB BK288⟩, ⟨kHs HB GE288⟩⟩
          replace c37 := Bool.eq_false_iff.mpr c37; subst c37
          have H1 : (r4_Round.j3 kj18 x1_5 (-1074) t296 0 x289000_18 x289001_18 x289002_18) = some (r1, r2) := by rw [if_neg (show ¬ (false = true) by decide)] at H; exact H
          clear H; have H := H1; clear H1; have H' := Aside0.mk H; clear H
          go_wp2
          go_meet
          case rel => exact ⟨_, (0), RSq, (by first | exact H' | (subst_vars; exact H')), ⟨by have := HJ2.out; have := HJ5.out; have := HJ18.out; first | omega | exact Nat.le_refl _⟩, ⟨kV HO298⟩, ⟨kV HO_289002⟩, ⟨kB BK288⟩, ⟨kHs HB GE288⟩⟩
         case rest =>
          clear HC33; (try clear c1); (try clear c2); (try clear p2); (try clear c3); (try clear c4); (try clear c5); (try clear c5b0); (try clear p6); (try clear c7); (try clear c8); (try clear c8b0); (try clear c8b1); (try clear c8b2); (try clear c12); (try clear c12b0); (try clear c23); (try clear c23b0); (try clear c27); (try clear c29); (try clear c31); (try clear c31b0); (try clear c37); (try clear c40); (try clear c40b0); (try clear hcz10_0 hcz10_1 hcz10_2); (try clear hcz15_0 hcz15_1 hcz15_2); (try clear hcz20_0 hcz20_1 hcz20_2); (try clear hcz34_0 hcz34_1 hcz34_2); (try clear hcz41_0 hcz41_1 hcz41_2); (try clear hcz45_0 hcz45_1 hcz45_2); (try clear hfz10_0 hfz10_1 hfz10_2); (try clear hfz15_0 hfz15_1 hfz15_2); (try clear hfz20_0 hfz20_1 hfz20_2); (try clear hfz34_0 hfz34_1 hfz34_2); (try clear hfz41_0 hfz41_1 hfz41_2); (try clear hfz45_0 hfz45_1 hfz45_2); (try clear p2); (try clear p6); obtain ⟨kq, x10_32, rfl, HA, HJ32, HO_8, HO_289002, BK288, HB⟩ := hcut
          cases kq with
          | zero => exact absurd HA.out (by simp [r4_Round.j3])
          | succ kj32 =>
           have H := HA.out; clear HA
           simp only [r4_Round.j3] at H
           replace H := Option.bind_eq_some_iff.mp H; obtain ⟨t305, A490, H⟩ := H; replace H : (if (wrap64 (t305 + (-1074))) > 1024 then ((r4_over.f x289000_18 x1_5).bind fun t306 => ((r4_signed.f t306 x289000_18).bind fun t307 => (some (t307, 20)))) else ((r2_Low.f kj32 t296).bind fun t308 => (if t308 = 9007199254740992 then (r4_Round.j4 kj32 (wrap64 ((-1074) + 1)) x10_32 4503599627370496 x289000_18 x289001_18 x289002_18) else (r4_Round.j4 kj32 (-1074) x10_32 t308 x289000_18 x289001_18 x289002_18)))) = some (r1, r2) := H; have A49 := Aside0.mk A490; clear A490
           by_cases c50 : (wrap64 (t305 + (-1074))) > 1024
           · rw [if_pos c50] at H
             have c50b0 : decide (1024 < (wrap64 (t305 + (-1074)))) = true := decide_eq_true c50; clear c50; replace H := Option.bind_eq_some_iff.mp H; obtain ⟨t306, A510, H⟩ := H; replace H : ((r4_signed.f t306 x289000_18).bind fun t307 => (some (t307, 20))) = some (r1, r2) := H; have A51 := Aside0.mk A510; clear A510; replace H := Option.bind_eq_some_iff.mp H; obtain ⟨t307, A520, H⟩ := H; replace H : (some (t307, 20)) = some (r1, r2) := H; have A52 := Aside0.mk A520; clear A520
             simp only [Option.some.injEq, Prod.mk.injEq] at H
             obtain ⟨rfl, rfl⟩ := H; obtain ⟨Ao53, co53, eo53⟩ := Kd.V_slice HO_8.out; subst eo53
             try go_wp2_with (first | ((with_reducible refine gate_callee (f := 31) rfl ?_); refine goesL_ (some 74) rfl rfl Try.func31 (by kernel_rfl) rfl #[.slice Ao53 t296.length co53] rfl LMq ?_; (with_reducible refine (r2_Len.calls kj32 _ _ t296 t305 _ ?side1 ?side2 A49.out).mono ?_); (case side1 => exact kC (Kd.V_reads' HO_8.out).2.2); (case side2 => exact (Kd.V_reads' HO_8.out).2.1); rintro e w54 ⟨rfl, hb⟩; refine ⟨_, rfl, ?_⟩; replace HO_8 := Aside0.mk (Kd.V_below (kV HO_8) hb); replace HO_289002 := Aside0.mk (Kd.V_below (kV HO_289002) hb); replace BK288 := Aside0.mk (blk_below (g := gb288) (o := .cells #[.bool x289000_18, .int .i64 x289001_18, .slice Ao35 x289002_18.length co35] 62 (0, 0)) (kB BK288) hb); replace HB := Aside0.mk (below_step (kHs HB GE288) hb); (try clear hb); (try clear hb2); (try clear hk); (try clear hi)))
             replace HO_8 := Aside0.mk (Kd.V_drew HO_8.out); replace HO_289002 := Aside0.mk (Kd.V_drew HO_289002.out); replace BK288 := Aside0.mk (blk_drew BK288.out); replace HB := Aside0.mk (below_drew1 HB.out); refine start_ (n := 9) (S := fun w' => w'.cell? ⟨gb288, 0, none⟩ = some (.bool x289000_18) ∧ w'.cell? ⟨gb288, 1, none⟩ = some (.int .i64 x289001_18) ∧ w'.cell? ⟨gb288, 2, none⟩ = some (.slice Ao35 x289002_18.length co35)) (ds := []) #[false, false, false, false, false, false, false, false, false] (by kernel_rfl) rfl rfl ⟨bc BK288 0, bc BK288 1, bc BK288 2⟩ (fun hHeld => ?_); refine with_tabW r4_Round.tab20 r4_Round.bits20 (fun HT_ HW_ => ?_)
             generalize w54.drew = w55 at HO_8 HO_289002 BK288 HB hHeld ⊢
             refine pure_ (i := 0) (N := some 78) (v := ?_) (a' := ?_) #[true, false, false, false, false, false, false, false, false] rfl rfl (any_of HT_.out (by kernel_rfl)) (fun _ _ _ h => h) (Or.inl ⟨by rfl, ?_⟩) ?_ ?_; rotate_left
             · intro w'
               go_simp
               with_reducible rfl
             rotate_left
             · exact APq
             refine pure_ (i := 2) (N := some 80) (v := ?_) (a' := ?_) #[true, false, true, false, false, false, false, false, false] rfl rfl (any_of HT_.out (by kernel_rfl)) (fun _ _ _ h => h) (Or.inl ⟨by rfl, ?_⟩) ?_ ?_; rotate_left
             · intro w'
               go_simp
               with_reducible rfl
             rotate_left
             · exact APq
             refine pure_ (i := 4) (N := some 82) (v := ?_) (a' := ?_) #[true, false, true, false, true, false, false, false, false] rfl rfl (any_of HT_.out (by kernel_rfl)) (fun _ _ _ h => h) (Or.inl ⟨by rfl, ?_⟩) ?_ ?_; rotate_left
             · intro w'
               go_simp
               with_reducible rfl
             rotate_left
             · exact APq
             refine take_ (i := 1) (N := some 79) (v := ?_) (a' := ?_) #[true, true, true, false, true, false, false, false, false] rfl rfl (take_ofW HT_.out HW_.out (by kernel_rfl)) (fun _ _ _ h => h) (Or.inl ⟨by rfl, ?_⟩) hHeld ?_ ?_; rotate_left
             · rintro w' ⟨s0, s1, s2⟩
               go_simp
               with_reducible rfl
             rotate_left
             · exact APq
             refine take_ (i := 5) (N := some 83) (v := ?_) (a' := ?_) #[true, true, true, false, true, true, false, false, false] rfl rfl (take_ofW HT_.out HW_.out (by kernel_rfl)) (fun _ _ _ h => h) (Or.inl ⟨by rfl, ?_⟩) hHeld ?_ ?_; rotate_left
             · rintro w' ⟨s0, s1, s2⟩
               go_simp
               with_reducible rfl
             rotate_left
             · exact APq
             refine one_ (i := 3) (N := some 81) #[true, true, true, true, true, true, false, false, false] rfl rfl (one_of HT_.out (by kernel_rfl)) (by decide) (fun K hK => ?_); refine goes_ Try.func56 (by kernel_rfl) rfl #[.bool x289000_18, .int .i64 x1_5] (by rfl) rfl rfl LMq ?_
             with_reducible refine (r4_over.calls x289000_18 x1_5 t306 _ A51.out).mono ?_
             rintro e w' ⟨rfl, ⟨nd, rfl⟩⟩; refine ⟨_, rfl, ?_⟩; refine hK.out _ _ ⟨bc BK288 0, bc BK288 1, bc BK288 2⟩ (fun hHeld => ?_); clear hK K; refine norm_ (a' := ?_) ?_ ?_; rotate_left
             · show Act.put _ (some 81) _ = _
               exact APq
             refine one_ (i := 6) (N := some 84) #[true, true, true, true, true, true, true, false, false] rfl rfl (one_of HT_.out (by kernel_rfl)) (by decide) (fun K hK => ?_); refine goes_ Try.func55 (by kernel_rfl) rfl #[.int .u64 t306, .bool x289000_18] (by rfl) rfl rfl LMq ?_
             with_reducible refine (r4_signed.calls t306 x289000_18 t307 _ A52.out).mono ?_
             rintro e w' ⟨rfl, ⟨nd, rfl⟩⟩; refine ⟨_, rfl, ?_⟩; refine hK.out _ _ ⟨bc BK288 0, bc BK288 1, bc BK288 2⟩ (fun hHeld => ?_); clear hK K; refine norm_ (a' := ?_) ?_ ?_; rotate_left
             · show Act.put _ (some 84) _ = _
               exact APq
             refine pure_ (i := 7) (N := some 4) (v := ?_) (a' := ?_) #[true, true, true, true, true, true, true, true, false] rfl rfl (any_of HT_.out (by kernel_rfl)) (fun _ _ _ h => h) (Or.inl ⟨by rfl, ?_⟩) ?_ ?_; rotate_left
             · intro w'
               go_simp
               with_reducible rfl
             rotate_left
             · exact APq
             refine pure_ (i := 8) (N := some 5) (v := ?_) (a' := ?_) #[true, true, true, true, true, true, true, true, true] rfl rfl (any_of HT_.out (by kernel_rfl)) (fun _ _ _ h => h) (Or.inl ⟨by rfl, ?_⟩) ?_ ?_; rotate_left
             · intro w'
               go_simp
               with_reducible rfl
             rotate_left
             · exact APq
             refine done_ (done_of HT_.out (by kernel_rfl)) ?_
             try go_wp2
             go_ret2
             exact ⟨by first | rfl | (simp [errW_none, errW_some] <;> rfl) | (simp [*, errW_none, errW_some] <;> rfl), kHs HB GE288⟩
           rw [if_neg c50] at H
           have c50b0 : decide (1024 < (wrap64 (t305 + (-1074)))) = false := decide_eq_false c50; clear c50; replace H := Option.bind_eq_some_iff.mp H; obtain ⟨t308, A560, H⟩ := H; replace H : (if t308 = 9007199254740992 then (r4_Round.j4 kj32 (wrap64 ((-1074) + 1)) x10_32 4503599627370496 x289000_18 x289001_18 x289002_18) else (r4_Round.j4 kj32 (-1074) x10_32 t308 x289000_18 x289001_18 x289002_18)) = some (r1, r2) := H; have A56 := Aside0.mk A560; clear A560; have HC57 := Aside0.mk H; clear H; obtain ⟨Ao58, co58, eo58⟩ := Kd.V_slice HO_8.out; subst eo58
           go_upto_if 88 with (first | ((with_reducible refine gate_callee (f := 31) rfl ?_); refine goesL_ (some 74) rfl rfl Try.func31 (by kernel_rfl) rfl #[.slice Ao58 t296.length co58] rfl LMq ?_; (with_reducible refine (r2_Len.calls kj32 _ _ t296 t305 _ ?side1 ?side2 A49.out).mono ?_); (case side1 => exact kC (Kd.V_reads' HO_8.out).2.2); (case side2 => exact (Kd.V_reads' HO_8.out).2.1); rintro e w59 ⟨rfl, hb⟩; refine ⟨_, rfl, ?_⟩; replace HO_8 := Aside0.mk (Kd.V_below (kV HO_8) hb); replace HO_289002 := Aside0.mk (Kd.V_below (kV HO_289002) hb); replace BK288 := Aside0.mk (blk_below (g := gb288) (o := .cells #[.bool x289000_18, .int .i64 x289001_18, .slice Ao35 x289002_18.length co35] 62 (0, 0)) (kB BK288) hb); replace HB := Aside0.mk (below_step (kHs HB GE288) hb); (try clear hb); (try clear hb2); (try clear hk); (try clear hi)) | ((with_reducible refine gate_callee (f := 58) rfl ?_); refine goesL_ (some 86) rfl rfl Try.func58 (by kernel_rfl) rfl #[.slice Ao58 t296.length co58] rfl LMq ?_; (with_reducible refine (r2_Low.calls kj32 _ _ t296 t308 _ ?side1 ?side2 A56.out).mono ?_); (case side1 => exact kC (Kd.V_reads' HO_8.out).2.2); (case side2 => exact (Kd.V_reads' HO_8.out).2.1); rintro e w60 ⟨rfl, hb⟩; refine ⟨_, rfl, ?_⟩; replace HO_8 := Aside0.mk (Kd.V_below (kV HO_8) hb); replace HO_289002 := Aside0.mk (Kd.V_below (kV HO_289002) hb); replace BK288 := Aside0.mk (blk_below (g := gb288) (o := .cells #[.bool x289000_18, .int .i64 x289001_18, .slice Ao35 x289002_18.length co35] 62 (0, 0)) (kB BK288) hb); replace HB := Aside0.mk (below_step (kHs HB GE288) hb); (try clear hb); (try clear hb2); (try clear hk); (try clear hi)))
           (try simp only [Act.put, List.setIfInBounds_toArray, List.set_cons_zero, List.set_cons_succ])
           go_cut [7, 13] (fun v7 v13 wc => ∃ (kq : Nat) (x7_56 : Int) (x13_56 : Int), v7 = .int .i64 x7_56 ∧ v13 = .int .u64 x13_56 ∧ Aside0 (r4_Round.j4 kq x7_56 x10_32 x13_56 x289000_18 x289001_18 x289002_18 = some (r1, r2)) ∧ Aside0 (kq ≤ kj32) ∧ Aside0 (Kd.V (Kd.int .u32) 86 wc w.heap.size (fun k_ => (P0_2_ k_ ∨ w.heap.size ≤ k_) ∧ k_ ≠ gb288) (.slice Ao35 x289002_18.length co35) x289002_18) ∧ Aside0 (wc.heap[gb288]? = some (.cells #[.bool x289000_18, .int .i64 x289001_18, (.slice Ao35 x289002_18.length co35)] 62 (0, 0))) ∧ Aside0 (Below w.heap.size w wc))
           case first =>
            have H := HC57.out; clear HC57
            by_cases c61 : t308 = 9007199254740992
            · rw [if_pos c61] at H
              have c61b0 : (t308 == 9007199254740992) = true := beq_iff_eq.mpr c61; have c61b1 : (t308 != 9007199254740992) = false := bne_eq_false_iff_eq.mpr c61; clear c61
              (first | rw [c61b0] | (simp only [i64_w, i32_w]; rw [c61b0]) | skip)
              have H' := Aside0.mk H; clear H
              go_wp2
              go_meet
              case rel => exact ⟨_, (wrap64 ((-1074) + 1)), (4503599627370496), RSq, RSq, (by first | exact H' | (subst_vars; exact H')), ⟨by have := HJ2.out; have := HJ5.out; have := HJ18.out; have := HJ32.out; first | omega | exact Nat.le_refl _⟩, ⟨kV HO_289002⟩, ⟨kB BK288⟩, ⟨kHs HB GE288⟩⟩
            rw [if_neg c61] at H
            have c61b0 : (t308 == 9007199254740992) = false := beq_eq_false_iff_ne.mpr c61; have c61b1 : (t308 != 9007199254740992) = true := bne_iff_ne.mpr c61
            (first | rw [c61b0] | (simp only [i64_w, i32_w]; rw [c61b0]) | skip)
            have H' := Aside0.mk H; clear H
            go_wp2
            go_meet
            case rel => exact ⟨_, ((-1074)), (t308), RSq, RSq, (by first | exact H' | (subst_vars; exact H')), ⟨by have := HJ2.out; have := HJ5.out; have := HJ18.out; have := HJ32.out; first | omega | exact Nat.le_refl _⟩, ⟨kV HO_289002⟩, ⟨kB BK288⟩, ⟨kHs HB GE288⟩⟩
           case rest =>
            clear HC57; (try clear c1); (try clear c2); (try clear p2); (try clear c3); (try clear c4); (try clear c5); (try clear c5b0); (try clear c6); (try clear p6); (try clear c7); (try clear c8); (try clear c8b0); (try clear c8b1); (try clear c8b2); (try clear c12); (try clear c12b0); (try clear c23); (try clear c23b0); (try clear c27); (try clear c29); (try clear c31); (try clear c31b0); (try clear c37); (try clear c40); (try clear c40b0); (try clear c50); (try clear c50b0); (try clear c55); (try clear c56); (try clear c57); (try clear c58); (try clear c61); (try clear c61b0); (try clear c61b1); (try clear hcz10_0 hcz10_1 hcz10_2); (try clear hcz15_0 hcz15_1 hcz15_2); (try clear hcz20_0 hcz20_1 hcz20_2); (try clear hcz34_0 hcz34_1 hcz34_2); (try clear hcz41_0 hcz41_1 hcz41_2); (try clear hcz45_0 hcz45_1 hcz45_2); (try clear hfz10_0 hfz10_1 hfz10_2); (try clear hfz15_0 hfz15_1 hfz15_2); (try clear hfz20_0 hfz20_1 hfz20_2); (try clear hfz34_0 hfz34_1 hfz34_2); (try clear hfz41_0 hfz41_1 hfz41_2); (try clear hfz45_0 hfz45_1 hfz45_2); (try clear p2); (try clear p6); obtain ⟨kq, x7_56, x13_56, rfl, rfl, HA, HJ56, HO_289002, BK288, HB⟩ := hcut
            cases kq with
            | zero => exact absurd HA.out (by simp [r4_Round.j4])
            | succ kj56 =>
             have H := HA.out; clear HA
             simp only [r4_Round.j4] at H
             by_cases c62 : x13_56 ≥ 4503599627370496
             · rw [if_pos c62] at H
               have c62b0 : decide (4503599627370496 ≤ x13_56) = true := decide_eq_true c62; clear c62; replace H := Option.bind_eq_some_iff.mp H; obtain ⟨t309, A630, H⟩ := H; replace H : (some (t309, x10_32)) = some (r1, r2) := H; have A63 := Aside0.mk A630; clear A630
               simp only [Option.some.injEq, Prod.mk.injEq] at H
               obtain ⟨rfl, rfl⟩ := H; have hcz64_0 : wc.cell? ⟨gb288, 0, none⟩ = some (.bool x289000_18) := bc BK288 0; have hcz64_1 : wc.cell? ⟨gb288, 1, none⟩ = some (.int .i64 x289001_18) := bc BK288 1; have hcz64_2 : wc.cell? ⟨gb288, 2, none⟩ = some (.slice Ao35 x289002_18.length co35) := bc BK288 2; have hfz64_0 := blk_frozen BK288.out 0; have hfz64_1 := blk_frozen BK288.out 1; have hfz64_2 := blk_frozen BK288.out 2
               go_wp2_with (first | ((with_reducible refine gate_callee (f := 55) rfl ?_); refine goesL_ (some 102) rfl rfl Try.func55 (by kernel_rfl) rfl #[.int .u64 (IntKind.u64.wrap ((IntKind.u64.wrap ((IntKind.u64.wrap ((IntKind.u64.wrap (wrap64 (x7_56 + 1075))) * 4503599627370496)) + x13_56)) - 4503599627370496)), .bool x289000_18] rfl LMq ?_; (with_reducible refine (r4_signed.calls (IntKind.u64.wrap ((IntKind.u64.wrap ((IntKind.u64.wrap ((IntKind.u64.wrap (wrap64 (x7_56 + 1075))) * 4503599627370496)) + x13_56)) - 4503599627370496)) x289000_18 t309 _ A63.out).mono ?_); rintro e w' ⟨rfl, ⟨nd, rfl⟩⟩; refine ⟨_, rfl, ?_⟩))
               go_ret2
               exact ⟨by first | rfl | (simp [errW_none, errW_some] <;> rfl) | (simp [*, errW_none, errW_some] <;> rfl), kHs HB GE288⟩
             rw [if_neg c62] at H
             have c62b0 : decide (4503599627370496 ≤ x13_56) = false := decide_eq_false c62; clear c62; replace H := Option.bind_eq_some_iff.mp H; obtain ⟨t310, A650, H⟩ := H; replace H : (some (t310, x10_32)) = some (r1, r2) := H; have A65 := Aside0.mk A650; clear A650
             simp only [Option.some.injEq, Prod.mk.injEq] at H
             obtain ⟨rfl, rfl⟩ := H; have hcz66_0 : wc.cell? ⟨gb288, 0, none⟩ = some (.bool x289000_18) := bc BK288 0; have hcz66_1 : wc.cell? ⟨gb288, 1, none⟩ = some (.int .i64 x289001_18) := bc BK288 1; have hcz66_2 : wc.cell? ⟨gb288, 2, none⟩ = some (.slice Ao35 x289002_18.length co35) := bc BK288 2; have hfz66_0 := blk_frozen BK288.out 0; have hfz66_1 := blk_frozen BK288.out 1; have hfz66_2 := blk_frozen BK288.out 2
             go_wp2_with (first | ((with_reducible refine gate_callee (f := 55) rfl ?_); refine goesL_ (some 107) rfl rfl Try.func55 (by kernel_rfl) rfl #[.int .u64 x13_56, .bool x289000_18] rfl LMq ?_; (with_reducible refine (r4_signed.calls x13_56 x289000_18 t310 _ A65.out).mono ?_); rintro e w' ⟨rfl, ⟨nd, rfl⟩⟩; refine ⟨_, rfl, ?_⟩))
             go_ret2
             exact ⟨by first | rfl | (simp [errW_none, errW_some] <;> rfl) | (simp [*, errW_none, errW_some] <;> rfl), kHs HB GE288⟩
       rw [if_neg c31] at H
       have c31i := eq_false c31; have c31b0 : decide ((wrap64 (x6_18 - 53)) < (-1074)) = false := decide_eq_false c31; clear c31; replace H := Option.bind_eq_some_iff.mp H; obtain ⟨⟨t311, t314⟩, A670, H⟩ := H; replace H : (if t314 = true then ((r4_To.f kj18 x289000_18 x289001_18 x289002_18 (wrap64 (x6_18 - 53)) x1_5).bind fun bt315 => ((r2_Len.f kj18 bt315.1).bind fun t319 => (if (wrap64 ((wrap64 (t319 + x6_18)) - 53)) ≤ (-1022) then (r4_Round.j5 kj18 x1_5 (wrap64 (x6_18 - 53)) t311 24 x289000_18 x289001_18 x289002_18) else (r4_Round.j5 kj18 x1_5 (wrap64 (x6_18 - 53)) t311 16 x289000_18 x289001_18 x289002_18)))) else (r4_Round.j5 kj18 x1_5 (wrap64 (x6_18 - 53)) t311 0 x289000_18 x289001_18 x289002_18)) = some (r1, r2) := H; have A67 := Aside0.mk A670; clear A670; have HC68 := Aside0.mk H; clear H; have hcz69_0 : wc.cell? ⟨gb288, 0, none⟩ = some (.bool x289000_18) := bc BK288 0; have hcz69_1 : wc.cell? ⟨gb288, 1, none⟩ = some (.int .i64 x289001_18) := bc BK288 1; have hcz69_2 : wc.cell? ⟨gb288, 2, none⟩ = some (u289002) := bc BK288 2; have hfz69_0 := blk_frozen BK288.out 0; have hfz69_1 := blk_frozen BK288.out 1; have hfz69_2 := blk_frozen BK288.out 2; obtain ⟨Ao70, co70, eo70⟩ := Kd.V_slice HO_289002.out; subst eo70
       go_upto_if 58 with (first | ((with_reducible refine gate_callee (f := 57) rfl ?_); refine goesL_ (some 55) rfl rfl Try.func57 (by kernel_rfl) rfl #[.agg #[.bool x289000_18, .int .i64 x289001_18, .slice Ao70 x289002_18.length co70], .int .i64 (wrap64 (x6_18 - 53)), .int .i64 x1_5] rfl LMq ?_; (with_reducible refine (r4_To.calls kj18 x289000_18 x289001_18 (fun k_ => ((P0_2_ k_ ∨ w.heap.size ≤ k_) ∧ k_ ≠ gb288)) _ _ x289002_18 (wrap64 (x6_18 - 53)) x1_5 t311 t314 _ ?side1 A67.out).mono ?_); (case side1 => exact HO_289002.out); rintro e w71 ⟨v312, rfl, ho0, hb⟩; refine ⟨_, rfl, ?_⟩; replace HO_289002 := Aside0.mk (Kd.V_below (kV HO_289002) hb); have HO313 := Aside0.mk (Kd.V_lower (Kd.V_mono (ok' := fun k_ => (P0_2_ k_ ∨ w.heap.size ≤ k_) ∧ k_ ≠ gb288) ho0 (fun k_ hk_ => ⟨Or.elim hk_ (fun hs_ => hs_.1) (fun hn_ => (.inr (Nat.le_trans (below_size (kHs HB GE288)) hn_))), Or.elim hk_ (fun hs_ => hs_.2) (fun hn_ => (Kd.freshB (g := gb288) (o := .cells #[.bool x289000_18, .int .i64 x289001_18, .slice Ao70 x289002_18.length co70] 62 (0, 0)) (kB BK288) k_ hn_))⟩)) (below_size (kHs HB GE288))); replace BK288 := Aside0.mk (blk_below (g := gb288) (o := .cells #[.bool x289000_18, .int .i64 x289001_18, .slice Ao70 x289002_18.length co70] 62 (0, 0)) (kB BK288) hb); replace HB := Aside0.mk (below_step (kHs HB GE288) hb); (try clear hb); (try clear hb2); (try clear hk); (try clear hi); (try clear ho0)))
       (try simp only [Act.put, List.setIfInBounds_toArray, List.set_cons_zero, List.set_cons_succ])
       go_cut [10] (fun v10 wc => ∃ (kq : Nat) (x10_67 : Int), v10 = .int .i64 x10_67 ∧ Aside0 (r4_Round.j5 kq x1_5 (wrap64 (x6_18 - 53)) t311 x10_67 x289000_18 x289001_18 x289002_18 = some (r1, r2)) ∧ Aside0 (kq ≤ kj18) ∧ Aside0 (Kd.V (Kd.int .u32) 86 wc w.heap.size (fun k_ => (P0_2_ k_ ∨ w.heap.size ≤ k_) ∧ k_ ≠ gb288) v312 t311) ∧ Aside0 (Kd.V (Kd.int .u32) 86 wc w.heap.size (fun k_ => (P0_2_ k_ ∨ w.heap.size ≤ k_) ∧ k_ ≠ gb288) (.slice Ao70 x289002_18.length co70) x289002_18) ∧ Aside0 (wc.heap[gb288]? = some (.cells #[.bool x289000_18, .int .i64 x289001_18, (.slice Ao70 x289002_18.length co70)] 62 (0, 0))) ∧ Aside0 (Below w.heap.size w wc))
       case first =>
        have H := HC68.out; clear HC68
        by_cases c72 : t314 = true
        · subst c72
          have H1 : ((r4_To.f kj18 x289000_18 x289001_18 x289002_18 (wrap64 (x6_18 - 53)) x1_5).bind fun bt315 => ((r2_Len.f kj18 bt315.1).bind fun t319 => (if (wrap64 ((wrap64 (t319 + x6_18)) - 53)) ≤ (-1022) then (r4_Round.j5 kj18 x1_5 (wrap64 (x6_18 - 53)) t311 24 x289000_18 x289001_18 x289002_18) else (r4_Round.j5 kj18 x1_5 (wrap64 (x6_18 - 53)) t311 16 x289000_18 x289001_18 x289002_18)))) = some (r1, r2) := by rw [if_pos rfl] at H; exact H
          clear H; have H := H1; clear H1; replace H := Option.bind_eq_some_iff.mp H; obtain ⟨⟨t315, t318⟩, A730, H⟩ := H; replace H : ((r2_Len.f kj18 t315).bind fun t319 => (if (wrap64 ((wrap64 (t319 + x6_18)) - 53)) ≤ (-1022) then (r4_Round.j5 kj18 x1_5 (wrap64 (x6_18 - 53)) t311 24 x289000_18 x289001_18 x289002_18) else (r4_Round.j5 kj18 x1_5 (wrap64 (x6_18 - 53)) t311 16 x289000_18 x289001_18 x289002_18))) = some (r1, r2) := H; have A73 := Aside0.mk A730; clear A730; replace H := Option.bind_eq_some_iff.mp H; obtain ⟨t319, A740, H⟩ := H; replace H : (if (wrap64 ((wrap64 (t319 + x6_18)) - 53)) ≤ (-1022) then (r4_Round.j5 kj18 x1_5 (wrap64 (x6_18 - 53)) t311 24 x289000_18 x289001_18 x289002_18) else (r4_Round.j5 kj18 x1_5 (wrap64 (x6_18 - 53)) t311 16 x289000_18 x289001_18 x289002_18)) = some (r1, r2) := H; have A74 := Aside0.mk A740; clear A740
          by_cases c75 : (wrap64 ((wrap64 (t319 + x6_18)) - 53)) ≤ (-1022)
          · rw [if_pos c75] at H
            have c75b0 : decide ((wrap64 ((wrap64 (t319 + x6_18)) - 53)) ≤ (-1022)) = true := decide_eq_true c75; clear c75
            (first | rw [c75b0] | (simp only [i64_w, i32_w]; rw [c75b0]) | skip)
            have H' := Aside0.mk H; clear H; have hcz76_0 : w71.cell? ⟨gb288, 0, none⟩ = some (.bool x289000_18) := bc BK288 0; have hcz76_1 : w71.cell? ⟨gb288, 1, none⟩ = some (.int .i64 x289001_18) := bc BK288 1; have hcz76_2 : w71.cell? ⟨gb288, 2, none⟩ = some (.slice Ao70 x289002_18.length co70) := bc BK288 2; have hfz76_0 := blk_frozen BK288.out 0; have hfz76_1 := blk_frozen BK288.out 1; have hfz76_2 := blk_frozen BK288.out 2
            go_wp2_with (first | ((with_reducible refine gate_callee (f := 57) rfl ?_); refine goesL_ (some 64) rfl rfl Try.func57 (by kernel_rfl) rfl #[.agg #[.bool x289000_18, .int .i64 x289001_18, .slice Ao70 x289002_18.length co70], .int .i64 (wrap64 (x6_18 - 53)), .int .i64 x1_5] rfl LMq ?_; (with_reducible refine (r4_To.calls kj18 x289000_18 x289001_18 (fun k_ => ((P0_2_ k_ ∨ w.heap.size ≤ k_) ∧ k_ ≠ gb288)) _ _ x289002_18 (wrap64 (x6_18 - 53)) x1_5 t315 t318 _ ?side1 A73.out).mono ?_); (case side1 => exact HO_289002.out); rintro e w77 ⟨v316, rfl, ho0, hb⟩; refine ⟨_, rfl, ?_⟩; replace HO_289002 := Aside0.mk (Kd.V_below (kV HO_289002) hb); replace HO313 := Aside0.mk (Kd.V_below (kV HO313) hb); have HO317 := Aside0.mk (Kd.V_lower (Kd.V_mono (ok' := fun k_ => (P0_2_ k_ ∨ w.heap.size ≤ k_) ∧ k_ ≠ gb288) ho0 (fun k_ hk_ => ⟨Or.elim hk_ (fun hs_ => hs_.1) (fun hn_ => (.inr (Nat.le_trans (below_size (kHs HB GE288)) hn_))), Or.elim hk_ (fun hs_ => hs_.2) (fun hn_ => (Kd.freshB (g := gb288) (o := .cells #[.bool x289000_18, .int .i64 x289001_18, .slice Ao70 x289002_18.length co70] 62 (0, 0)) (kB BK288) k_ hn_))⟩)) (below_size (kHs HB GE288))); replace BK288 := Aside0.mk (blk_below (g := gb288) (o := .cells #[.bool x289000_18, .int .i64 x289001_18, .slice Ao70 x289002_18.length co70] 62 (0, 0)) (kB BK288) hb); replace HB := Aside0.mk (below_step (kHs HB GE288) hb); (try clear hb); (try clear hb2); (try clear hk); (try clear hi); (try clear ho0); obtain ⟨Ao78, co78, eo78⟩ := Kd.V_slice HO317.out; subst eo78) | ((with_reducible refine gate_callee (f := 31) rfl ?_); refine goesL_ (some 68) rfl rfl Try.func31 (by kernel_rfl) rfl #[.slice Ao78 t315.length co78] rfl LMq ?_; (with_reducible refine (r2_Len.calls kj18 _ _ t315 t319 _ ?side1 ?side2 A74.out).mono ?_); (case side1 => exact kC (Kd.V_reads' HO317.out).2.2); (case side2 => exact (Kd.V_reads' HO317.out).2.1); rintro e w79 ⟨rfl, hb⟩; refine ⟨_, rfl, ?_⟩; replace HO_289002 := Aside0.mk (Kd.V_below (kV HO_289002) hb); replace HO313 := Aside0.mk (Kd.V_below (kV HO313) hb); replace HO317 := Aside0.mk (Kd.V_below (kV HO317) hb); replace BK288 := Aside0.mk (blk_below (g := gb288) (o := .cells #[.bool x289000_18, .int .i64 x289001_18, .slice Ao70 x289002_18.length co70] 62 (0, 0)) (kB BK288) hb); replace HB := Aside0.mk (below_step (kHs HB GE288) hb); (try clear hb); (try clear hb2); (try clear hk); (try clear hi)))
            go_meet
            case rel => exact ⟨_, (24), RSq, (by first | exact H' | (subst_vars; exact H')), ⟨by have := HJ2.out; have := HJ5.out; have := HJ18.out; first | omega | exact Nat.le_refl _⟩, ⟨kV HO313⟩, ⟨kV HO_289002⟩, ⟨kB BK288⟩, ⟨kHs HB GE288⟩⟩
          rw [if_neg c75] at H
          have c75b0 : decide ((wrap64 ((wrap64 (t319 + x6_18)) - 53)) ≤ (-1022)) = false := decide_eq_false c75; clear c75
          (first | rw [c75b0] | (simp only [i64_w, i32_w]; rw [c75b0]) | skip)
          have H' := Aside0.mk H; clear H; have hcz80_0 : w71.cell? ⟨gb288, 0, none⟩ = some (.bool x289000_18) := bc BK288 0; have hcz80_1 : w71.cell? ⟨gb288, 1, none⟩ = some (.int .i64 x289001_18) := bc BK288 1; have hcz80_2 : w71.cell? ⟨gb288, 2, none⟩ = some (.slice Ao70 x289002_18.length co70) := bc BK288 2; have hfz80_0 := blk_frozen BK288.out 0; have hfz80_1 := blk_frozen BK288.out 1; have hfz80_2 := blk_frozen BK288.out 2
          go_wp2_with (first | ((with_reducible refine gate_callee (f := 57) rfl ?_); refine goesL_ (some 64) rfl rfl Try.func57 (by kernel_rfl) rfl #[.agg #[.bool x289000_18, .int .i64 x289001_18, .slice Ao70 x289002_18.length co70], .int .i64 (wrap64 (x6_18 - 53)), .int .i64 x1_5] rfl LMq ?_; (with_reducible refine (r4_To.calls kj18 x289000_18 x289001_18 (fun k_ => ((P0_2_ k_ ∨ w.heap.size ≤ k_) ∧ k_ ≠ gb288)) _ _ x289002_18 (wrap64 (x6_18 - 53)) x1_5 t315 t318 _ ?side1 A73.out).mono ?_); (case side1 => exact HO_289002.out); rintro e w81 ⟨v316, rfl, ho0, hb⟩; refine ⟨_, rfl, ?_⟩; replace HO_289002 := Aside0.mk (Kd.V_below (kV HO_289002) hb); replace HO313 := Aside0.mk (Kd.V_below (kV HO313) hb); have HO317 := Aside0.mk (Kd.V_lower (Kd.V_mono (ok' := fun k_ => (P0_2_ k_ ∨ w.heap.size ≤ k_) ∧ k_ ≠ gb288) ho0 (fun k_ hk_ => ⟨Or.elim hk_ (fun hs_ => hs_.1) (fun hn_ => (.inr (Nat.le_trans (below_size (kHs HB GE288)) hn_))), Or.elim hk_ (fun hs_ => hs_.2) (fun hn_ => (Kd.freshB (g := gb288) (o := .cells #[.bool x289000_18, .int .i64 x289001_18, .slice Ao70 x289002_18.length co70] 62 (0, 0)) (kB BK288) k_ hn_))⟩)) (below_size (kHs HB GE288))); replace BK288 := Aside0.mk (blk_below (g := gb288) (o := .cells #[.bool x289000_18, .int .i64 x289001_18, .slice Ao70 x289002_18.length co70] 62 (0, 0)) (kB BK288) hb); replace HB := Aside0.mk (below_step (kHs HB GE288) hb); (try clear hb); (try clear hb2); (try clear hk); (try clear hi); (try clear ho0); obtain ⟨Ao82, co82, eo82⟩ := Kd.V_slice HO317.out; subst eo82) | ((with_reducible refine gate_callee (f := 31) rfl ?_); refine goesL_ (some 68) rfl rfl Try.func31 (by kernel_rfl) rfl #[.slice Ao82 t315.length co82] rfl LMq ?_; (with_reducible refine (r2_Len.calls kj18 _ _ t315 t319 _ ?side1 ?side2 A74.out).mono ?_); (case side1 => exact kC (Kd.V_reads' HO317.out).2.2); (case side2 => exact (Kd.V_reads' HO317.out).2.1); rintro e w83 ⟨rfl, hb⟩; refine ⟨_, rfl, ?_⟩; replace HO_289002 := Aside0.mk (Kd.V_below (kV HO_289002) hb); replace HO313 := Aside0.mk (Kd.V_below (kV HO313) hb); replace HO317 := Aside0.mk (Kd.V_below (kV HO317) hb); replace BK288 := Aside0.mk (blk_below (g := gb288) (o := .cells #[.bool x289000_18, .int .i64 x289001_18, .slice Ao70 x289002_18.length co70] 62 (0, 0)) (kB BK288) hb); replace HB := Aside0.mk (below_step (kHs HB GE288) hb); (try clear hb); (try clear hb2); (try clear hk); (try clear hi)))
          go_meet
          case rel => exact ⟨_, (16), RSq, (by first | exact H' | (subst_vars; exact H')), ⟨by have := HJ2.out; have := HJ5.out; have := HJ18.out; first | omega | exact Nat.le_refl _⟩, ⟨kV HO313⟩, ⟨kV HO_289002⟩, ⟨kB BK288⟩, ⟨kHs HB GE288⟩⟩
        replace c72 := Bool.eq_false_iff.mpr c72; subst c72
        have H1 : (r4_Round.j5 kj18 x1_5 (wrap64 (x6_18 - 53)) t311 0 x289000_18 x289001_18 x289002_18) = some (r1, r2) := by rw [if_neg (show ¬ (false = true) by decide)] at H; exact H
        clear H; have H := H1; clear H1; have H' := Aside0.mk H; clear H
        go_wp2
        go_meet
        case rel => exact ⟨_, (0), RSq, (by first | exact H' | (subst_vars; exact H')), ⟨by have := HJ2.out; have := HJ5.out; have := HJ18.out; first | omega | exact Nat.le_refl _⟩, ⟨kV HO313⟩, ⟨kV HO_289002⟩, ⟨kB BK288⟩, ⟨kHs HB GE288⟩⟩
       case rest =>
        clear HC68; (try clear c1); (try clear c2); (try clear p2); (try clear c3); (try clear c4); (try clear c5); (try clear c5b0); (try clear c6); (try clear p6); (try clear c7); (try clear c8); (try clear c8b0); (try clear c8b1); (try clear c8b2); (try clear c12); (try clear c12b0); (try clear c23); (try clear c23b0); (try clear c27); (try clear c29); (try clear c31); (try clear c31b0); (try clear c37); (try clear c40); (try clear c40b0); (try clear c50); (try clear c50b0); (try clear c55); (try clear c56); (try clear c57); (try clear c58); (try clear c61); (try clear c61b0); (try clear c61b1); (try clear c62); (try clear c62b0); (try clear p64); (try clear c72); (try clear c75); (try clear c75b0); (try clear hcz10_0 hcz10_1 hcz10_2); (try clear hcz15_0 hcz15_1 hcz15_2); (try clear hcz20_0 hcz20_1 hcz20_2); (try clear hcz34_0 hcz34_1 hcz34_2); (try clear hcz41_0 hcz41_1 hcz41_2); (try clear hcz45_0 hcz45_1 hcz45_2); (try clear hcz64_0 hcz64_1 hcz64_2); (try clear hcz66_0 hcz66_1 hcz66_2); (try clear hcz69_0 hcz69_1 hcz69_2); (try clear hcz76_0 hcz76_1 hcz76_2); (try clear hcz80_0 hcz80_1 hcz80_2); (try clear hfz10_0 hfz10_1 hfz10_2); (try clear hfz15_0 hfz15_1 hfz15_2); (try clear hfz20_0 hfz20_1 hfz20_2); (try clear hfz34_0 hfz34_1 hfz34_2); (try clear hfz41_0 hfz41_1 hfz41_2); (try clear hfz45_0 hfz45_1 hfz45_2); (try clear hfz64_0 hfz64_1 hfz64_2); (try clear hfz66_0 hfz66_1 hfz66_2); (try clear hfz69_0 hfz69_1 hfz69_2); (try clear hfz76_0 hfz76_1 hfz76_2); (try clear hfz80_0 hfz80_1 hfz80_2); (try clear p2); (try clear p6); obtain ⟨kq, x10_67, rfl, HA, HJ67, HO_8, HO_289002, BK288, HB⟩ := hcut
        cases kq with
        | zero => exact absurd HA.out (by simp [r4_Round.j5])
        | succ kj67 =>
         have H := HA.out; clear HA
         simp only [r4_Round.j5] at H
         replace H := Option.bind_eq_some_iff.mp H; obtain ⟨t320, A840, H⟩ := H; replace H : (if (wrap64 (t320 + (wrap64 (x6_18 - 53)))) > 1024 then ((r4_over.f x289000_18 x1_5).bind fun t321 => ((r4_signed.f t321 x289000_18).bind fun t322 => (some (t322, 20)))) else ((r2_Low.f kj67 t311).bind fun t323 => (if t323 = 9007199254740992 then (r4_Round.j6 kj67 (wrap64 ((wrap64 (x6_18 - 53)) + 1)) x10_67 4503599627370496 x289000_18 x289001_18 x289002_18) else (r4_Round.j6 kj67 (wrap64 (x6_18 - 53)) x10_67 t323 x289000_18 x289001_18 x289002_18)))) = some (r1, r2) := H; have A84 := Aside0.mk A840; clear A840
         by_cases c85 : (wrap64 (t320 + (wrap64 (x6_18 - 53)))) > 1024
         · rw [if_pos c85] at H
           have c85b0 : decide (1024 < (wrap64 (t320 + (wrap64 (x6_18 - 53))))) = true := decide_eq_true c85; clear c85; replace H := Option.bind_eq_some_iff.mp H; obtain ⟨t321, A860, H⟩ := H; replace H : ((r4_signed.f t321 x289000_18).bind fun t322 => (some (t322, 20))) = some (r1, r2) := H; have A86 := Aside0.mk A860; clear A860; replace H := Option.bind_eq_some_iff.mp H; obtain ⟨t322, A870, H⟩ := H; replace H : (some (t322, 20)) = some (r1, r2) := H; have A87 := Aside0.mk A870; clear A870
           simp only [Option.some.injEq, Prod.mk.injEq] at H
           obtain ⟨rfl, rfl⟩ := H; obtain ⟨Ao88, co88, eo88⟩ := Kd.V_slice HO_8.out; subst eo88
           try go_wp2_with (first | ((with_reducible refine gate_callee (f := 31) rfl ?_); refine goesL_ (some 74) rfl rfl Try.func31 (by kernel_rfl) rfl #[.slice Ao88 t311.length co88] rfl LMq ?_; (with_reducible refine (r2_Len.calls kj67 _ _ t311 t320 _ ?side1 ?side2 A84.out).mono ?_); (case side1 => exact kC (Kd.V_reads' HO_8.out).2.2); (case side2 => exact (Kd.V_reads' HO_8.out).2.1); rintro e w89 ⟨rfl, hb⟩; refine ⟨_, rfl, ?_⟩; replace HO_8 := Aside0.mk (Kd.V_below (kV HO_8) hb); replace HO_289002 := Aside0.mk (Kd.V_below (kV HO_289002) hb); replace BK288 := Aside0.mk (blk_below (g := gb288) (o := .cells #[.bool x289000_18, .int .i64 x289001_18, .slice Ao70 x289002_18.length co70] 62 (0, 0)) (kB BK288) hb); replace HB := Aside0.mk (below_step (kHs HB GE288) hb); (try clear hb); (try clear hb2); (try clear hk); (try clear hi)))
           replace HO_8 := Aside0.mk (Kd.V_drew HO_8.out); replace HO_289002 := Aside0.mk (Kd.V_drew HO_289002.out); replace BK288 := Aside0.mk (blk_drew BK288.out); replace HB := Aside0.mk (below_drew1 HB.out); refine start_ (n := 9) (S := fun w' => w'.cell? ⟨gb288, 0, none⟩ = some (.bool x289000_18) ∧ w'.cell? ⟨gb288, 1, none⟩ = some (.int .i64 x289001_18) ∧ w'.cell? ⟨gb288, 2, none⟩ = some (.slice Ao70 x289002_18.length co70)) (ds := []) #[false, false, false, false, false, false, false, false, false] (by kernel_rfl) rfl rfl ⟨bc BK288 0, bc BK288 1, bc BK288 2⟩ (fun hHeld => ?_); refine with_tabW r4_Round.tab20 r4_Round.bits20 (fun HT_ HW_ => ?_)
           generalize w89.drew = w90 at HO_8 HO_289002 BK288 HB hHeld ⊢
           refine pure_ (i := 0) (N := some 78) (v := ?_) (a' := ?_) #[true, false, false, false, false, false, false, false, false] rfl rfl (any_of HT_.out (by kernel_rfl)) (fun _ _ _ h => h) (Or.inl ⟨by rfl, ?_⟩) ?_ ?_; rotate_left
           · intro w'
             go_simp
             with_reducible rfl
           rotate_left
           · exact APq
           refine pure_ (i := 2) (N := some 80) (v := ?_) (a' := ?_) #[true, false, true, false, false, false, false, false, false] rfl rfl (any_of HT_.out (by kernel_rfl)) (fun _ _ _ h => h) (Or.inl ⟨by rfl, ?_⟩) ?_ ?_; rotate_left
           · intro w'
             go_simp
             with_reducible rfl
           rotate_left
           · exact APq
           refine pure_ (i := 4) (N := some 82) (v := ?_) (a' := ?_) #[true, false, true, false, true, false, false, false, false] rfl rfl (any_of HT_.out (by kernel_rfl)) (fun _ _ _ h => h) (Or.inl ⟨by rfl, ?_⟩) ?_ ?_; rotate_left
           · intro w'
             go_simp
             with_reducible rfl
           rotate_left
           · exact APq
           refine take_ (i := 1) (N := some 79) (v := ?_) (a' := ?_) #[true, true, true, false, true, false, false, false, false] rfl rfl (take_ofW HT_.out HW_.out (by kernel_rfl)) (fun _ _ _ h => h) (Or.inl ⟨by rfl, ?_⟩) hHeld ?_ ?_; rotate_left
           · rintro w' ⟨s0, s1, s2⟩
             go_simp
             with_reducible rfl
           rotate_left
           · exact APq
           refine take_ (i := 5) (N := some 83) (v := ?_) (a' := ?_) #[true, true, true, false, true, true, false, false, false] rfl rfl (take_ofW HT_.out HW_.out (by kernel_rfl)) (fun _ _ _ h => h) (Or.inl ⟨by rfl, ?_⟩) hHeld ?_ ?_; rotate_left
           · rintro w' ⟨s0, s1, s2⟩
             go_simp
             with_reducible rfl
           rotate_left
           · exact APq
           refine one_ (i := 3) (N := some 81) #[true, true, true, true, true, true, false, false, false] rfl rfl (one_of HT_.out (by kernel_rfl)) (by decide) (fun K hK => ?_); refine goes_ Try.func56 (by kernel_rfl) rfl #[.bool x289000_18, .int .i64 x1_5] (by rfl) rfl rfl LMq ?_
           with_reducible refine (r4_over.calls x289000_18 x1_5 t321 _ A86.out).mono ?_
           rintro e w' ⟨rfl, ⟨nd, rfl⟩⟩; refine ⟨_, rfl, ?_⟩; refine hK.out _ _ ⟨bc BK288 0, bc BK288 1, bc BK288 2⟩ (fun hHeld => ?_); clear hK K; refine norm_ (a' := ?_) ?_ ?_; rotate_left
           · show Act.put _ (some 81) _ = _
             exact APq
           refine one_ (i := 6) (N := some 84) #[true, true, true, true, true, true, true, false, false] rfl rfl (one_of HT_.out (by kernel_rfl)) (by decide) (fun K hK => ?_); refine goes_ Try.func55 (by kernel_rfl) rfl #[.int .u64 t321, .bool x289000_18] (by rfl) rfl rfl LMq ?_
           with_reducible refine (r4_signed.calls t321 x289000_18 t322 _ A87.out).mono ?_
           rintro e w' ⟨rfl, ⟨nd, rfl⟩⟩; refine ⟨_, rfl, ?_⟩; refine hK.out _ _ ⟨bc BK288 0, bc BK288 1, bc BK288 2⟩ (fun hHeld => ?_); clear hK K; refine norm_ (a' := ?_) ?_ ?_; rotate_left
           · show Act.put _ (some 84) _ = _
             exact APq
           refine pure_ (i := 7) (N := some 4) (v := ?_) (a' := ?_) #[true, true, true, true, true, true, true, true, false] rfl rfl (any_of HT_.out (by kernel_rfl)) (fun _ _ _ h => h) (Or.inl ⟨by rfl, ?_⟩) ?_ ?_; rotate_left
           · intro w'
             go_simp
             with_reducible rfl
           rotate_left
           · exact APq
           refine pure_ (i := 8) (N := some 5) (v := ?_) (a' := ?_) #[true, true, true, true, true, true, true, true, true] rfl rfl (any_of HT_.out (by kernel_rfl)) (fun _ _ _ h => h) (Or.inl ⟨by rfl, ?_⟩) ?_ ?_; rotate_left
           · intro w'
             go_simp
             with_reducible rfl
           rotate_left
           · exact APq
           refine done_ (done_of HT_.out (by kernel_rfl)) ?_
           try go_wp2
           go_ret2
           exact ⟨by first | rfl | (simp [errW_none, errW_some] <;> rfl) | (simp [*, errW_none, errW_some] <;> rfl), kHs HB GE288⟩
         rw [if_neg c85] at H
         have c85b0 : decide (1024 < (wrap64 (t320 + (wrap64 (x6_18 - 53))))) = false := decide_eq_false c85; clear c85; replace H := Option.bind_eq_some_iff.mp H; obtain ⟨t323, A910, H⟩ := H; replace H : (if t323 = 9007199254740992 then (r4_Round.j6 kj67 (wrap64 ((wrap64 (x6_18 - 53)) + 1)) x10_67 4503599627370496 x289000_18 x289001_18 x289002_18) else (r4_Round.j6 kj67 (wrap64 (x6_18 - 53)) x10_67 t323 x289000_18 x289001_18 x289002_18)) = some (r1, r2) := H; have A91 := Aside0.mk A910; clear A910; have HC92 := Aside0.mk H; clear H; obtain ⟨Ao93, co93, eo93⟩ := Kd.V_slice HO_8.out; subst eo93
         go_upto_if 88 with (first | ((with_reducible refine gate_callee (f := 31) rfl ?_); refine goesL_ (some 74) rfl rfl Try.func31 (by kernel_rfl) rfl #[.slice Ao93 t311.length co93] rfl LMq ?_; (with_reducible refine (r2_Len.calls kj67 _ _ t311 t320 _ ?side1 ?side2 A84.out).mono ?_); (case side1 => exact kC (Kd.V_reads' HO_8.out).2.2); (case side2 => exact (Kd.V_reads' HO_8.out).2.1); rintro e w94 ⟨rfl, hb⟩; refine ⟨_, rfl, ?_⟩; replace HO_8 := Aside0.mk (Kd.V_below (kV HO_8) hb); replace HO_289002 := Aside0.mk (Kd.V_below (kV HO_289002) hb); replace BK288 := Aside0.mk (blk_below (g := gb288) (o := .cells #[.bool x289000_18, .int .i64 x289001_18, .slice Ao70 x289002_18.length co70] 62 (0, 0)) (kB BK288) hb); replace HB := Aside0.mk (below_step (kHs HB GE288) hb); (try clear hb); (try clear hb2); (try clear hk); (try clear hi)) | ((with_reducible refine gate_callee (f := 58) rfl ?_); refine goesL_ (some 86) rfl rfl Try.func58 (by kernel_rfl) rfl #[.slice Ao93 t311.length co93] rfl LMq ?_; (with_reducible refine (r2_Low.calls kj67 _ _ t311 t323 _ ?side1 ?side2 A91.out).mono ?_); (case side1 => exact kC (Kd.V_reads' HO_8.out).2.2); (case side2 => exact (Kd.V_reads' HO_8.out).2.1); rintro e w95 ⟨rfl, hb⟩; refine ⟨_, rfl, ?_⟩; replace HO_8 := Aside0.mk (Kd.V_below (kV HO_8) hb); replace HO_289002 := Aside0.mk (Kd.V_below (kV HO_289002) hb); replace BK288 := Aside0.mk (blk_below (g := gb288) (o := .cells #[.bool x289000_18, .int .i64 x289001_18, .slice Ao70 x289002_18.length co70] 62 (0, 0)) (kB BK288) hb); replace HB := Aside0.mk (below_step (kHs HB GE288) hb); (try clear hb); (try clear hb2); (try clear hk); (try clear hi)))
         (try simp only [Act.put, List.setIfInBounds_toArray, List.set_cons_zero, List.set_cons_succ])
         go_cut [7, 13] (fun v7 v13 wc => ∃ (kq : Nat) (x7_91 : Int) (x13_91 : Int), v7 = .int .i64 x7_91 ∧ v13 = .int .u64 x13_91 ∧ Aside0 (r4_Round.j6 kq x7_91 x10_67 x13_91 x289000_18 x289001_18 x289002_18 = some (r1, r2)) ∧ Aside0 (kq ≤ kj67) ∧ Aside0 (Kd.V (Kd.int .u32) 86 wc w.heap.size (fun k_ => (P0_2_ k_ ∨ w.heap.size ≤ k_) ∧ k_ ≠ gb288) (.slice Ao70 x289002_18.length co70) x289002_18) ∧ Aside0 (wc.heap[gb288]? = some (.cells #[.bool x289000_18, .int .i64 x289001_18, (.slice Ao70 x289002_18.length co70)] 62 (0, 0))) ∧ Aside0 (Below w.heap.size w wc))
         case first =>
          have H := HC92.out; clear HC92
          by_cases c96 : t323 = 9007199254740992
          · rw [if_pos c96] at H
            have c96b0 : (t323 == 9007199254740992) = true := beq_iff_eq.mpr c96; have c96b1 : (t323 != 9007199254740992) = false := bne_eq_false_iff_eq.mpr c96; clear c96
            (first | rw [c96b0] | (simp only [i64_w, i32_w]; rw [c96b0]) | skip)
            have H' := Aside0.mk H; clear H
            go_wp2
            go_meet
            case rel => exact ⟨_, (wrap64 ((wrap64 (x6_18 - 53)) + 1)), (4503599627370496), RSq, RSq, (by first | exact H' | (subst_vars; exact H')), ⟨by have := HJ2.out; have := HJ5.out; have := HJ18.out; have := HJ67.out; first | omega | exact Nat.le_refl _⟩, ⟨kV HO_289002⟩, ⟨kB BK288⟩, ⟨kHs HB GE288⟩⟩
          rw [if_neg c96] at H
          have c96b0 : (t323 == 9007199254740992) = false := beq_eq_false_iff_ne.mpr c96; have c96b1 : (t323 != 9007199254740992) = true := bne_iff_ne.mpr c96
          (first | rw [c96b0] | (simp only [i64_w, i32_w]; rw [c96b0]) | skip)
          have H' := Aside0.mk H; clear H
          go_wp2
          go_meet
          case rel => exact ⟨_, ((wrap64 (x6_18 - 53))), (t323), RSq, RSq, (by first | exact H' | (subst_vars; exact H')), ⟨by have := HJ2.out; have := HJ5.out; have := HJ18.out; have := HJ67.out; first | omega | exact Nat.le_refl _⟩, ⟨kV HO_289002⟩, ⟨kB BK288⟩, ⟨kHs HB GE288⟩⟩
         case rest =>
          clear HC92; (try clear c1); (try clear c2); (try clear p2); (try clear c3); (try clear c4); (try clear c5); (try clear c5b0); (try clear c6); (try clear p6); (try clear c7); (try clear c8); (try clear c8b0); (try clear c8b1); (try clear c8b2); (try clear c9); (try clear c12); (try clear c12b0); (try clear c23); (try clear c23b0); (try clear c27); (try clear c29); (try clear c31); (try clear c31b0); (try clear c37); (try clear c40); (try clear c40b0); (try clear c50); (try clear c50b0); (try clear c55); (try clear c56); (try clear c57); (try clear c58); (try clear c61); (try clear c61b0); (try clear c61b1); (try clear c62); (try clear c62b0); (try clear p64); (try clear c72); (try clear c75); (try clear c75b0); (try clear c85); (try clear c85b0); (try clear c96); (try clear c96b0); (try clear c96b1); (try clear hcz10_0 hcz10_1 hcz10_2); (try clear hcz15_0 hcz15_1 hcz15_2); (try clear hcz20_0 hcz20_1 hcz20_2); (try clear hcz34_0 hcz34_1 hcz34_2); (try clear hcz41_0 hcz41_1 hcz41_2); (try clear hcz45_0 hcz45_1 hcz45_2); (try clear hcz64_0 hcz64_1 hcz64_2); (try clear hcz66_0 hcz66_1 hcz66_2); (try clear hcz69_0 hcz69_1 hcz69_2); (try clear hcz76_0 hcz76_1 hcz76_2); (try clear hcz80_0 hcz80_1 hcz80_2); (try clear hfz10_0 hfz10_1 hfz10_2); (try clear hfz15_0 hfz15_1 hfz15_2); (try clear hfz20_0 hfz20_1 hfz20_2); (try clear hfz34_0 hfz34_1 hfz34_2); (try clear hfz41_0 hfz41_1 hfz41_2); (try clear hfz45_0 hfz45_1 hfz45_2); (try clear hfz64_0 hfz64_1 hfz64_2); (try clear hfz66_0 hfz66_1 hfz66_2); (try clear hfz69_0 hfz69_1 hfz69_2); (try clear hfz76_0 hfz76_1 hfz76_2); (try clear hfz80_0 hfz80_1 hfz80_2); (try clear p2); (try clear p6); (try clear p64); obtain ⟨kq, x7_91, x13_91, rfl, rfl, HA, HJ91, HO_289002, BK288, HB⟩ := hcut
          cases kq with
          | zero => exact absurd HA.out (by simp [r4_Round.j6])
          | succ kj91 =>
           have H := HA.out; clear HA
           simp only [r4_Round.j6] at H
           by_cases c97 : x13_91 ≥ 4503599627370496
           · rw [if_pos c97] at H
             have c97b0 : decide (4503599627370496 ≤ x13_91) = true := decide_eq_true c97; clear c97; replace H := Option.bind_eq_some_iff.mp H; obtain ⟨t324, A980, H⟩ := H; replace H : (some (t324, x10_67)) = some (r1, r2) := H; have A98 := Aside0.mk A980; clear A980
             simp only [Option.some.injEq, Prod.mk.injEq] at H
             obtain ⟨rfl, rfl⟩ := H; have hcz99_0 : wc.cell? ⟨gb288, 0, none⟩ = some (.bool x289000_18) := bc BK288 0; have hcz99_1 : wc.cell? ⟨gb288, 1, none⟩ = some (.int .i64 x289001_18) := bc BK288 1; have hcz99_2 : wc.cell? ⟨gb288, 2, none⟩ = some (.slice Ao70 x289002_18.length co70) := bc BK288 2; have hfz99_0 := blk_frozen BK288.out 0; have hfz99_1 := blk_frozen BK288.out 1; have hfz99_2 := blk_frozen BK288.out 2
             go_wp2_with (first | ((with_reducible refine gate_callee (f := 55) rfl ?_); refine goesL_ (some 102) rfl rfl Try.func55 (by kernel_rfl) rfl #[.int .u64 (IntKind.u64.wrap ((IntKind.u64.wrap ((IntKind.u64.wrap ((IntKind.u64.wrap (wrap64 (x7_91 + 1075))) * 4503599627370496)) + x13_91)) - 4503599627370496)), .bool x289000_18] rfl LMq ?_; (with_reducible refine (r4_signed.calls (IntKind.u64.wrap ((IntKind.u64.wrap ((IntKind.u64.wrap ((IntKind.u64.wrap (wrap64 (x7_91 + 1075))) * 4503599627370496)) + x13_91)) - 4503599627370496)) x289000_18 t324 _ A98.out).mono ?_); rintro e w' ⟨rfl, ⟨nd, rfl⟩⟩; refine ⟨_, rfl, ?_⟩))
             go_ret2
             exact ⟨by first | rfl | (simp [errW_none, errW_some] <;> rfl) | (simp [*, errW_none, errW_some] <;> rfl), kHs HB GE288⟩
           rw [if_neg c97] at H
           have c97b0 : decide (4503599627370496 ≤ x13_91) = false := decide_eq_false c97; clear c97; replace H := Option.bind_eq_some_iff.mp H; obtain ⟨t325, A1000, H⟩ := H; replace H : (some (t325, x10_67)) = some (r1, r2) := H; have A100 := Aside0.mk A1000; clear A1000
           simp only [Option.some.injEq, Prod.mk.injEq] at H
           obtain ⟨rfl, rfl⟩ := H; have hcz101_0 : wc.cell? ⟨gb288, 0, none⟩ = some (.bool x289000_18) := bc BK288 0; have hcz101_1 : wc.cell? ⟨gb288, 1, none⟩ = some (.int .i64 x289001_18) := bc BK288 1; have hcz101_2 : wc.cell? ⟨gb288, 2, none⟩ = some (.slice Ao70 x289002_18.length co70) := bc BK288 2; have hfz101_0 := blk_frozen BK288.out 0; have hfz101_1 := blk_frozen BK288.out 1; have hfz101_2 := blk_frozen BK288.out 2
           go_wp2_with (first | ((with_reducible refine gate_callee (f := 55) rfl ?_); refine goesL_ (some 107) rfl rfl Try.func55 (by kernel_rfl) rfl #[.int .u64 x13_91, .bool x289000_18] rfl LMq ?_; (with_reducible refine (r4_signed.calls x13_91 x289000_18 t325 _ A100.out).mono ?_); rintro e w' ⟨rfl, ⟨nd, rfl⟩⟩; refine ⟨_, rfl, ?_⟩))
           go_ret2
           exact ⟨by first | rfl | (simp [errW_none, errW_some] <;> rfl) | (simp [*, errW_none, errW_some] <;> rfl), kHs HB GE288⟩
end Go.Proofs.Ytedjlpfggjcmfaa.X
