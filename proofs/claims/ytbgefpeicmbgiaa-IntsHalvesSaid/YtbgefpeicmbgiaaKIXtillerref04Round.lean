import Derived.Test.YtbgefpeicmbgiaaKI4
import Derived.Test.YtbgefpeicmbgiaaKI14
import Derived.Test.YtbgefpeicmbgiaaKIXtillerref04To
namespace Go.Proofs.Ytbgefpeicmbgiaa.X
open Go.RowKit Go.Proofs.YtbgefpeicmbgiaaW.PrintWords Go.Proofs.YtbgefpeicmbgiaaW.PrintLast Go.Proofs.YtbgefpeicmbgiaaW.PrintMore
attribute [local go_sem] max2_int min2_int max_two min_two max_three min_three max_four min_four   
set_option linter.unusedVariables false
set_option linter.unusedSimpArgs false
mutual
def r4_Round.j0 : Nat → Int → Bool → Bool → Int → List Int → Option (Int × Int)
 | 0, _, _, _, _, _ => none
 | k + 1, x1, x19, q9, qa, qb => if x19 = true then (r4_Round.j1 k 0 q9 qa qb) else (r4_Round.j1 k x1 q9 qa qb)
def r4_Round.j1 : Nat → Int → Bool → Int → List Int → Option (Int × Int)
 | 0, _, _, _, _ => none
 | k + 1, x1, q9, qa, qb => if (qb.length : Int) = 0 then ((r4_signed.f 0 q9).bind fun q16 => (some (q16, 0))) else ((r2_Len.f k qb).bind fun qi => (if (wrap64 (qa + qi)) > 1100 then ((r4_over.f q9 x1).bind fun q02 => ((r4_signed.f q02 q9).bind fun q03 => (some (q03, 20)))) else (if (wrap64 (qa + qi)) < (-1200) then ((r2_Of.f k 1).bind fun qy => (r4_Round.j2 k x1 (-1299) q9 (-1300) qy)) else (r4_Round.j2 k x1 (wrap64 (qa + qi)) q9 qa qb))))
def r4_Round.j2 : Nat → Int → Int → Bool → Int → List Int → Option (Int × Int)
 | 0, _, _, _, _, _ => none
 | k + 1, x1, x6, q9, qa, qb => if (wrap64 (x6 - 53)) < (-1074) then ((r4_To.f k q9 qa qb (-1074) x1).bind fun q17 => (if q17.2 = true then ((r4_To.f k q9 qa qb (wrap64 (x6 - 53)) x1).bind fun q0i => ((r2_Len.f k q0i.1).bind fun ql => (if (wrap64 ((wrap64 (ql + x6)) - 53)) ≤ (-1022) then (r4_Round.j3 k x1 (-1074) q17.1 24 q9 qa qb) else (r4_Round.j3 k x1 (-1074) q17.1 16 q9 qa qb)))) else (r4_Round.j3 k x1 (-1074) q17.1 0 q9 qa qb))) else ((r4_To.f k q9 qa qb (wrap64 (x6 - 53)) x1).bind fun q18 => (if q18.2 = true then ((r4_To.f k q9 qa qb (wrap64 (x6 - 53)) x1).bind fun q0j => ((r2_Len.f k q0j.1).bind fun qm => (if (wrap64 ((wrap64 (qm + x6)) - 53)) ≤ (-1022) then (r4_Round.j5 k x1 (wrap64 (x6 - 53)) q18.1 24 q9 qa qb) else (r4_Round.j5 k x1 (wrap64 (x6 - 53)) q18.1 16 q9 qa qb)))) else (r4_Round.j5 k x1 (wrap64 (x6 - 53)) q18.1 0 q9 qa qb)))
def r4_Round.j3 : Nat → Int → Int → List Int → Int → Bool → Int → List Int → Option (Int × Int)
 | 0, _, _, _, _, _, _, _ => none
 | k + 1, x1, x7, x8, x10, q9, qa, qb => (r2_Len.f k x8).bind fun q04 => (if (wrap64 (q04 + x7)) > 1024 then ((r4_over.f q9 x1).bind fun q05 => ((r4_signed.f q05 q9).bind fun q06 => (some (q06, 20)))) else ((r2_Low.f k x8).bind fun qj => (if qj = 9007199254740992 then (r4_Round.j4 k (wrap64 (x7 + 1)) x10 4503599627370496 q9 qa qb) else (r4_Round.j4 k x7 x10 qj q9 qa qb))))
def r4_Round.j4 : Nat → Int → Int → Int → Bool → Int → List Int → Option (Int × Int)
 | 0, _, _, _, _, _, _ => none
 | k + 1, x7, x10, x13, q9, qa, qb => if x13 ≥ 4503599627370496 then ((r4_signed.f (IntKind.u64.wrap ((IntKind.u64.wrap ((IntKind.u64.wrap ((IntKind.u64.wrap (wrap64 (x7 + 1075))) * 4503599627370496)) + x13)) - 4503599627370496)) q9).bind fun q19 => (some (q19, x10))) else ((r4_signed.f x13 q9).bind fun q1a => (some (q1a, x10)))
def r4_Round.j5 : Nat → Int → Int → List Int → Int → Bool → Int → List Int → Option (Int × Int)
 | 0, _, _, _, _, _, _, _ => none
 | k + 1, x1, x7, x8, x10, q9, qa, qb => (r2_Len.f k x8).bind fun q07 => (if (wrap64 (q07 + x7)) > 1024 then ((r4_over.f q9 x1).bind fun q08 => ((r4_signed.f q08 q9).bind fun q09 => (some (q09, 20)))) else ((r2_Low.f k x8).bind fun qk => (if qk = 9007199254740992 then (r4_Round.j6 k (wrap64 (x7 + 1)) x10 4503599627370496 q9 qa qb) else (r4_Round.j6 k x7 x10 qk q9 qa qb))))
def r4_Round.j6 : Nat → Int → Int → Int → Bool → Int → List Int → Option (Int × Int)
 | 0, _, _, _, _, _, _ => none
 | k + 1, x7, x10, x13, q9, qa, qb => if x13 ≥ 4503599627370496 then ((r4_signed.f (IntKind.u64.wrap ((IntKind.u64.wrap ((IntKind.u64.wrap ((IntKind.u64.wrap (wrap64 (x7 + 1075))) * 4503599627370496)) + x13)) - 4503599627370496)) q9).bind fun q1b => (some (q1b, x10))) else ((r4_signed.f x13 q9).bind fun q1c => (some (q1c, x10)))
end
def r4_Round.f (k : Nat) (a0_0 : Bool) (a0_1 : Int) (l0_2 : List Int) (a1 : Int) : Option (Int × Int) := if a1 < 0 then (r4_Round.j0 k a1 true a0_0 a0_1 l0_2) else (r4_Round.j0 k a1 (decide (a1 > 4)) a0_0 a0_1 l0_2)
theorem r4_Round.mono_l : ∀ k, (∀ y0 y1 y2 y3 y4, LeO (r4_Round.j0 k y0 y1 y2 y3 y4) (r4_Round.j0 (k + 1) y0 y1 y2 y3 y4)) ∧ (∀ y0 y1 y2 y3, LeO (r4_Round.j1 k y0 y1 y2 y3) (r4_Round.j1 (k + 1) y0 y1 y2 y3)) ∧ (∀ y0 y1 y2 y3 y4, LeO (r4_Round.j2 k y0 y1 y2 y3 y4) (r4_Round.j2 (k + 1) y0 y1 y2 y3 y4)) ∧ (∀ y0 y1 y2 y3 y4 y5 y6, LeO (r4_Round.j3 k y0 y1 y2 y3 y4 y5 y6) (r4_Round.j3 (k + 1) y0 y1 y2 y3 y4 y5 y6)) ∧ (∀ y0 y1 y2 y3 y4 y5, LeO (r4_Round.j4 k y0 y1 y2 y3 y4 y5) (r4_Round.j4 (k + 1) y0 y1 y2 y3 y4 y5)) ∧ (∀ y0 y1 y2 y3 y4 y5 y6, LeO (r4_Round.j5 k y0 y1 y2 y3 y4 y5 y6) (r4_Round.j5 (k + 1) y0 y1 y2 y3 y4 y5 y6)) ∧ (∀ y0 y1 y2 y3 y4 y5, LeO (r4_Round.j6 k y0 y1 y2 y3 y4 y5) (r4_Round.j6 (k + 1) y0 y1 y2 y3 y4 y5))
 | 0 => ⟨fun _ _ _ _ _ r h => by simp [r4_Round.j0] at h, fun _ _ _ _ r h => by simp [r4_Round.j1] at h, fun _ _ _ _ _ r h => by simp [r4_Round.j2] at h, fun _ _ _ _ _ _ _ r h => by simp [r4_Round.j3] at h, fun _ _ _ _ _ _ r h => by simp [r4_Round.j4] at h, fun _ _ _ _ _ _ _ r h => by simp [r4_Round.j5] at h, fun _ _ _ _ _ _ r h => by simp [r4_Round.j6] at h⟩
 | k + 1 => by
  obtain ⟨ih0, ih1, ih2, ih3, ih4, ih5, ih6⟩ := r4_Round.mono_l k; refine ⟨?_, ?_, ?_, ?_, ?_, ?_, ?_⟩
  · intro y0 y1 y2 y3 y4
    unfold r4_Round.j0
    repeat' first
    | (with_reducible exact ih0 _ _ _ _ _)
    | (with_reducible exact ih1 _ _ _ _)
    | (with_reducible exact ih2 _ _ _ _ _)
    | (with_reducible exact ih3 _ _ _ _ _ _ _)
    | (with_reducible exact ih4 _ _ _ _ _ _)
    | (with_reducible exact ih5 _ _ _ _ _ _ _)
    | (with_reducible exact ih6 _ _ _ _ _ _)
    | (with_reducible exact r2_Len.mono _ _)
    | (with_reducible exact r2_Low.mono _ _)
    | (with_reducible exact r2_Of.mono _ _)
    | (with_reducible exact r4_To.mono _ _ _ _ _ _)
    | (with_reducible exact LeO.refl _)
    | (with_reducible exact LeO.none _)
    | (with_reducible refine LeO.ite ?_ ?_)
    | (with_reducible refine LeO.bind ?_ (fun _ => ?_))
    | exact ih0 _ _ _ _ _
    | exact ih1 _ _ _ _
    | exact ih2 _ _ _ _ _
    | exact ih3 _ _ _ _ _ _ _
    | exact ih4 _ _ _ _ _ _
    | exact ih5 _ _ _ _ _ _ _
    | exact ih6 _ _ _ _ _ _
    | exact r2_Len.mono _ _
    | exact r2_Low.mono _ _
    | exact r2_Of.mono _ _
    | exact r4_To.mono _ _ _ _ _ _
    | exact LeO.none _
    | refine LeO.ite ?_ ?_
    | refine LeO.bind ?_ (fun _ => ?_)
  · intro y0 y1 y2 y3
    unfold r4_Round.j1
    repeat' first
    | (with_reducible exact ih0 _ _ _ _ _)
    | (with_reducible exact ih1 _ _ _ _)
    | (with_reducible exact ih2 _ _ _ _ _)
    | (with_reducible exact ih3 _ _ _ _ _ _ _)
    | (with_reducible exact ih4 _ _ _ _ _ _)
    | (with_reducible exact ih5 _ _ _ _ _ _ _)
    | (with_reducible exact ih6 _ _ _ _ _ _)
    | (with_reducible exact r2_Len.mono _ _)
    | (with_reducible exact r2_Low.mono _ _)
    | (with_reducible exact r2_Of.mono _ _)
    | (with_reducible exact r4_To.mono _ _ _ _ _ _)
    | (with_reducible exact LeO.refl _)
    | (with_reducible exact LeO.none _)
    | (with_reducible refine LeO.ite ?_ ?_)
    | (with_reducible refine LeO.bind ?_ (fun _ => ?_))
    | exact ih0 _ _ _ _ _
    | exact ih1 _ _ _ _
    | exact ih2 _ _ _ _ _
    | exact ih3 _ _ _ _ _ _ _
    | exact ih4 _ _ _ _ _ _
    | exact ih5 _ _ _ _ _ _ _
    | exact ih6 _ _ _ _ _ _
    | exact r2_Len.mono _ _
    | exact r2_Low.mono _ _
    | exact r2_Of.mono _ _
    | exact r4_To.mono _ _ _ _ _ _
    | exact LeO.none _
    | refine LeO.ite ?_ ?_
    | refine LeO.bind ?_ (fun _ => ?_)
  · intro y0 y1 y2 y3 y4
    unfold r4_Round.j2
    repeat' first
    | (with_reducible exact ih0 _ _ _ _ _)
    | (with_reducible exact ih1 _ _ _ _)
    | (with_reducible exact ih2 _ _ _ _ _)
    | (with_reducible exact ih3 _ _ _ _ _ _ _)
    | (with_reducible exact ih4 _ _ _ _ _ _)
    | (with_reducible exact ih5 _ _ _ _ _ _ _)
    | (with_reducible exact ih6 _ _ _ _ _ _)
    | (with_reducible exact r2_Len.mono _ _)
    | (with_reducible exact r2_Low.mono _ _)
    | (with_reducible exact r2_Of.mono _ _)
    | (with_reducible exact r4_To.mono _ _ _ _ _ _)
    | (with_reducible exact LeO.refl _)
    | (with_reducible exact LeO.none _)
    | (with_reducible refine LeO.ite ?_ ?_)
    | (with_reducible refine LeO.bind ?_ (fun _ => ?_))
    | exact ih0 _ _ _ _ _
    | exact ih1 _ _ _ _
    | exact ih2 _ _ _ _ _
    | exact ih3 _ _ _ _ _ _ _
    | exact ih4 _ _ _ _ _ _
    | exact ih5 _ _ _ _ _ _ _
    | exact ih6 _ _ _ _ _ _
    | exact r2_Len.mono _ _
    | exact r2_Low.mono _ _
    | exact r2_Of.mono _ _
    | exact r4_To.mono _ _ _ _ _ _
    | exact LeO.none _
    | refine LeO.ite ?_ ?_
    | refine LeO.bind ?_ (fun _ => ?_)
  · intro y0 y1 y2 y3 y4 y5 y6
    unfold r4_Round.j3
    repeat' first
    | (with_reducible exact ih0 _ _ _ _ _)
    | (with_reducible exact ih1 _ _ _ _)
    | (with_reducible exact ih2 _ _ _ _ _)
    | (with_reducible exact ih3 _ _ _ _ _ _ _)
    | (with_reducible exact ih4 _ _ _ _ _ _)
    | (with_reducible exact ih5 _ _ _ _ _ _ _)
    | (with_reducible exact ih6 _ _ _ _ _ _)
    | (with_reducible exact r2_Len.mono _ _)
    | (with_reducible exact r2_Low.mono _ _)
    | (with_reducible exact r2_Of.mono _ _)
    | (with_reducible exact r4_To.mono _ _ _ _ _ _)
    | (with_reducible exact LeO.refl _)
    | (with_reducible exact LeO.none _)
    | (with_reducible refine LeO.ite ?_ ?_)
    | (with_reducible refine LeO.bind ?_ (fun _ => ?_))
    | exact ih0 _ _ _ _ _
    | exact ih1 _ _ _ _
    | exact ih2 _ _ _ _ _
    | exact ih3 _ _ _ _ _ _ _
    | exact ih4 _ _ _ _ _ _
    | exact ih5 _ _ _ _ _ _ _
    | exact ih6 _ _ _ _ _ _
    | exact r2_Len.mono _ _
    | exact r2_Low.mono _ _
    | exact r2_Of.mono _ _
    | exact r4_To.mono _ _ _ _ _ _
    | exact LeO.none _
    | refine LeO.ite ?_ ?_
    | refine LeO.bind ?_ (fun _ => ?_)
  · intro y0 y1 y2 y3 y4 y5
    unfold r4_Round.j4
    repeat' first
    | (with_reducible exact ih0 _ _ _ _ _)
    | (with_reducible exact ih1 _ _ _ _)
    | (with_reducible exact ih2 _ _ _ _ _)
    | (with_reducible exact ih3 _ _ _ _ _ _ _)
    | (with_reducible exact ih4 _ _ _ _ _ _)
    | (with_reducible exact ih5 _ _ _ _ _ _ _)
    | (with_reducible exact ih6 _ _ _ _ _ _)
    | (with_reducible exact r2_Len.mono _ _)
    | (with_reducible exact r2_Low.mono _ _)
    | (with_reducible exact r2_Of.mono _ _)
    | (with_reducible exact r4_To.mono _ _ _ _ _ _)
    | (with_reducible exact LeO.refl _)
    | (with_reducible exact LeO.none _)
    | (with_reducible refine LeO.ite ?_ ?_)
    | (with_reducible refine LeO.bind ?_ (fun _ => ?_))
    | exact ih0 _ _ _ _ _
    | exact ih1 _ _ _ _
    | exact ih2 _ _ _ _ _
    | exact ih3 _ _ _ _ _ _ _
    | exact ih4 _ _ _ _ _ _
    | exact ih5 _ _ _ _ _ _ _
    | exact ih6 _ _ _ _ _ _
    | exact r2_Len.mono _ _
    | exact r2_Low.mono _ _
    | exact r2_Of.mono _ _
    | exact r4_To.mono _ _ _ _ _ _
    | exact LeO.none _
    | refine LeO.ite ?_ ?_
    | refine LeO.bind ?_ (fun _ => ?_)
  · intro y0 y1 y2 y3 y4 y5 y6
    unfold r4_Round.j5
    repeat' first
    | (with_reducible exact ih0 _ _ _ _ _)
    | (with_reducible exact ih1 _ _ _ _)
    | (with_reducible exact ih2 _ _ _ _ _)
    | (with_reducible exact ih3 _ _ _ _ _ _ _)
    | (with_reducible exact ih4 _ _ _ _ _ _)
    | (with_reducible exact ih5 _ _ _ _ _ _ _)
    | (with_reducible exact ih6 _ _ _ _ _ _)
    | (with_reducible exact r2_Len.mono _ _)
    | (with_reducible exact r2_Low.mono _ _)
    | (with_reducible exact r2_Of.mono _ _)
    | (with_reducible exact r4_To.mono _ _ _ _ _ _)
    | (with_reducible exact LeO.refl _)
    | (with_reducible exact LeO.none _)
    | (with_reducible refine LeO.ite ?_ ?_)
    | (with_reducible refine LeO.bind ?_ (fun _ => ?_))
    | exact ih0 _ _ _ _ _
    | exact ih1 _ _ _ _
    | exact ih2 _ _ _ _ _
    | exact ih3 _ _ _ _ _ _ _
    | exact ih4 _ _ _ _ _ _
    | exact ih5 _ _ _ _ _ _ _
    | exact ih6 _ _ _ _ _ _
    | exact r2_Len.mono _ _
    | exact r2_Low.mono _ _
    | exact r2_Of.mono _ _
    | exact r4_To.mono _ _ _ _ _ _
    | exact LeO.none _
    | refine LeO.ite ?_ ?_
    | refine LeO.bind ?_ (fun _ => ?_)
  intro y0 y1 y2 y3 y4 y5
  unfold r4_Round.j6
  repeat' first
  | (with_reducible exact ih0 _ _ _ _ _)
  | (with_reducible exact ih1 _ _ _ _)
  | (with_reducible exact ih2 _ _ _ _ _)
  | (with_reducible exact ih3 _ _ _ _ _ _ _)
  | (with_reducible exact ih4 _ _ _ _ _ _)
  | (with_reducible exact ih5 _ _ _ _ _ _ _)
  | (with_reducible exact ih6 _ _ _ _ _ _)
  | (with_reducible exact r2_Len.mono _ _)
  | (with_reducible exact r2_Low.mono _ _)
  | (with_reducible exact r2_Of.mono _ _)
  | (with_reducible exact r4_To.mono _ _ _ _ _ _)
  | (with_reducible exact LeO.refl _)
  | (with_reducible exact LeO.none _)
  | (with_reducible refine LeO.ite ?_ ?_)
  | (with_reducible refine LeO.bind ?_ (fun _ => ?_))
  | exact ih0 _ _ _ _ _
  | exact ih1 _ _ _ _
  | exact ih2 _ _ _ _ _
  | exact ih3 _ _ _ _ _ _ _
  | exact ih4 _ _ _ _ _ _
  | exact ih5 _ _ _ _ _ _ _
  | exact ih6 _ _ _ _ _ _
  | exact r2_Len.mono _ _
  | exact r2_Low.mono _ _
  | exact r2_Of.mono _ _
  | exact r4_To.mono _ _ _ _ _ _
  | exact LeO.none _
  | refine LeO.ite ?_ ?_
  | refine LeO.bind ?_ (fun _ => ?_)
theorem r4_Round.mono : ∀ a0 a1 a2 a3 k, LeO (r4_Round.f k a0 a1 a2 a3) (r4_Round.f (k + 1) a0 a1 a2 a3) := by
 intro a0 a1 a2 a3 k; obtain ⟨ih0, ih1, ih2, ih3, ih4, ih5, ih6⟩ := r4_Round.mono_l k
 unfold r4_Round.f
 repeat' first
  | (with_reducible exact ih0 _ _ _ _ _)
  | (with_reducible exact ih1 _ _ _ _)
  | (with_reducible exact ih2 _ _ _ _ _)
  | (with_reducible exact ih3 _ _ _ _ _ _ _)
  | (with_reducible exact ih4 _ _ _ _ _ _)
  | (with_reducible exact ih5 _ _ _ _ _ _ _)
  | (with_reducible exact ih6 _ _ _ _ _ _)
  | (with_reducible exact r2_Len.mono _ _)
  | (with_reducible exact r2_Low.mono _ _)
  | (with_reducible exact r2_Of.mono _ _)
  | (with_reducible exact r4_To.mono _ _ _ _ _ _)
  | (with_reducible exact LeO.refl _)
  | (with_reducible exact LeO.none _)
  | (with_reducible refine LeO.ite ?_ ?_)
  | (with_reducible refine LeO.bind ?_ (fun _ => ?_))
  | exact ih0 _ _ _ _ _
  | exact ih1 _ _ _ _
  | exact ih2 _ _ _ _ _
  | exact ih3 _ _ _ _ _ _ _
  | exact ih4 _ _ _ _ _ _
  | exact ih5 _ _ _ _ _ _ _
  | exact ih6 _ _ _ _ _ _
  | exact r2_Len.mono _ _
  | exact r2_Low.mono _ _
  | exact r2_Of.mono _ _
  | exact r4_To.mono _ _ _ _ _ _
  | exact LeO.none _
  | refine LeO.ite ?_ ?_
  | refine LeO.bind ?_ (fun _ => ?_)
def r4_Round.T7 : Bool × List (List Nat × List Nat) := (true, [([], []), ([0], [0]), ([], []), ([1, 2], [1, 2]), ([], []), ([4], [4]), ([3, 5, 3], [3, 5]), ([6, 6, 0, 1, 2, 3, 4, 5, 6], [6]), ([7, 0, 1, 2, 3, 4, 5, 6, 7], [])])
def r4_Round.B7 : List Nat := [0, 1, 0, 7, 0, 16, 63, 127, 255]
theorem r4_Round.tab7 : rtab .any (opsOf Try.f32 7) = r4_Round.T7 := by kernel_rfl
theorem r4_Round.bits7 : waitsOk r4_Round.T7.2 r4_Round.B7 = true := by kernel_rfl
def r4_Round.T20 : Bool × List (List Nat × List Nat) := (true, [([], []), ([0], [0]), ([], []), ([1, 2], [1, 2]), ([], []), ([4], [4]), ([3, 5, 3], [3, 5]), ([6, 6, 0, 1, 2, 3, 4, 5, 6], [6]), ([7, 0, 1, 2, 3, 4, 5, 6, 7], [])])
def r4_Round.B20 : List Nat := [0, 1, 0, 7, 0, 16, 63, 127, 255]
theorem r4_Round.tab20 : rtab .any (opsOf Try.f32 20) = r4_Round.T20 := by kernel_rfl
theorem r4_Round.bits20 : waitsOk r4_Round.T20.2 r4_Round.B20 = true := by kernel_rfl
set_option maxHeartbeats 8000000 in
set_option maxRecDepth 100000 in
theorem r4_Round.calls (k : Nat) (a0_0 : Bool) (a0_1 : Int) (P0_2_ : Nat → Prop) (A0_2 : Option Addr) (c0_2 : Nat) (l0_2 : List Int) (a1 : Int) (r1 : Int) (r2 : Int) (w : World) (hs0_2 : Kd.V (Kd.int .u32) 41 w w.heap.size (fun k_ => P0_2_ k_) (.slice A0_2 l0_2.length c0_2) l0_2) (h : r4_Round.f k a0_0 a0_1 l0_2 a1 = some (r1, r2)) :
 Calls Try.prog 32 #[.agg #[.bool a0_0, .int .i64 a0_1, .slice A0_2 l0_2.length c0_2], .int .i64 a1] w fun e w' => e = .returned (.tuple #[.int .u64 r1, .int .i64 r2]) ∧ Below w.heap.size w w' := by
 have hu67 := Try.underlying67; have HO0_2 := Aside0.mk (show Kd.V (Kd.int .u32) 41 w w.heap.size (fun k_ => (P0_2_ k_ ∨ w.heap.size ≤ k_)) (.slice A0_2 l0_2.length c0_2) l0_2 from Kd.V_mono hs0_2 (fun k_ hk => .inl hk)); have HB := Aside0.mk (Below.refl w.heap.size w); have H : (if a1 < 0 then (r4_Round.j0 k a1 true a0_0 a0_1 l0_2) else (r4_Round.j0 k a1 (decide (a1 > 4)) a0_0 a0_1 l0_2)) = some (r1, r2) := h; clear h; have HC3 := Aside0.mk H; clear H
 go_enter Try.func32, Try.ntmps32
 go_upto_region 1 with (first | ((with_reducible refine gate_dst (N := 2) rfl ?_); refine box_event ?hg (N := 2) ?hd (cs := #[.bool a0_0, .int .i64 a0_1, .slice A0_2 l0_2.length c0_2]) (t := 67) ?hr ?_; (case hd => rfl); (case hg => rfl); (case hr => first | (go_simp; done) | (go_simp; rfl)); intro q1 hg w4 hbox hb; replace HO0_2 := Aside0.mk (Kd.V_below (Kd.V_elderB (kV HO0_2) q1 (Nat.le_of_eq hg.symm)) hb); have q0 := Aside0.mk (hbox); have GW209 := Aside0.mk ((by rw [hg]; exact (below_size (kH HB)) : w.heap.size ≤ q1)); have q7 := Aside0.mk ((by rw [hg]; exact (below_size (kH HB)) : w.heap.size ≤ q1)); replace HB := Aside0.mk (below_step (kH HB) hb); clear hb hbox hg))
 (try simp only [Act.put, List.setIfInBounds_toArray, List.set_cons_zero, List.set_cons_succ])
 go_cut [19] (fun v19 wc => ∃ (kq : Nat) (q1d : Bool), v19 = .bool q1d ∧ Aside0 (r4_Round.j0 kq a1 q1d a0_0 a0_1 l0_2 = some (r1, r2)) ∧ Aside0 (kq ≤ k) ∧ Aside0 (Kd.V (Kd.int .u32) 41 wc w.heap.size (fun k_ => (P0_2_ k_ ∨ w.heap.size ≤ k_) ∧ k_ ≠ q1) (.slice A0_2 l0_2.length c0_2) l0_2) ∧ Aside0 (wc.heap[q1]? = some (.cells #[.bool a0_0, .int .i64 a0_1, (.slice A0_2 l0_2.length c0_2)] 67 (0, 0))) ∧ Aside0 (Below w.heap.size w wc))
 case first =>
  have H := HC3.out; clear HC3
  by_cases c5 : a1 < 0
  · rw [if_pos c5] at H
    have qn : decide (a1 < 0) = true := decide_eq_true c5; clear c5
    (first | rw [qn] | (simp only [i64_w, i32_w]; rw [qn]) | skip)
    have H' := Aside0.mk H; clear H
    go_wp2
    go_meet
    case rel => exact ⟨_, (true), RSq, (by first | exact H' | (subst_vars; exact H')), ⟨by first | omega | exact Nat.le_refl _⟩, ⟨kV HO0_2⟩, ⟨kB q0⟩, ⟨kHs HB q7⟩⟩
  rw [if_neg c5] at H
  have qn : decide (a1 < 0) = false := decide_eq_false c5; clear c5
  (first | rw [qn] | (simp only [i64_w, i32_w]; rw [qn]) | skip)
  have H' := Aside0.mk H; clear H
  go_wp2
  go_meet
  case rel => exact ⟨_, (decide (a1 > 4)), RSq, (by first | exact H' | (subst_vars; exact H')), ⟨by first | omega | exact Nat.le_refl _⟩, ⟨kV HO0_2⟩, ⟨kB q0⟩, ⟨kHs HB q7⟩⟩
 case rest =>
  clear HC3; (try clear p2); (try clear c3); (try clear c5); (try clear qn); obtain ⟨kq, q1d, rfl, HA, HJ2, HO_210002, q0, HB⟩ := hcut
  cases kq with
  | zero => exact absurd HA.out (by simp [r4_Round.j0])
  | succ kj2 =>
   have H := HA.out; clear HA
   simp only [r4_Round.j0] at H
   have HC6 := Aside0.mk H; clear H
   go_upto_if 19 with (fail)
   go_cut [1] (fun v1 wc => ∃ (kq : Nat) (q6 : Int), v1 = .int .i64 q6 ∧ Aside0 (r4_Round.j1 kq q6 a0_0 a0_1 l0_2 = some (r1, r2)) ∧ Aside0 (kq ≤ kj2) ∧ Aside0 (Kd.V (Kd.int .u32) 41 wc w.heap.size (fun k_ => (P0_2_ k_ ∨ w.heap.size ≤ k_) ∧ k_ ≠ q1) (.slice A0_2 l0_2.length c0_2) l0_2) ∧ Aside0 (wc.heap[q1]? = some (.cells #[.bool a0_0, .int .i64 a0_1, (.slice A0_2 l0_2.length c0_2)] 67 (0, 0))) ∧ Aside0 (Below w.heap.size w wc))
   case first =>
    have H := HC6.out; clear HC6
    by_cases c7 : q1d = true
    · subst c7
      have H1 : (r4_Round.j1 kj2 0 a0_0 a0_1 l0_2) = some (r1, r2) := by rw [if_pos rfl] at H; exact H
      clear H; have H := H1; clear H1; have H' := Aside0.mk H; clear H
      go_wp2
      go_meet
      case rel => exact ⟨_, (0), RSq, (by first | exact H' | (subst_vars; exact H')), ⟨by have := HJ2.out; first | omega | exact Nat.le_refl _⟩, ⟨kV HO_210002⟩, ⟨kB q0⟩, ⟨kHs HB q7⟩⟩
    replace c7 := Bool.eq_false_iff.mpr c7; subst c7
    have H1 : (r4_Round.j1 kj2 a1 a0_0 a0_1 l0_2) = some (r1, r2) := by rw [if_neg (show ¬ (false = true) by decide)] at H; exact H
    clear H; have H := H1; clear H1; have H' := Aside0.mk H; clear H
    go_wp2
    go_meet
    case rel => exact ⟨_, (a1), RSq, (by first | exact H' | (subst_vars; exact H')), ⟨by have := HJ2.out; first | omega | exact Nat.le_refl _⟩, ⟨kV HO_210002⟩, ⟨kB q0⟩, ⟨kHs HB q7⟩⟩
   case rest =>
    clear HC6; (try clear p2); (try clear c3); (try clear c5); (try clear qn); (try clear p6); (try clear c7); (try clear p2); obtain ⟨kq, q6, rfl, HA, HJ5, HO_210002, q0, HB⟩ := hcut
    cases kq with
    | zero => exact absurd HA.out (by simp [r4_Round.j1])
    | succ kj5 =>
     have H := HA.out; clear HA
     simp only [r4_Round.j1] at H
     by_cases c8 : (l0_2.length : Int) = 0
     · rw [if_pos c8] at H
       have q0e : ((l0_2.length : Int) == 0) = true := beq_iff_eq.mpr c8; have q0f : ((l0_2.length : Int) != 0) = false := bne_eq_false_iff_eq.mpr c8; clear c8; replace H := Option.bind_eq_some_iff.mp H; obtain ⟨q16, A90, H⟩ := H; replace H : (some (q16, 0)) = some (r1, r2) := H; have A9 := Aside0.mk A90; clear A90
       simp only [Option.some.injEq, Prod.mk.injEq] at H
       obtain ⟨rfl, rfl⟩ := H; have q0k : wc.cell? ⟨q1, 0, none⟩ = some (.bool a0_0) := bc q0 0; have q0l : wc.cell? ⟨q1, 1, none⟩ = some (.int .i64 a0_1) := bc q0 1; have q0m : wc.cell? ⟨q1, 2, none⟩ = some (.slice A0_2 l0_2.length c0_2) := bc q0 2; have q0n := blk_frozen q0.out 0; have q0o := blk_frozen q0.out 1; have q0p := blk_frozen q0.out 2
       go_wp2_with (first | ((with_reducible refine gate_callee (f := 67) rfl ?_); refine goesL_ (some 26) rfl rfl Try.func67 (by kernel_rfl) rfl #[.int .u64 0, .bool a0_0] rfl LMq ?_; (with_reducible refine (r4_signed.calls 0 a0_0 q16 _ A9.out).mono ?_); rintro e w' ⟨rfl, ⟨nd, rfl⟩⟩; refine ⟨_, rfl, ?_⟩))
       go_ret2
       exact ⟨by first | rfl | (simp [errW_none, errW_some] <;> rfl) | (simp [*, errW_none, errW_some] <;> rfl), kHs HB q7⟩
     rw [if_neg c8] at H
     have q0e : ((l0_2.length : Int) == 0) = false := beq_eq_false_iff_ne.mpr c8; have q0f : ((l0_2.length : Int) != 0) = true := bne_iff_ne.mpr c8
     have q0q : ¬ (l0_2 = []) := fun h_ => c8 (by rw [h_]; rfl)
     replace H := Option.bind_eq_some_iff.mp H; obtain ⟨qi, q26, H⟩ := H; replace H : (if (wrap64 (a0_1 + qi)) > 1100 then ((r4_over.f a0_0 q6).bind fun q02 => ((r4_signed.f q02 a0_0).bind fun q03 => (some (q03, 20)))) else (if (wrap64 (a0_1 + qi)) < (-1200) then ((r2_Of.f kj5 1).bind fun qy => (r4_Round.j2 kj5 q6 (-1299) a0_0 (-1300) qy)) else (r4_Round.j2 kj5 q6 (wrap64 (a0_1 + qi)) a0_0 a0_1 l0_2))) = some (r1, r2) := H; have A11 := Aside0.mk q26; clear q26
     by_cases c12 : (wrap64 (a0_1 + qi)) > 1100
     · rw [if_pos c12] at H
       have q0g : decide (1100 < (wrap64 (a0_1 + qi))) = true := decide_eq_true c12; clear c12; replace H := Option.bind_eq_some_iff.mp H; obtain ⟨q02, q27, H⟩ := H; replace H : ((r4_signed.f q02 a0_0).bind fun q03 => (some (q03, 20))) = some (r1, r2) := H; have A13 := Aside0.mk q27; clear q27; replace H := Option.bind_eq_some_iff.mp H; obtain ⟨q03, q28, H⟩ := H; replace H : (some (q03, 20)) = some (r1, r2) := H; have A14 := Aside0.mk q28; clear q28
       simp only [Option.some.injEq, Prod.mk.injEq] at H
       obtain ⟨rfl, rfl⟩ := H; have q0r : wc.cell? ⟨q1, 0, none⟩ = some (.bool a0_0) := bc q0 0; have q0s : wc.cell? ⟨q1, 1, none⟩ = some (.int .i64 a0_1) := bc q0 1; have q0t : wc.cell? ⟨q1, 2, none⟩ = some (.slice A0_2 l0_2.length c0_2) := bc q0 2; have q0u := blk_frozen q0.out 0; have q0v := blk_frozen q0.out 1; have q0w := blk_frozen q0.out 2
       try go_wp2
       replace HO_210002 := Aside0.mk (Kd.V_drew HO_210002.out); replace q0 := Aside0.mk (blk_drew q0.out); replace HB := Aside0.mk (below_drew1 HB.out); refine start_ (n := 7) (S := fun w' => w'.cell? ⟨q1, 0, none⟩ = some (.bool a0_0) ∧ w'.cell? ⟨q1, 1, none⟩ = some (.int .i64 a0_1) ∧ w'.cell? ⟨q1, 2, none⟩ = some (.slice A0_2 l0_2.length c0_2)) (ds := []) #[false, false, false, false, false, false, false] (by kernel_rfl) rfl rfl ⟨bc q0 0, bc q0 1, bc q0 2⟩ (fun hHeld => ?_)
       generalize wc.drew = w16 at HO_210002 q0 HB hHeld ⊢
       refine pure_ (i := 0) (N := some 27) (v := ?_) (a' := ?_) #[true, false, false, false, false, false, false] rfl rfl (by kernel_rfl) (fun _ _ _ h => h) (Or.inl ⟨by rfl, ?_⟩) ?_ ?_; rotate_left
       · intro w'
         go_simp
         with_reducible rfl
       rotate_left
       · exact APq
       refine pure_ (i := 2) (N := some 29) (v := ?_) (a' := ?_) #[true, false, true, false, false, false, false] rfl rfl (by kernel_rfl) (fun _ _ _ h => h) (Or.inl ⟨by rfl, ?_⟩) ?_ ?_; rotate_left
       · intro w'
         go_simp
         with_reducible rfl
       rotate_left
       · exact APq
       refine take_ (i := 1) (N := some 28) (v := ?_) (a' := ?_) #[true, true, true, false, false, false, false] rfl rfl (by kernel_rfl) (fun _ _ _ h => h) (Or.inl ⟨by rfl, ?_⟩) hHeld ?_ ?_; rotate_left
       · rintro w' ⟨s0, s1, s2⟩
         go_simp
         with_reducible rfl
       rotate_left
       · exact APq
       refine take_ (i := 3) (N := some 30) (v := ?_) (a' := ?_) #[true, true, true, true, false, false, false] rfl rfl (by kernel_rfl) (fun _ _ _ h => h) (Or.inl ⟨by rfl, ?_⟩) hHeld ?_ ?_; rotate_left
       · rintro w' ⟨s0, s1, s2⟩
         go_simp
         with_reducible rfl
       rotate_left
       · exact APq
       refine one_ (i := 4) (N := some 31) #[true, true, true, true, true, false, false] rfl rfl (by kernel_rfl) (by decide) (fun K hK => ?_); refine goes_ Try.func68 (by kernel_rfl) rfl #[.slice A0_2 l0_2.length c0_2] (by rfl) rfl rfl LMq ?_
       with_reducible refine (r2_Len.calls kj5 _ _ l0_2 qi _ ?side1 ?side2 A11.out).mono ?_
       (case side1 => exact kC (Kd.V_reads' HO_210002.out).2.2)
       (case side2 => exact (Kd.V_reads' HO_210002.out).2.1)
       rintro e w17 ⟨rfl, hb⟩; refine ⟨_, rfl, ?_⟩; replace HO_210002 := Aside0.mk (Kd.V_below (kV HO_210002) hb); replace q0 := Aside0.mk (blk_below q0.out hb); replace HB := Aside0.mk (below_step HB.out hb)
       (try clear hb)
       (try clear hb2)
       (try clear hk)
       (try clear hi)
       refine hK.out _ _ ⟨bc q0 0, bc q0 1, bc q0 2⟩ (fun hHeld => ?_); clear hK K; refine norm_ (a' := ?_) ?_ ?_; rotate_left
       · show Act.put _ (some 31) _ = _
         exact APq
       refine pure_ (i := 5) (N := some 32) (v := ?_) (a' := ?_) #[true, true, true, true, true, true, false] rfl rfl (by kernel_rfl) (fun _ _ _ h => h) (Or.inl ⟨by rfl, ?_⟩) ?_ ?_; rotate_left
       · intro w'
         go_simp
         with_reducible rfl
       rotate_left
       · exact APq
       refine pure_ (i := 6) (N := some 6) (v := ?_) (a' := ?_) #[true, true, true, true, true, true, true] rfl rfl (by kernel_rfl) (fun _ _ _ h => h) (Or.inl ⟨by rfl, ?_⟩) ?_ ?_; rotate_left
       · intro w'
         go_simp
         with_reducible rfl
       rotate_left
       · exact APq
       refine done_ (by kernel_rfl) ?_
       try go_wp2
       replace HO_210002 := Aside0.mk (Kd.V_drew HO_210002.out); replace q0 := Aside0.mk (blk_drew q0.out); replace HB := Aside0.mk (below_drew1 HB.out); refine start_ (n := 9) (S := fun w' => w'.cell? ⟨q1, 0, none⟩ = some (.bool a0_0) ∧ w'.cell? ⟨q1, 1, none⟩ = some (.int .i64 a0_1) ∧ w'.cell? ⟨q1, 2, none⟩ = some (.slice A0_2 l0_2.length c0_2)) (ds := []) #[false, false, false, false, false, false, false, false, false] (by kernel_rfl) rfl rfl ⟨bc q0 0, bc q0 1, bc q0 2⟩ (fun hHeld => ?_); refine with_tabW r4_Round.tab7 r4_Round.bits7 (fun HT_ HW_ => ?_)
       generalize w17.drew = w18 at HO_210002 q0 HB hHeld ⊢
       refine pure_ (i := 0) (N := some 35) (v := ?_) (a' := ?_) #[true, false, false, false, false, false, false, false, false] rfl rfl (any_of HT_.out (by kernel_rfl)) (fun _ _ _ h => h) (Or.inl ⟨by rfl, ?_⟩) ?_ ?_; rotate_left
       · intro w'
         go_simp
         with_reducible rfl
       rotate_left
       · exact APq
       refine pure_ (i := 2) (N := some 37) (v := ?_) (a' := ?_) #[true, false, true, false, false, false, false, false, false] rfl rfl (any_of HT_.out (by kernel_rfl)) (fun _ _ _ h => h) (Or.inl ⟨by rfl, ?_⟩) ?_ ?_; rotate_left
       · intro w'
         go_simp
         with_reducible rfl
       rotate_left
       · exact APq
       refine pure_ (i := 4) (N := some 39) (v := ?_) (a' := ?_) #[true, false, true, false, true, false, false, false, false] rfl rfl (any_of HT_.out (by kernel_rfl)) (fun _ _ _ h => h) (Or.inl ⟨by rfl, ?_⟩) ?_ ?_; rotate_left
       · intro w'
         go_simp
         with_reducible rfl
       rotate_left
       · exact APq
       refine take_ (i := 1) (N := some 36) (v := ?_) (a' := ?_) #[true, true, true, false, true, false, false, false, false] rfl rfl (take_ofW HT_.out HW_.out (by kernel_rfl)) (fun _ _ _ h => h) (Or.inl ⟨by rfl, ?_⟩) hHeld ?_ ?_; rotate_left
       · rintro w' ⟨s0, s1, s2⟩
         go_simp
         with_reducible rfl
       rotate_left
       · exact APq
       refine take_ (i := 5) (N := some 40) (v := ?_) (a' := ?_) #[true, true, true, false, true, true, false, false, false] rfl rfl (take_ofW HT_.out HW_.out (by kernel_rfl)) (fun _ _ _ h => h) (Or.inl ⟨by rfl, ?_⟩) hHeld ?_ ?_; rotate_left
       · rintro w' ⟨s0, s1, s2⟩
         go_simp
         with_reducible rfl
       rotate_left
       · exact APq
       refine one_ (i := 3) (N := some 38) #[true, true, true, true, true, true, false, false, false] rfl rfl (one_of HT_.out (by kernel_rfl)) (by decide) (fun K hK => ?_); refine goes_ Try.func69 (by kernel_rfl) rfl #[.bool a0_0, .int .i64 q6] (by rfl) rfl rfl LMq ?_
       with_reducible refine (r4_over.calls a0_0 q6 q02 _ A13.out).mono ?_
       rintro e w' ⟨rfl, ⟨nd, rfl⟩⟩; refine ⟨_, rfl, ?_⟩; refine hK.out _ _ ⟨bc q0 0, bc q0 1, bc q0 2⟩ (fun hHeld => ?_); clear hK K; refine norm_ (a' := ?_) ?_ ?_; rotate_left
       · show Act.put _ (some 38) _ = _
         exact APq
       refine one_ (i := 6) (N := some 41) #[true, true, true, true, true, true, true, false, false] rfl rfl (one_of HT_.out (by kernel_rfl)) (by decide) (fun K hK => ?_); refine goes_ Try.func67 (by kernel_rfl) rfl #[.int .u64 q02, .bool a0_0] (by rfl) rfl rfl LMq ?_
       with_reducible refine (r4_signed.calls q02 a0_0 q03 _ A14.out).mono ?_
       rintro e w' ⟨rfl, ⟨nd, rfl⟩⟩; refine ⟨_, rfl, ?_⟩; refine hK.out _ _ ⟨bc q0 0, bc q0 1, bc q0 2⟩ (fun hHeld => ?_); clear hK K; refine norm_ (a' := ?_) ?_ ?_; rotate_left
       · show Act.put _ (some 41) _ = _
         exact APq
       refine pure_ (i := 7) (N := some 4) (v := ?_) (a' := ?_) #[true, true, true, true, true, true, true, true, false] rfl rfl (any_of HT_.out (by kernel_rfl)) (fun _ _ _ h => h) (Or.inl ⟨by rfl, ?_⟩) ?_ ?_; rotate_left
       · intro w'
         go_simp
         with_reducible rfl
       rotate_left
       · exact APq
       refine pure_ (i := 8) (N := some 5) (v := ?_) (a' := ?_) #[true, true, true, true, true, true, true, true, true] rfl rfl (any_of HT_.out (by kernel_rfl)) (fun _ _ _ h => h) (Or.inl ⟨by rfl, ?_⟩) ?_ ?_; rotate_left
       · intro w'
         go_simp
         with_reducible rfl
       rotate_left
       · exact APq
       refine done_ (done_of HT_.out (by kernel_rfl)) ?_
       try go_wp2
       go_ret2
       exact ⟨by first | rfl | (simp [errW_none, errW_some] <;> rfl) | (simp [*, errW_none, errW_some] <;> rfl), kHs HB q7⟩
     rw [if_neg c12] at H
     have q0g : decide (1100 < (wrap64 (a0_1 + qi))) = false := decide_eq_false c12; clear c12; have q1y := Aside0.mk H; clear H; have q0x : wc.cell? ⟨q1, 0, none⟩ = some (.bool a0_0) := bc q0 0; have q0y : wc.cell? ⟨q1, 1, none⟩ = some (.int .i64 a0_1) := bc q0 1; have q0z : wc.cell? ⟨q1, 2, none⟩ = some (.slice A0_2 l0_2.length c0_2) := bc q0 2; have q10 := blk_frozen q0.out 0; have q11 := blk_frozen q0.out 1; have q12 := blk_frozen q0.out 2
     try go_wp2
     replace HO_210002 := Aside0.mk (Kd.V_drew HO_210002.out); replace q0 := Aside0.mk (blk_drew q0.out); replace HB := Aside0.mk (below_drew1 HB.out); refine start_ (n := 7) (S := fun w' => w'.cell? ⟨q1, 0, none⟩ = some (.bool a0_0) ∧ w'.cell? ⟨q1, 1, none⟩ = some (.int .i64 a0_1) ∧ w'.cell? ⟨q1, 2, none⟩ = some (.slice A0_2 l0_2.length c0_2)) (ds := []) #[false, false, false, false, false, false, false] (by kernel_rfl) rfl rfl ⟨bc q0 0, bc q0 1, bc q0 2⟩ (fun hHeld => ?_)
     generalize wc.drew = w21 at HO_210002 q0 HB hHeld ⊢
     refine pure_ (i := 0) (N := some 27) (v := ?_) (a' := ?_) #[true, false, false, false, false, false, false] rfl rfl (by kernel_rfl) (fun _ _ _ h => h) (Or.inl ⟨by rfl, ?_⟩) ?_ ?_; rotate_left
     · intro w'
       go_simp
       with_reducible rfl
     rotate_left
     · exact APq
     refine pure_ (i := 2) (N := some 29) (v := ?_) (a' := ?_) #[true, false, true, false, false, false, false] rfl rfl (by kernel_rfl) (fun _ _ _ h => h) (Or.inl ⟨by rfl, ?_⟩) ?_ ?_; rotate_left
     · intro w'
       go_simp
       with_reducible rfl
     rotate_left
     · exact APq
     refine take_ (i := 1) (N := some 28) (v := ?_) (a' := ?_) #[true, true, true, false, false, false, false] rfl rfl (by kernel_rfl) (fun _ _ _ h => h) (Or.inl ⟨by rfl, ?_⟩) hHeld ?_ ?_; rotate_left
     · rintro w' ⟨s0, s1, s2⟩
       go_simp
       with_reducible rfl
     rotate_left
     · exact APq
     refine take_ (i := 3) (N := some 30) (v := ?_) (a' := ?_) #[true, true, true, true, false, false, false] rfl rfl (by kernel_rfl) (fun _ _ _ h => h) (Or.inl ⟨by rfl, ?_⟩) hHeld ?_ ?_; rotate_left
     · rintro w' ⟨s0, s1, s2⟩
       go_simp
       with_reducible rfl
     rotate_left
     · exact APq
     refine one_ (i := 4) (N := some 31) #[true, true, true, true, true, false, false] rfl rfl (by kernel_rfl) (by decide) (fun K hK => ?_); refine goes_ Try.func68 (by kernel_rfl) rfl #[.slice A0_2 l0_2.length c0_2] (by rfl) rfl rfl LMq ?_
     with_reducible refine (r2_Len.calls kj5 _ _ l0_2 qi _ ?side1 ?side2 A11.out).mono ?_
     (case side1 => exact kC (Kd.V_reads' HO_210002.out).2.2)
     (case side2 => exact (Kd.V_reads' HO_210002.out).2.1)
     rintro e w22 ⟨rfl, hb⟩; refine ⟨_, rfl, ?_⟩; replace HO_210002 := Aside0.mk (Kd.V_below (kV HO_210002) hb); replace q0 := Aside0.mk (blk_below q0.out hb); replace HB := Aside0.mk (below_step HB.out hb)
     (try clear hb)
     (try clear hb2)
     (try clear hk)
     (try clear hi)
     refine hK.out _ _ ⟨bc q0 0, bc q0 1, bc q0 2⟩ (fun hHeld => ?_); clear hK K; refine norm_ (a' := ?_) ?_ ?_; rotate_left
     · show Act.put _ (some 31) _ = _
       exact APq
     refine pure_ (i := 5) (N := some 32) (v := ?_) (a' := ?_) #[true, true, true, true, true, true, false] rfl rfl (by kernel_rfl) (fun _ _ _ h => h) (Or.inl ⟨by rfl, ?_⟩) ?_ ?_; rotate_left
     · intro w'
       go_simp
       with_reducible rfl
     rotate_left
     · exact APq
     refine pure_ (i := 6) (N := some 6) (v := ?_) (a' := ?_) #[true, true, true, true, true, true, true] rfl rfl (by kernel_rfl) (fun _ _ _ h => h) (Or.inl ⟨by rfl, ?_⟩) ?_ ?_; rotate_left
     · intro w'
       go_simp
       with_reducible rfl
     rotate_left
     · exact APq
     refine done_ (by kernel_rfl) ?_
     go_upto_if 43 with (fail)
     go_cut [6] (fun v6 wc => ∃ (kq : Nat) (q5 : Int) (q2 : Bool) (q4 : Int) (q3 : List Int) (u210002 : Value), v6 = .int .i64 q5 ∧ Aside0 (r4_Round.j2 kq q6 q5 q2 q4 q3 = some (r1, r2)) ∧ Aside0 (kq ≤ kj5) ∧ Aside0 (Kd.V (Kd.int .u32) 41 wc w.heap.size (fun k_ => (P0_2_ k_ ∨ w.heap.size ≤ k_) ∧ k_ ≠ q1) u210002 q3) ∧ Aside0 (wc.heap[q1]? = some (.cells #[.bool q2, .int .i64 q4, u210002] 67 (0, 0))) ∧ Aside0 (Below w.heap.size w wc))
     case first =>
      have H := q1y.out; clear q1y
      by_cases c23 : (wrap64 (a0_1 + qi)) < (-1200)
      · rw [if_pos c23] at H
        have qs : decide ((wrap64 (a0_1 + qi)) < (-1200)) = true := decide_eq_true c23; clear c23
        (first | rw [qs] | (simp only [i64_w, i32_w]; rw [qs]) | skip)
        replace H := Option.bind_eq_some_iff.mp H; obtain ⟨qy, q29, H⟩ := H; replace H : (r4_Round.j2 kj5 q6 (-1299) a0_0 (-1300) qy) = some (r1, r2) := H; have A24 := Aside0.mk q29; clear q29; have H' := Aside0.mk H; clear H
        try go_wp2
        replace HO_210002 := Aside0.mk (Kd.V_drew HO_210002.out); replace q0 := Aside0.mk (blk_drew q0.out); replace HB := Aside0.mk (below_drew1 HB.out); refine start_ (n := 5) (S := fun w' => w'.cell? ⟨q1, 0, none⟩ = some (.bool a0_0) ∧ w'.cell? ⟨q1, 1, none⟩ = some (.int .i64 a0_1) ∧ w'.cell? ⟨q1, 2, none⟩ = some (.slice A0_2 l0_2.length c0_2)) (ds := [4]) #[false, false, false, false, false] (by kernel_rfl) rfl rfl ⟨bc q0 0, bc q0 1, bc q0 2⟩ (fun hHeld => ?_)
        generalize w22.drew = w25 at HO_210002 q0 HB hHeld ⊢
        refine pure_ (i := 0) (N := some 44) (v := ?_) (a' := ?_) #[true, false, false, false, false] rfl rfl (by kernel_rfl) (fun _ _ _ h => h) (Or.inl ⟨by rfl, ?_⟩) ?_ ?_; rotate_left
        · intro w'
          go_simp
          with_reducible rfl
        rotate_left
        · exact APq
        refine take_ (i := 1) (N := some 45) (v := ?_) (a' := ?_) #[true, true, false, false, false] rfl rfl (by kernel_rfl) (fun _ _ _ h => h) (Or.inl ⟨by rfl, ?_⟩) hHeld ?_ ?_; rotate_left
        · rintro w' ⟨s0, s1, s2⟩
          go_simp
          with_reducible rfl
        rotate_left
        · exact APq
        refine one_ (i := 2) (N := some 46) #[true, true, true, false, false] rfl rfl (by kernel_rfl) (by decide) (fun K hK => ?_); refine goes_ Try.func33 (by kernel_rfl) rfl #[.int .u64 1] (by rfl) rfl rfl LMq ?_
        with_reducible refine (r2_Of.calls kj5 1 qy _ A24.out).mono ?_
        rintro e w26 ⟨v215, rfl, ho0, hb⟩; refine ⟨_, rfl, ?_⟩; replace HO_210002 := Aside0.mk (Kd.V_below (kV HO_210002) hb); have q2a := Aside0.mk (Kd.V_lower (Kd.V_mono (ok' := fun k_ => (P0_2_ k_ ∨ w.heap.size ≤ k_) ∧ k_ ≠ q1) ho0 (fun k_ hk_ => ⟨(.inr (Nat.le_trans (below_size HB.out) hk_)), (Kd.freshB q0.out k_ hk_)⟩)) (below_size HB.out)); replace q0 := Aside0.mk (blk_below q0.out hb); replace HB := Aside0.mk (below_step HB.out hb)
        (try clear hb)
        (try clear hb2)
        (try clear hk)
        (try clear hi)
        (try clear ho0)
        obtain ⟨q2b, q2c, eo27⟩ := Kd.V_slice q2a.out
        (first | subst eo27 | (injection eo27 with f1_ f2_ f3_; have f4_ := f1_.symm; have f5_ := f3_.symm; clear f1_ f2_ f3_; subst f4_; subst f5_))
        refine hK.out _ _ ⟨bc q0 0, bc q0 1, bc q0 2⟩ (fun hHeld => ?_); clear hK K; refine norm_ (a' := ?_) ?_ ?_; rotate_left
        · show Act.put _ (some 46) _ = _
          exact APq
        refine pure_ (i := 3) (N := some 47) (v := ?_) (a' := ?_) #[true, true, true, true, false] rfl rfl (by kernel_rfl) (fun _ _ _ h => h) (Or.inl ⟨by rfl, ?_⟩) ?_ ?_; rotate_left
        · intro w'
          go_simp
          with_reducible rfl
        rotate_left
        · exact APq
        refine last_ (i := 4) (N := none) #[true, true, true, true, true] rfl rfl (by kernel_rfl) (by decide) (fun K hK => ?_); have hs28 : w26.cell? ⟨q1, 0, none⟩ = some (.bool a0_0) := bc q0 0; have hfs28 := blk_frozen q0.out 0; have hs29 : w26.cell? ⟨q1, 1, none⟩ = some (.int .i64 a0_1) := bc q0 1; have hfs29 := blk_frozen q0.out 1; have hs30 : w26.cell? ⟨q1, 2, none⟩ = some (.slice A0_2 l0_2.length c0_2) := bc q0 2; have hfs30 := blk_frozen q0.out 2; refine skip_ (w1 := ?_) (by rfl) rfl ?_ ?_; rotate_left
        · go_simp
          rfl
        refine hK.out _ _ ?_; clear hK K; refine done_ (by kernel_rfl) ?_
        try go_wp2
        go_meet
        case rel => exact ⟨_, ((-1299)), (a0_0), ((-1300)), (qy), (.slice q2b qy.length q2c), RSq, (by first | exact H' | (subst_vars; exact H')), ⟨by have := HJ2.out; have := HJ5.out; first | omega | exact Nat.le_refl _⟩, ⟨by (with_reducible repeat (first | apply Kd.V_alloc | apply Kd.V_drewN | apply Kd.V_drew)); exact Kd.V_mono (Kd.V_far (p := ⟨q1, 2, none⟩) (Kd.V_far (p := ⟨q1, 1, none⟩) (Kd.V_far (p := ⟨q1, 0, none⟩) (Kd.V_mono q2a.out (fun k_ hk => (⟨hk, hk.2⟩ : _ ∧ k_ ≠ q1))) (fun _ hk => hk.2) (.bool a0_0)) (fun _ hk => hk.2) (.int .i64 (-1300))) (fun _ hk => hk.2) (.slice q2b qy.length q2c)) (fun _ hk => ⟨hk.1.1, hk.1.2⟩)⟩, ⟨by (with_reducible repeat (first | refine blk_drewN ?_ _ | refine blk_drew ?_ | refine blk_alloc ?_ _)); refine blk_put (cs := #[.bool a0_0, .int .i64 (-1300), .slice A0_2 l0_2.length c0_2]) ?_ 2 _ rfl; refine blk_put (cs := #[.bool a0_0, .int .i64 a0_1, .slice A0_2 l0_2.length c0_2]) ?_ 1 _ rfl; refine blk_put (cs := #[.bool a0_0, .int .i64 a0_1, .slice A0_2 l0_2.length c0_2]) ?_ 0 _ rfl; (with_reducible repeat (first | refine blk_drewN ?_ _ | refine blk_drew ?_ | refine blk_alloc ?_ _)); exact q0.out⟩, ⟨kHs HB q7⟩⟩
      rw [if_neg c23] at H
      have qs : decide ((wrap64 (a0_1 + qi)) < (-1200)) = false := decide_eq_false c23; clear c23
      (first | rw [qs] | (simp only [i64_w, i32_w]; rw [qs]) | skip)
      have H' := Aside0.mk H; clear H
      go_wp2
      go_meet
      case rel => exact ⟨_, (wrap64 (a0_1 + qi)), (a0_0), (a0_1), (l0_2), (.slice A0_2 l0_2.length c0_2), RSq, (by first | exact H' | (subst_vars; exact H')), ⟨by have := HJ2.out; have := HJ5.out; first | omega | exact Nat.le_refl _⟩, ⟨kV HO_210002⟩, ⟨kB q0⟩, ⟨kHs HB q7⟩⟩
     case rest =>
      clear q1y; (try clear c1); (try clear c2); (try clear p2); (try clear c3); (try clear c5); (try clear qn); (try clear c6); (try clear p6); (try clear c7); (try clear c8); (try clear q0e); (try clear q0f); (try clear q0q); (try clear c12); (try clear q0g); (try clear c23); (try clear qs); (try clear q0k q0l q0m); (try clear q0r q0s q0t); (try clear q0x q0y q0z); (try clear q0n q0o q0p); (try clear q0u q0v q0w); (try clear q10 q11 q12); (try clear p2); (try clear p6); obtain ⟨kq, q5, q2, q4, q3, u210002, rfl, HA, qt, HO_210002, q0, HB⟩ := hcut
      cases kq with
      | zero => exact absurd HA.out (by simp [r4_Round.j2])
      | succ q8 =>
       have H := HA.out; clear HA
       simp only [r4_Round.j2] at H
       by_cases c31 : (wrap64 (q5 - 53)) < (-1074)
       · rw [if_pos c31] at H
         have c31i := eq_true c31; have q13 : decide ((wrap64 (q5 - 53)) < (-1074)) = true := decide_eq_true c31; clear c31; replace H := Option.bind_eq_some_iff.mp H; obtain ⟨⟨qg, q1z⟩, q2d, H⟩ := H; replace H : (if q1z = true then ((r4_To.f q8 q2 q4 q3 (wrap64 (q5 - 53)) q6).bind fun q0i => ((r2_Len.f q8 q0i.1).bind fun ql => (if (wrap64 ((wrap64 (ql + q5)) - 53)) ≤ (-1022) then (r4_Round.j3 q8 q6 (-1074) qg 24 q2 q4 q3) else (r4_Round.j3 q8 q6 (-1074) qg 16 q2 q4 q3)))) else (r4_Round.j3 q8 q6 (-1074) qg 0 q2 q4 q3)) = some (r1, r2) := H; have A32 := Aside0.mk q2d; clear q2d; have q20 := Aside0.mk H; clear H; have q1e : wc.cell? ⟨q1, 0, none⟩ = some (.bool q2) := bc q0 0; have q1f : wc.cell? ⟨q1, 1, none⟩ = some (.int .i64 q4) := bc q0 1; have q1g : wc.cell? ⟨q1, 2, none⟩ = some (u210002) := bc q0 2; have q1h := blk_frozen q0.out 0; have q1i := blk_frozen q0.out 1; have q1j := blk_frozen q0.out 2; obtain ⟨qc, qd, eo35⟩ := Kd.V_slice HO_210002.out; subst eo35
         go_upto_if 58 with (first | ((with_reducible refine gate_callee (f := 38) rfl ?_); refine goesL_ (some 55) rfl rfl Try.func38 (by kernel_rfl) rfl #[.agg #[.bool q2, .int .i64 q4, .slice qc q3.length qd], .int .i64 (-1074), .int .i64 q6] rfl LMq ?_; (with_reducible refine (r4_To.calls q8 q2 q4 (fun k_ => ((P0_2_ k_ ∨ w.heap.size ≤ k_) ∧ k_ ≠ q1)) _ _ q3 (-1074) q6 qg q1z _ ?side1 A32.out).mono ?_); (case side1 => exact HO_210002.out); rintro e w36 ⟨v218, rfl, ho0, hb⟩; refine ⟨_, rfl, ?_⟩; replace HO_210002 := Aside0.mk (Kd.V_below (kV HO_210002) hb); have qo := Aside0.mk (Kd.V_lower (Kd.V_mono (ok' := fun k_ => (P0_2_ k_ ∨ w.heap.size ≤ k_) ∧ k_ ≠ q1) ho0 (fun k_ hk_ => ⟨Or.elim hk_ (fun hs_ => hs_.1) (fun hn_ => (.inr (Nat.le_trans (below_size (kHs HB q7)) hn_))), Or.elim hk_ (fun hs_ => hs_.2) (fun hn_ => (Kd.freshB (g := q1) (o := .cells #[.bool q2, .int .i64 q4, .slice qc q3.length qd] 67 (0, 0)) (kB q0) k_ hn_))⟩)) (below_size (kHs HB q7))); replace q0 := Aside0.mk (blk_below (g := q1) (o := .cells #[.bool q2, .int .i64 q4, .slice qc q3.length qd] 67 (0, 0)) (kB q0) hb); replace HB := Aside0.mk (below_step (kHs HB q7) hb); (try clear hb); (try clear hb2); (try clear hk); (try clear hi); (try clear ho0)))
         (try simp only [Act.put, List.setIfInBounds_toArray, List.set_cons_zero, List.set_cons_succ])
         go_cut [10] (fun v10 wc => ∃ (kq : Nat) (qu : Int), v10 = .int .i64 qu ∧ Aside0 (r4_Round.j3 kq q6 (-1074) qg qu q2 q4 q3 = some (r1, r2)) ∧ Aside0 (kq ≤ q8) ∧ Aside0 (Kd.V (Kd.int .u32) 41 wc w.heap.size (fun k_ => (P0_2_ k_ ∨ w.heap.size ≤ k_) ∧ k_ ≠ q1) v218 qg) ∧ Aside0 (Kd.V (Kd.int .u32) 41 wc w.heap.size (fun k_ => (P0_2_ k_ ∨ w.heap.size ≤ k_) ∧ k_ ≠ q1) (.slice qc q3.length qd) q3) ∧ Aside0 (wc.heap[q1]? = some (.cells #[.bool q2, .int .i64 q4, (.slice qc q3.length qd)] 67 (0, 0))) ∧ Aside0 (Below w.heap.size w wc))
         case first =>
          have H := q20.out; clear q20
          by_cases c37 : q1z = true
          · subst c37
            have H1 : ((r4_To.f q8 q2 q4 q3 (wrap64 (q5 - 53)) q6).bind fun q0i => ((r2_Len.f q8 q0i.1).bind fun ql => (if (wrap64 ((wrap64 (ql + q5)) - 53)) ≤ (-1022) then (r4_Round.j3 q8 q6 (-1074) qg 24 q2 q4 q3) else (r4_Round.j3 q8 q6 (-1074) qg 16 q2 q4 q3)))) = some (r1, r2) := by rw [if_pos rfl] at H; exact H
            clear H; have H := H1; clear H1; replace H := Option.bind_eq_some_iff.mp H; obtain ⟨⟨q0b, q2e⟩, q2f, H⟩ := H; replace H : ((r2_Len.f q8 q0b).bind fun ql => (if (wrap64 ((wrap64 (ql + q5)) - 53)) ≤ (-1022) then (r4_Round.j3 q8 q6 (-1074) qg 24 q2 q4 q3) else (r4_Round.j3 q8 q6 (-1074) qg 16 q2 q4 q3))) = some (r1, r2) := H; have A38 := Aside0.mk q2f; clear q2f; replace H := Option.bind_eq_some_iff.mp H; obtain ⟨ql, q2g, H⟩ := H; replace H : (if (wrap64 ((wrap64 (ql + q5)) - 53)) ≤ (-1022) then (r4_Round.j3 q8 q6 (-1074) qg 24 q2 q4 q3) else (r4_Round.j3 q8 q6 (-1074) qg 16 q2 q4 q3)) = some (r1, r2) := H; have A39 := Aside0.mk q2g; clear q2g
            by_cases c40 : (wrap64 ((wrap64 (ql + q5)) - 53)) ≤ (-1022)
            · rw [if_pos c40] at H
              have qz : decide ((wrap64 ((wrap64 (ql + q5)) - 53)) ≤ (-1022)) = true := decide_eq_true c40; clear c40
              (first | rw [qz] | (simp only [i64_w, i32_w]; rw [qz]) | skip)
              have H' := Aside0.mk H; clear H; have q1k : w36.cell? ⟨q1, 0, none⟩ = some (.bool q2) := bc q0 0; have q1l : w36.cell? ⟨q1, 1, none⟩ = some (.int .i64 q4) := bc q0 1; have q1m : w36.cell? ⟨q1, 2, none⟩ = some (.slice qc q3.length qd) := bc q0 2; have q1n := blk_frozen q0.out 0; have q1o := blk_frozen q0.out 1; have q1p := blk_frozen q0.out 2
              go_wp2_with (first | ((with_reducible refine gate_callee (f := 38) rfl ?_); refine goesL_ (some 64) rfl rfl Try.func38 (by kernel_rfl) rfl #[.agg #[.bool q2, .int .i64 q4, .slice qc q3.length qd], .int .i64 (wrap64 (q5 - 53)), .int .i64 q6] rfl LMq ?_; (with_reducible refine (r4_To.calls q8 q2 q4 (fun k_ => ((P0_2_ k_ ∨ w.heap.size ≤ k_) ∧ k_ ≠ q1)) _ _ q3 (wrap64 (q5 - 53)) q6 q0b q2e _ ?side1 A38.out).mono ?_); (case side1 => exact HO_210002.out); rintro e w42 ⟨v222, rfl, ho0, hb⟩; refine ⟨_, rfl, ?_⟩; replace HO_210002 := Aside0.mk (Kd.V_below (kV HO_210002) hb); replace qo := Aside0.mk (Kd.V_below (kV qo) hb); have qp := Aside0.mk (Kd.V_lower (Kd.V_mono (ok' := fun k_ => (P0_2_ k_ ∨ w.heap.size ≤ k_) ∧ k_ ≠ q1) ho0 (fun k_ hk_ => ⟨Or.elim hk_ (fun hs_ => hs_.1) (fun hn_ => (.inr (Nat.le_trans (below_size (kHs HB q7)) hn_))), Or.elim hk_ (fun hs_ => hs_.2) (fun hn_ => (Kd.freshB (g := q1) (o := .cells #[.bool q2, .int .i64 q4, .slice qc q3.length qd] 67 (0, 0)) (kB q0) k_ hn_))⟩)) (below_size (kHs HB q7))); replace q0 := Aside0.mk (blk_below (g := q1) (o := .cells #[.bool q2, .int .i64 q4, .slice qc q3.length qd] 67 (0, 0)) (kB q0) hb); replace HB := Aside0.mk (below_step (kHs HB q7) hb); (try clear hb); (try clear hb2); (try clear hk); (try clear hi); (try clear ho0); obtain ⟨q3z, q40, eo43⟩ := Kd.V_slice qp.out; subst eo43) | ((with_reducible refine gate_callee (f := 68) rfl ?_); refine goesL_ (some 68) rfl rfl Try.func68 (by kernel_rfl) rfl #[.slice q3z q0b.length q40] rfl LMq ?_; (with_reducible refine (r2_Len.calls q8 _ _ q0b ql _ ?side1 ?side2 A39.out).mono ?_); (case side1 => exact kC (Kd.V_reads' qp.out).2.2); (case side2 => exact (Kd.V_reads' qp.out).2.1); rintro e w44 ⟨rfl, hb⟩; refine ⟨_, rfl, ?_⟩; replace HO_210002 := Aside0.mk (Kd.V_below (kV HO_210002) hb); replace qo := Aside0.mk (Kd.V_below (kV qo) hb); replace qp := Aside0.mk (Kd.V_below (kV qp) hb); replace q0 := Aside0.mk (blk_below (g := q1) (o := .cells #[.bool q2, .int .i64 q4, .slice qc q3.length qd] 67 (0, 0)) (kB q0) hb); replace HB := Aside0.mk (below_step (kHs HB q7) hb); (try clear hb); (try clear hb2); (try clear hk); (try clear hi)))
              go_meet
              case rel => exact ⟨_, (24), RSq, (by first | exact H' | (subst_vars; exact H')), ⟨by have := HJ2.out; have := HJ5.out; have := qt.out; first | omega | exact Nat.le_refl _⟩, ⟨kV qo⟩, ⟨kV HO_210002⟩, ⟨kB q0⟩, ⟨kHs HB q7⟩⟩
            rw [if_neg c40] at H
            have qz : decide ((wrap64 ((wrap64 (ql + q5)) - 53)) ≤ (-1022)) = false := decide_eq_false c40; clear c40
            (first | rw [qz] | (simp only [i64_w, i32_w]; rw [qz]) | skip)
            have H' := Aside0.mk H; clear H; have q1q : w36.cell? ⟨q1, 0, none⟩ = some (.bool q2) := bc q0 0; have q1r : w36.cell? ⟨q1, 1, none⟩ = some (.int .i64 q4) := bc q0 1; have q1s : w36.cell? ⟨q1, 2, none⟩ = some (.slice qc q3.length qd) := bc q0 2; have q1t := blk_frozen q0.out 0; have q1u := blk_frozen q0.out 1; have q1v := blk_frozen q0.out 2
            go_wp2_with (first | ((with_reducible refine gate_callee (f := 38) rfl ?_); refine goesL_ (some 64) rfl rfl Try.func38 (by kernel_rfl) rfl #[.agg #[.bool q2, .int .i64 q4, .slice qc q3.length qd], .int .i64 (wrap64 (q5 - 53)), .int .i64 q6] rfl LMq ?_; (with_reducible refine (r4_To.calls q8 q2 q4 (fun k_ => ((P0_2_ k_ ∨ w.heap.size ≤ k_) ∧ k_ ≠ q1)) _ _ q3 (wrap64 (q5 - 53)) q6 q0b q2e _ ?side1 A38.out).mono ?_); (case side1 => exact HO_210002.out); rintro e w46 ⟨v222, rfl, ho0, hb⟩; refine ⟨_, rfl, ?_⟩; replace HO_210002 := Aside0.mk (Kd.V_below (kV HO_210002) hb); replace qo := Aside0.mk (Kd.V_below (kV qo) hb); have qp := Aside0.mk (Kd.V_lower (Kd.V_mono (ok' := fun k_ => (P0_2_ k_ ∨ w.heap.size ≤ k_) ∧ k_ ≠ q1) ho0 (fun k_ hk_ => ⟨Or.elim hk_ (fun hs_ => hs_.1) (fun hn_ => (.inr (Nat.le_trans (below_size (kHs HB q7)) hn_))), Or.elim hk_ (fun hs_ => hs_.2) (fun hn_ => (Kd.freshB (g := q1) (o := .cells #[.bool q2, .int .i64 q4, .slice qc q3.length qd] 67 (0, 0)) (kB q0) k_ hn_))⟩)) (below_size (kHs HB q7))); replace q0 := Aside0.mk (blk_below (g := q1) (o := .cells #[.bool q2, .int .i64 q4, .slice qc q3.length qd] 67 (0, 0)) (kB q0) hb); replace HB := Aside0.mk (below_step (kHs HB q7) hb); (try clear hb); (try clear hb2); (try clear hk); (try clear hi); (try clear ho0); obtain ⟨q41, q42, eo47⟩ := Kd.V_slice qp.out; subst eo47) | ((with_reducible refine gate_callee (f := 68) rfl ?_); refine goesL_ (some 68) rfl rfl Try.func68 (by kernel_rfl) rfl #[.slice q41 q0b.length q42] rfl LMq ?_; (with_reducible refine (r2_Len.calls q8 _ _ q0b ql _ ?side1 ?side2 A39.out).mono ?_); (case side1 => exact kC (Kd.V_reads' qp.out).2.2); (case side2 => exact (Kd.V_reads' qp.out).2.1); rintro e w48 ⟨rfl, hb⟩; refine ⟨_, rfl, ?_⟩; replace HO_210002 := Aside0.mk (Kd.V_below (kV HO_210002) hb); replace qo := Aside0.mk (Kd.V_below (kV qo) hb); replace qp := Aside0.mk (Kd.V_below (kV qp) hb); replace q0 := Aside0.mk (blk_below (g := q1) (o := .cells #[.bool q2, .int .i64 q4, .slice qc q3.length qd] 67 (0, 0)) (kB q0) hb); replace HB := Aside0.mk (below_step (kHs HB q7) hb); (try clear hb); (try clear hb2); (try clear hk); (try clear hi)))
            go_meet
            case rel => exact ⟨_, (16), RSq, (by first | exact H' | (subst_vars; exact H')), ⟨by have := HJ2.out; have := HJ5.out; have := qt.out; first | omega | exact Nat.le_refl _⟩, ⟨kV qo⟩, ⟨kV HO_210002⟩, ⟨kB q0⟩, ⟨kHs HB q7⟩⟩
          replace c37 := Bool.eq_false_iff.mpr c37; subst c37
          have H1 : (r4_Round.j3 q8 q6 (-1074) qg 0 q2 q4 q3) = some (r1, r2) := by rw [if_neg (show ¬ (false = true) by decide)] at H; exact H
          clear H; have H := H1; clear H1; have H' := Aside0.mk H; clear H
          go_wp2
          go_meet
          case rel => exact ⟨_, (0), RSq, (by first | exact H' | (subst_vars; exact H')), ⟨by have := HJ2.out; have := HJ5.out; have := qt.out; first | omega | exact Nat.le_refl _⟩, ⟨kV qo⟩, ⟨kV HO_210002⟩, ⟨kB q0⟩, ⟨kHs HB q7⟩⟩
         case rest =>
          clear q20; (try clear c1); (try clear c2); (try clear p2); (try clear c3); (try clear c4); (try clear c5); (try clear qn); (try clear c6); (try clear p6); (try clear c7); (try clear c8); (try clear q0e); (try clear q0f); (try clear q0q); (try clear c12); (try clear q0g); (try clear c23); (try clear qs); (try clear c31); (try clear q13); (try clear c33); (try clear c37); (try clear c38); (try clear c40); (try clear qz); (try clear q0k q0l q0m); (try clear q0r q0s q0t); (try clear q0x q0y q0z); (try clear q1e q1f q1g); (try clear q1k q1l q1m); (try clear q1q q1r q1s); (try clear q0n q0o q0p); (try clear q0u q0v q0w); (try clear q10 q11 q12); (try clear q1h q1i q1j); (try clear q1n q1o q1p); (try clear q1t q1u q1v); (try clear p2); (try clear p6); obtain ⟨kq, qu, rfl, HA, q2h, HO_8, HO_210002, q0, HB⟩ := hcut
          cases kq with
          | zero => exact absurd HA.out (by simp [r4_Round.j3])
          | succ q00 =>
           have H := HA.out; clear HA
           simp only [r4_Round.j3] at H
           replace H := Option.bind_eq_some_iff.mp H; obtain ⟨q04, q2i, H⟩ := H; replace H : (if (wrap64 (q04 + (-1074))) > 1024 then ((r4_over.f q2 q6).bind fun q05 => ((r4_signed.f q05 q2).bind fun q06 => (some (q06, 20)))) else ((r2_Low.f q00 qg).bind fun qj => (if qj = 9007199254740992 then (r4_Round.j4 q00 (wrap64 ((-1074) + 1)) qu 4503599627370496 q2 q4 q3) else (r4_Round.j4 q00 (-1074) qu qj q2 q4 q3)))) = some (r1, r2) := H; have A49 := Aside0.mk q2i; clear q2i
           by_cases c50 : (wrap64 (q04 + (-1074))) > 1024
           · rw [if_pos c50] at H
             have q1w : decide (1024 < (wrap64 (q04 + (-1074)))) = true := decide_eq_true c50; clear c50; replace H := Option.bind_eq_some_iff.mp H; obtain ⟨q05, q2j, H⟩ := H; replace H : ((r4_signed.f q05 q2).bind fun q06 => (some (q06, 20))) = some (r1, r2) := H; have A51 := Aside0.mk q2j; clear q2j; replace H := Option.bind_eq_some_iff.mp H; obtain ⟨q06, q2k, H⟩ := H; replace H : (some (q06, 20)) = some (r1, r2) := H; have A52 := Aside0.mk q2k; clear q2k
             simp only [Option.some.injEq, Prod.mk.injEq] at H
             obtain ⟨rfl, rfl⟩ := H; obtain ⟨q43, q44, eo53⟩ := Kd.V_slice HO_8.out; subst eo53
             try go_wp2_with (first | ((with_reducible refine gate_callee (f := 68) rfl ?_); refine goesL_ (some 74) rfl rfl Try.func68 (by kernel_rfl) rfl #[.slice q43 qg.length q44] rfl LMq ?_; (with_reducible refine (r2_Len.calls q00 _ _ qg q04 _ ?side1 ?side2 A49.out).mono ?_); (case side1 => exact kC (Kd.V_reads' HO_8.out).2.2); (case side2 => exact (Kd.V_reads' HO_8.out).2.1); rintro e w54 ⟨rfl, hb⟩; refine ⟨_, rfl, ?_⟩; replace HO_8 := Aside0.mk (Kd.V_below (kV HO_8) hb); replace HO_210002 := Aside0.mk (Kd.V_below (kV HO_210002) hb); replace q0 := Aside0.mk (blk_below (g := q1) (o := .cells #[.bool q2, .int .i64 q4, .slice qc q3.length qd] 67 (0, 0)) (kB q0) hb); replace HB := Aside0.mk (below_step (kHs HB q7) hb); (try clear hb); (try clear hb2); (try clear hk); (try clear hi)))
             replace HO_8 := Aside0.mk (Kd.V_drew HO_8.out); replace HO_210002 := Aside0.mk (Kd.V_drew HO_210002.out); replace q0 := Aside0.mk (blk_drew q0.out); replace HB := Aside0.mk (below_drew1 HB.out); refine start_ (n := 9) (S := fun w' => w'.cell? ⟨q1, 0, none⟩ = some (.bool q2) ∧ w'.cell? ⟨q1, 1, none⟩ = some (.int .i64 q4) ∧ w'.cell? ⟨q1, 2, none⟩ = some (.slice qc q3.length qd)) (ds := []) #[false, false, false, false, false, false, false, false, false] (by kernel_rfl) rfl rfl ⟨bc q0 0, bc q0 1, bc q0 2⟩ (fun hHeld => ?_); refine with_tabW r4_Round.tab20 r4_Round.bits20 (fun HT_ HW_ => ?_)
             generalize w54.drew = w55 at HO_8 HO_210002 q0 HB hHeld ⊢
             refine pure_ (i := 0) (N := some 78) (v := ?_) (a' := ?_) #[true, false, false, false, false, false, false, false, false] rfl rfl (any_of HT_.out (by kernel_rfl)) (fun _ _ _ h => h) (Or.inl ⟨by rfl, ?_⟩) ?_ ?_; rotate_left
             · intro w'
               go_simp
               with_reducible rfl
             rotate_left
             · exact APq
             refine pure_ (i := 2) (N := some 80) (v := ?_) (a' := ?_) #[true, false, true, false, false, false, false, false, false] rfl rfl (any_of HT_.out (by kernel_rfl)) (fun _ _ _ h => h) (Or.inl ⟨by rfl, ?_⟩) ?_ ?_; rotate_left
             · intro w'
               go_simp
               with_reducible rfl
             rotate_left
             · exact APq
             refine pure_ (i := 4) (N := some 82) (v := ?_) (a' := ?_) #[true, false, true, false, true, false, false, false, false] rfl rfl (any_of HT_.out (by kernel_rfl)) (fun _ _ _ h => h) (Or.inl ⟨by rfl, ?_⟩) ?_ ?_; rotate_left
             · intro w'
               go_simp
               with_reducible rfl
             rotate_left
             · exact APq
             refine take_ (i := 1) (N := some 79) (v := ?_) (a' := ?_) #[true, true, true, false, true, false, false, false, false] rfl rfl (take_ofW HT_.out HW_.out (by kernel_rfl)) (fun _ _ _ h => h) (Or.inl ⟨by rfl, ?_⟩) hHeld ?_ ?_; rotate_left
             · rintro w' ⟨s0, s1, s2⟩
               go_simp
               with_reducible rfl
             rotate_left
             · exact APq
             refine take_ (i := 5) (N := some 83) (v := ?_) (a' := ?_) #[true, true, true, false, true, true, false, false, false] rfl rfl (take_ofW HT_.out HW_.out (by kernel_rfl)) (fun _ _ _ h => h) (Or.inl ⟨by rfl, ?_⟩) hHeld ?_ ?_; rotate_left
             · rintro w' ⟨s0, s1, s2⟩
               go_simp
               with_reducible rfl
             rotate_left
             · exact APq
             refine one_ (i := 3) (N := some 81) #[true, true, true, true, true, true, false, false, false] rfl rfl (one_of HT_.out (by kernel_rfl)) (by decide) (fun K hK => ?_); refine goes_ Try.func69 (by kernel_rfl) rfl #[.bool q2, .int .i64 q6] (by rfl) rfl rfl LMq ?_
             with_reducible refine (r4_over.calls q2 q6 q05 _ A51.out).mono ?_
             rintro e w' ⟨rfl, ⟨nd, rfl⟩⟩; refine ⟨_, rfl, ?_⟩; refine hK.out _ _ ⟨bc q0 0, bc q0 1, bc q0 2⟩ (fun hHeld => ?_); clear hK K; refine norm_ (a' := ?_) ?_ ?_; rotate_left
             · show Act.put _ (some 81) _ = _
               exact APq
             refine one_ (i := 6) (N := some 84) #[true, true, true, true, true, true, true, false, false] rfl rfl (one_of HT_.out (by kernel_rfl)) (by decide) (fun K hK => ?_); refine goes_ Try.func67 (by kernel_rfl) rfl #[.int .u64 q05, .bool q2] (by rfl) rfl rfl LMq ?_
             with_reducible refine (r4_signed.calls q05 q2 q06 _ A52.out).mono ?_
             rintro e w' ⟨rfl, ⟨nd, rfl⟩⟩; refine ⟨_, rfl, ?_⟩; refine hK.out _ _ ⟨bc q0 0, bc q0 1, bc q0 2⟩ (fun hHeld => ?_); clear hK K; refine norm_ (a' := ?_) ?_ ?_; rotate_left
             · show Act.put _ (some 84) _ = _
               exact APq
             refine pure_ (i := 7) (N := some 4) (v := ?_) (a' := ?_) #[true, true, true, true, true, true, true, true, false] rfl rfl (any_of HT_.out (by kernel_rfl)) (fun _ _ _ h => h) (Or.inl ⟨by rfl, ?_⟩) ?_ ?_; rotate_left
             · intro w'
               go_simp
               with_reducible rfl
             rotate_left
             · exact APq
             refine pure_ (i := 8) (N := some 5) (v := ?_) (a' := ?_) #[true, true, true, true, true, true, true, true, true] rfl rfl (any_of HT_.out (by kernel_rfl)) (fun _ _ _ h => h) (Or.inl ⟨by rfl, ?_⟩) ?_ ?_; rotate_left
             · intro w'
               go_simp
               with_reducible rfl
             rotate_left
             · exact APq
             refine done_ (done_of HT_.out (by kernel_rfl)) ?_
             try go_wp2
             go_ret2
             exact ⟨by first | rfl | (simp [errW_none, errW_some] <;> rfl) | (simp [*, errW_none, errW_some] <;> rfl), kHs HB q7⟩
           rw [if_neg c50] at H
           have q1w : decide (1024 < (wrap64 (q04 + (-1074)))) = false := decide_eq_false c50; clear c50; replace H := Option.bind_eq_some_iff.mp H; obtain ⟨qj, q2l, H⟩ := H; replace H : (if qj = 9007199254740992 then (r4_Round.j4 q00 (wrap64 ((-1074) + 1)) qu 4503599627370496 q2 q4 q3) else (r4_Round.j4 q00 (-1074) qu qj q2 q4 q3)) = some (r1, r2) := H; have A56 := Aside0.mk q2l; clear q2l; have q21 := Aside0.mk H; clear H; obtain ⟨q2m, q2n, eo58⟩ := Kd.V_slice HO_8.out; subst eo58
           go_upto_if 88 with (first | ((with_reducible refine gate_callee (f := 68) rfl ?_); refine goesL_ (some 74) rfl rfl Try.func68 (by kernel_rfl) rfl #[.slice q2m qg.length q2n] rfl LMq ?_; (with_reducible refine (r2_Len.calls q00 _ _ qg q04 _ ?side1 ?side2 A49.out).mono ?_); (case side1 => exact kC (Kd.V_reads' HO_8.out).2.2); (case side2 => exact (Kd.V_reads' HO_8.out).2.1); rintro e w59 ⟨rfl, hb⟩; refine ⟨_, rfl, ?_⟩; replace HO_8 := Aside0.mk (Kd.V_below (kV HO_8) hb); replace HO_210002 := Aside0.mk (Kd.V_below (kV HO_210002) hb); replace q0 := Aside0.mk (blk_below (g := q1) (o := .cells #[.bool q2, .int .i64 q4, .slice qc q3.length qd] 67 (0, 0)) (kB q0) hb); replace HB := Aside0.mk (below_step (kHs HB q7) hb); (try clear hb); (try clear hb2); (try clear hk); (try clear hi)) | ((with_reducible refine gate_callee (f := 41) rfl ?_); refine goesL_ (some 86) rfl rfl Try.func41 (by kernel_rfl) rfl #[.slice q2m qg.length q2n] rfl LMq ?_; (with_reducible refine (r2_Low.calls q00 _ _ qg qj _ ?side1 ?side2 A56.out).mono ?_); (case side1 => exact kC (Kd.V_reads' HO_8.out).2.2); (case side2 => exact (Kd.V_reads' HO_8.out).2.1); rintro e w60 ⟨rfl, hb⟩; refine ⟨_, rfl, ?_⟩; replace HO_8 := Aside0.mk (Kd.V_below (kV HO_8) hb); replace HO_210002 := Aside0.mk (Kd.V_below (kV HO_210002) hb); replace q0 := Aside0.mk (blk_below (g := q1) (o := .cells #[.bool q2, .int .i64 q4, .slice qc q3.length qd] 67 (0, 0)) (kB q0) hb); replace HB := Aside0.mk (below_step (kHs HB q7) hb); (try clear hb); (try clear hb2); (try clear hk); (try clear hi)))
           (try simp only [Act.put, List.setIfInBounds_toArray, List.set_cons_zero, List.set_cons_succ])
           go_cut [7, 13] (fun v7 v13 wc => ∃ (kq : Nat) (q14 : Int) (qv : Int), v7 = .int .i64 q14 ∧ v13 = .int .u64 qv ∧ Aside0 (r4_Round.j4 kq q14 qu qv q2 q4 q3 = some (r1, r2)) ∧ Aside0 (kq ≤ q00) ∧ Aside0 (Kd.V (Kd.int .u32) 41 wc w.heap.size (fun k_ => (P0_2_ k_ ∨ w.heap.size ≤ k_) ∧ k_ ≠ q1) (.slice qc q3.length qd) q3) ∧ Aside0 (wc.heap[q1]? = some (.cells #[.bool q2, .int .i64 q4, (.slice qc q3.length qd)] 67 (0, 0))) ∧ Aside0 (Below w.heap.size w wc))
           case first =>
            have H := q21.out; clear q21
            by_cases c61 : qj = 9007199254740992
            · rw [if_pos c61] at H
              have q0a : (qj == 9007199254740992) = true := beq_iff_eq.mpr c61; have q1x : (qj != 9007199254740992) = false := bne_eq_false_iff_eq.mpr c61; clear c61
              (first | rw [q0a] | (simp only [i64_w, i32_w]; rw [q0a]) | skip)
              have H' := Aside0.mk H; clear H
              go_wp2
              go_meet
              case rel => exact ⟨_, (wrap64 ((-1074) + 1)), (4503599627370496), RSq, RSq, (by first | exact H' | (subst_vars; exact H')), ⟨by have := HJ2.out; have := HJ5.out; have := qt.out; have := q2h.out; first | omega | exact Nat.le_refl _⟩, ⟨kV HO_210002⟩, ⟨kB q0⟩, ⟨kHs HB q7⟩⟩
            rw [if_neg c61] at H
            have q0a : (qj == 9007199254740992) = false := beq_eq_false_iff_ne.mpr c61; have q1x : (qj != 9007199254740992) = true := bne_iff_ne.mpr c61
            (first | rw [q0a] | (simp only [i64_w, i32_w]; rw [q0a]) | skip)
            have H' := Aside0.mk H; clear H
            go_wp2
            go_meet
            case rel => exact ⟨_, ((-1074)), (qj), RSq, RSq, (by first | exact H' | (subst_vars; exact H')), ⟨by have := HJ2.out; have := HJ5.out; have := qt.out; have := q2h.out; first | omega | exact Nat.le_refl _⟩, ⟨kV HO_210002⟩, ⟨kB q0⟩, ⟨kHs HB q7⟩⟩
           case rest =>
            clear q21; (try clear c1); (try clear c2); (try clear p2); (try clear c3); (try clear c4); (try clear c5); (try clear qn); (try clear c6); (try clear p6); (try clear c7); (try clear c8); (try clear q0e); (try clear q0f); (try clear q0q); (try clear c12); (try clear q0g); (try clear c23); (try clear qs); (try clear c31); (try clear q13); (try clear c33); (try clear c37); (try clear c38); (try clear c40); (try clear qz); (try clear c41); (try clear c50); (try clear q1w); (try clear c61); (try clear q0a); (try clear q1x); (try clear q0k q0l q0m); (try clear q0r q0s q0t); (try clear q0x q0y q0z); (try clear q1e q1f q1g); (try clear q1k q1l q1m); (try clear q1q q1r q1s); (try clear q0n q0o q0p); (try clear q0u q0v q0w); (try clear q10 q11 q12); (try clear q1h q1i q1j); (try clear q1n q1o q1p); (try clear q1t q1u q1v); (try clear p2); (try clear p6); obtain ⟨kq, q14, qv, rfl, rfl, HA, HJ56, HO_210002, q0, HB⟩ := hcut
            cases kq with
            | zero => exact absurd HA.out (by simp [r4_Round.j4])
            | succ kj56 =>
             have H := HA.out; clear HA
             simp only [r4_Round.j4] at H
             by_cases c62 : qv ≥ 4503599627370496
             · rw [if_pos c62] at H
               have q22 : decide (4503599627370496 ≤ qv) = true := decide_eq_true c62; clear c62; replace H := Option.bind_eq_some_iff.mp H; obtain ⟨q19, q2o, H⟩ := H; replace H : (some (q19, qu)) = some (r1, r2) := H; have A63 := Aside0.mk q2o; clear q2o
               simp only [Option.some.injEq, Prod.mk.injEq] at H
               obtain ⟨rfl, rfl⟩ := H; have q2p : wc.cell? ⟨q1, 0, none⟩ = some (.bool q2) := bc q0 0; have q2q : wc.cell? ⟨q1, 1, none⟩ = some (.int .i64 q4) := bc q0 1; have q2r : wc.cell? ⟨q1, 2, none⟩ = some (.slice qc q3.length qd) := bc q0 2; have q2s := blk_frozen q0.out 0; have q2t := blk_frozen q0.out 1; have q2u := blk_frozen q0.out 2
               go_wp2_with (first | ((with_reducible refine gate_callee (f := 67) rfl ?_); refine goesL_ (some 102) rfl rfl Try.func67 (by kernel_rfl) rfl #[.int .u64 (IntKind.u64.wrap ((IntKind.u64.wrap ((IntKind.u64.wrap ((IntKind.u64.wrap (wrap64 (q14 + 1075))) * 4503599627370496)) + qv)) - 4503599627370496)), .bool q2] rfl LMq ?_; (with_reducible refine (r4_signed.calls (IntKind.u64.wrap ((IntKind.u64.wrap ((IntKind.u64.wrap ((IntKind.u64.wrap (wrap64 (q14 + 1075))) * 4503599627370496)) + qv)) - 4503599627370496)) q2 q19 _ A63.out).mono ?_); rintro e w' ⟨rfl, ⟨nd, rfl⟩⟩; refine ⟨_, rfl, ?_⟩))
               go_ret2
               exact ⟨by first | rfl | (simp [errW_none, errW_some] <;> rfl) | (simp [*, errW_none, errW_some] <;> rfl), kHs HB q7⟩
             rw [if_neg c62] at H
             have q22 : decide (4503599627370496 ≤ qv) = false := decide_eq_false c62; clear c62; replace H := Option.bind_eq_some_iff.mp H; obtain ⟨q1a, q2v, H⟩ := H; replace H : (some (q1a, qu)) = some (r1, r2) := H; have A65 := Aside0.mk q2v; clear q2v
             simp only [Option.some.injEq, Prod.mk.injEq] at H
             obtain ⟨rfl, rfl⟩ := H; have q2w : wc.cell? ⟨q1, 0, none⟩ = some (.bool q2) := bc q0 0; have q2x : wc.cell? ⟨q1, 1, none⟩ = some (.int .i64 q4) := bc q0 1; have q2y : wc.cell? ⟨q1, 2, none⟩ = some (.slice qc q3.length qd) := bc q0 2; have q2z := blk_frozen q0.out 0; have q30 := blk_frozen q0.out 1; have q31 := blk_frozen q0.out 2
             go_wp2_with (first | ((with_reducible refine gate_callee (f := 67) rfl ?_); refine goesL_ (some 107) rfl rfl Try.func67 (by kernel_rfl) rfl #[.int .u64 qv, .bool q2] rfl LMq ?_; (with_reducible refine (r4_signed.calls qv q2 q1a _ A65.out).mono ?_); rintro e w' ⟨rfl, ⟨nd, rfl⟩⟩; refine ⟨_, rfl, ?_⟩))
             go_ret2
             exact ⟨by first | rfl | (simp [errW_none, errW_some] <;> rfl) | (simp [*, errW_none, errW_some] <;> rfl), kHs HB q7⟩
       rw [if_neg c31] at H
       have c31i := eq_false c31; have q13 : decide ((wrap64 (q5 - 53)) < (-1074)) = false := decide_eq_false c31; clear c31; replace H := Option.bind_eq_some_iff.mp H; obtain ⟨⟨qh, q23⟩, q32, H⟩ := H; replace H : (if q23 = true then ((r4_To.f q8 q2 q4 q3 (wrap64 (q5 - 53)) q6).bind fun q0j => ((r2_Len.f q8 q0j.1).bind fun qm => (if (wrap64 ((wrap64 (qm + q5)) - 53)) ≤ (-1022) then (r4_Round.j5 q8 q6 (wrap64 (q5 - 53)) qh 24 q2 q4 q3) else (r4_Round.j5 q8 q6 (wrap64 (q5 - 53)) qh 16 q2 q4 q3)))) else (r4_Round.j5 q8 q6 (wrap64 (q5 - 53)) qh 0 q2 q4 q3)) = some (r1, r2) := H; have A67 := Aside0.mk q32; clear q32; have q24 := Aside0.mk H; clear H; have q33 : wc.cell? ⟨q1, 0, none⟩ = some (.bool q2) := bc q0 0; have q34 : wc.cell? ⟨q1, 1, none⟩ = some (.int .i64 q4) := bc q0 1; have q35 : wc.cell? ⟨q1, 2, none⟩ = some (u210002) := bc q0 2; have q36 := blk_frozen q0.out 0; have q37 := blk_frozen q0.out 1; have q38 := blk_frozen q0.out 2; obtain ⟨qe, qf, eo70⟩ := Kd.V_slice HO_210002.out; subst eo70
       go_upto_if 58 with (first | ((with_reducible refine gate_callee (f := 38) rfl ?_); refine goesL_ (some 55) rfl rfl Try.func38 (by kernel_rfl) rfl #[.agg #[.bool q2, .int .i64 q4, .slice qe q3.length qf], .int .i64 (wrap64 (q5 - 53)), .int .i64 q6] rfl LMq ?_; (with_reducible refine (r4_To.calls q8 q2 q4 (fun k_ => ((P0_2_ k_ ∨ w.heap.size ≤ k_) ∧ k_ ≠ q1)) _ _ q3 (wrap64 (q5 - 53)) q6 qh q23 _ ?side1 A67.out).mono ?_); (case side1 => exact HO_210002.out); rintro e w71 ⟨v233, rfl, ho0, hb⟩; refine ⟨_, rfl, ?_⟩; replace HO_210002 := Aside0.mk (Kd.V_below (kV HO_210002) hb); have qq := Aside0.mk (Kd.V_lower (Kd.V_mono (ok' := fun k_ => (P0_2_ k_ ∨ w.heap.size ≤ k_) ∧ k_ ≠ q1) ho0 (fun k_ hk_ => ⟨Or.elim hk_ (fun hs_ => hs_.1) (fun hn_ => (.inr (Nat.le_trans (below_size (kHs HB q7)) hn_))), Or.elim hk_ (fun hs_ => hs_.2) (fun hn_ => (Kd.freshB (g := q1) (o := .cells #[.bool q2, .int .i64 q4, .slice qe q3.length qf] 67 (0, 0)) (kB q0) k_ hn_))⟩)) (below_size (kHs HB q7))); replace q0 := Aside0.mk (blk_below (g := q1) (o := .cells #[.bool q2, .int .i64 q4, .slice qe q3.length qf] 67 (0, 0)) (kB q0) hb); replace HB := Aside0.mk (below_step (kHs HB q7) hb); (try clear hb); (try clear hb2); (try clear hk); (try clear hi); (try clear ho0)))
       (try simp only [Act.put, List.setIfInBounds_toArray, List.set_cons_zero, List.set_cons_succ])
       go_cut [10] (fun v10 wc => ∃ (kq : Nat) (qw : Int), v10 = .int .i64 qw ∧ Aside0 (r4_Round.j5 kq q6 (wrap64 (q5 - 53)) qh qw q2 q4 q3 = some (r1, r2)) ∧ Aside0 (kq ≤ q8) ∧ Aside0 (Kd.V (Kd.int .u32) 41 wc w.heap.size (fun k_ => (P0_2_ k_ ∨ w.heap.size ≤ k_) ∧ k_ ≠ q1) v233 qh) ∧ Aside0 (Kd.V (Kd.int .u32) 41 wc w.heap.size (fun k_ => (P0_2_ k_ ∨ w.heap.size ≤ k_) ∧ k_ ≠ q1) (.slice qe q3.length qf) q3) ∧ Aside0 (wc.heap[q1]? = some (.cells #[.bool q2, .int .i64 q4, (.slice qe q3.length qf)] 67 (0, 0))) ∧ Aside0 (Below w.heap.size w wc))
       case first =>
        have H := q24.out; clear q24
        by_cases c72 : q23 = true
        · subst c72
          have H1 : ((r4_To.f q8 q2 q4 q3 (wrap64 (q5 - 53)) q6).bind fun q0j => ((r2_Len.f q8 q0j.1).bind fun qm => (if (wrap64 ((wrap64 (qm + q5)) - 53)) ≤ (-1022) then (r4_Round.j5 q8 q6 (wrap64 (q5 - 53)) qh 24 q2 q4 q3) else (r4_Round.j5 q8 q6 (wrap64 (q5 - 53)) qh 16 q2 q4 q3)))) = some (r1, r2) := by rw [if_pos rfl] at H; exact H
          clear H; have H := H1; clear H1; replace H := Option.bind_eq_some_iff.mp H; obtain ⟨⟨q0c, q39⟩, q3a, H⟩ := H; replace H : ((r2_Len.f q8 q0c).bind fun qm => (if (wrap64 ((wrap64 (qm + q5)) - 53)) ≤ (-1022) then (r4_Round.j5 q8 q6 (wrap64 (q5 - 53)) qh 24 q2 q4 q3) else (r4_Round.j5 q8 q6 (wrap64 (q5 - 53)) qh 16 q2 q4 q3))) = some (r1, r2) := H; have A73 := Aside0.mk q3a; clear q3a; replace H := Option.bind_eq_some_iff.mp H; obtain ⟨qm, q3b, H⟩ := H; replace H : (if (wrap64 ((wrap64 (qm + q5)) - 53)) ≤ (-1022) then (r4_Round.j5 q8 q6 (wrap64 (q5 - 53)) qh 24 q2 q4 q3) else (r4_Round.j5 q8 q6 (wrap64 (q5 - 53)) qh 16 q2 q4 q3)) = some (r1, r2) := H; have A74 := Aside0.mk q3b; clear q3b
          by_cases c75 : (wrap64 ((wrap64 (qm + q5)) - 53)) ≤ (-1022)
          · rw [if_pos c75] at H
            have q0d : decide ((wrap64 ((wrap64 (qm + q5)) - 53)) ≤ (-1022)) = true := decide_eq_true c75; clear c75
            (first | rw [q0d] | (simp only [i64_w, i32_w]; rw [q0d]) | skip)
            have H' := Aside0.mk H; clear H; have q3c : w71.cell? ⟨q1, 0, none⟩ = some (.bool q2) := bc q0 0; have q3d : w71.cell? ⟨q1, 1, none⟩ = some (.int .i64 q4) := bc q0 1; have q3e : w71.cell? ⟨q1, 2, none⟩ = some (.slice qe q3.length qf) := bc q0 2; have q3f := blk_frozen q0.out 0; have q3g := blk_frozen q0.out 1; have q3h := blk_frozen q0.out 2
            go_wp2_with (first | ((with_reducible refine gate_callee (f := 38) rfl ?_); refine goesL_ (some 64) rfl rfl Try.func38 (by kernel_rfl) rfl #[.agg #[.bool q2, .int .i64 q4, .slice qe q3.length qf], .int .i64 (wrap64 (q5 - 53)), .int .i64 q6] rfl LMq ?_; (with_reducible refine (r4_To.calls q8 q2 q4 (fun k_ => ((P0_2_ k_ ∨ w.heap.size ≤ k_) ∧ k_ ≠ q1)) _ _ q3 (wrap64 (q5 - 53)) q6 q0c q39 _ ?side1 A73.out).mono ?_); (case side1 => exact HO_210002.out); rintro e w77 ⟨v237, rfl, ho0, hb⟩; refine ⟨_, rfl, ?_⟩; replace HO_210002 := Aside0.mk (Kd.V_below (kV HO_210002) hb); replace qq := Aside0.mk (Kd.V_below (kV qq) hb); have qr := Aside0.mk (Kd.V_lower (Kd.V_mono (ok' := fun k_ => (P0_2_ k_ ∨ w.heap.size ≤ k_) ∧ k_ ≠ q1) ho0 (fun k_ hk_ => ⟨Or.elim hk_ (fun hs_ => hs_.1) (fun hn_ => (.inr (Nat.le_trans (below_size (kHs HB q7)) hn_))), Or.elim hk_ (fun hs_ => hs_.2) (fun hn_ => (Kd.freshB (g := q1) (o := .cells #[.bool q2, .int .i64 q4, .slice qe q3.length qf] 67 (0, 0)) (kB q0) k_ hn_))⟩)) (below_size (kHs HB q7))); replace q0 := Aside0.mk (blk_below (g := q1) (o := .cells #[.bool q2, .int .i64 q4, .slice qe q3.length qf] 67 (0, 0)) (kB q0) hb); replace HB := Aside0.mk (below_step (kHs HB q7) hb); (try clear hb); (try clear hb2); (try clear hk); (try clear hi); (try clear ho0); obtain ⟨q45, q46, eo78⟩ := Kd.V_slice qr.out; subst eo78) | ((with_reducible refine gate_callee (f := 68) rfl ?_); refine goesL_ (some 68) rfl rfl Try.func68 (by kernel_rfl) rfl #[.slice q45 q0c.length q46] rfl LMq ?_; (with_reducible refine (r2_Len.calls q8 _ _ q0c qm _ ?side1 ?side2 A74.out).mono ?_); (case side1 => exact kC (Kd.V_reads' qr.out).2.2); (case side2 => exact (Kd.V_reads' qr.out).2.1); rintro e w79 ⟨rfl, hb⟩; refine ⟨_, rfl, ?_⟩; replace HO_210002 := Aside0.mk (Kd.V_below (kV HO_210002) hb); replace qq := Aside0.mk (Kd.V_below (kV qq) hb); replace qr := Aside0.mk (Kd.V_below (kV qr) hb); replace q0 := Aside0.mk (blk_below (g := q1) (o := .cells #[.bool q2, .int .i64 q4, .slice qe q3.length qf] 67 (0, 0)) (kB q0) hb); replace HB := Aside0.mk (below_step (kHs HB q7) hb); (try clear hb); (try clear hb2); (try clear hk); (try clear hi)))
            go_meet
            case rel => exact ⟨_, (24), RSq, (by first | exact H' | (subst_vars; exact H')), ⟨by have := HJ2.out; have := HJ5.out; have := qt.out; first | omega | exact Nat.le_refl _⟩, ⟨kV qq⟩, ⟨kV HO_210002⟩, ⟨kB q0⟩, ⟨kHs HB q7⟩⟩
          rw [if_neg c75] at H
          have q0d : decide ((wrap64 ((wrap64 (qm + q5)) - 53)) ≤ (-1022)) = false := decide_eq_false c75; clear c75
          (first | rw [q0d] | (simp only [i64_w, i32_w]; rw [q0d]) | skip)
          have H' := Aside0.mk H; clear H; have q3i : w71.cell? ⟨q1, 0, none⟩ = some (.bool q2) := bc q0 0; have q3j : w71.cell? ⟨q1, 1, none⟩ = some (.int .i64 q4) := bc q0 1; have q3k : w71.cell? ⟨q1, 2, none⟩ = some (.slice qe q3.length qf) := bc q0 2; have q3l := blk_frozen q0.out 0; have q3m := blk_frozen q0.out 1; have q3n := blk_frozen q0.out 2
          go_wp2_with (first | ((with_reducible refine gate_callee (f := 38) rfl ?_); refine goesL_ (some 64) rfl rfl Try.func38 (by kernel_rfl) rfl #[.agg #[.bool q2, .int .i64 q4, .slice qe q3.length qf], .int .i64 (wrap64 (q5 - 53)), .int .i64 q6] rfl LMq ?_; (with_reducible refine (r4_To.calls q8 q2 q4 (fun k_ => ((P0_2_ k_ ∨ w.heap.size ≤ k_) ∧ k_ ≠ q1)) _ _ q3 (wrap64 (q5 - 53)) q6 q0c q39 _ ?side1 A73.out).mono ?_); (case side1 => exact HO_210002.out); rintro e w81 ⟨v237, rfl, ho0, hb⟩; refine ⟨_, rfl, ?_⟩; replace HO_210002 := Aside0.mk (Kd.V_below (kV HO_210002) hb); replace qq := Aside0.mk (Kd.V_below (kV qq) hb); have qr := Aside0.mk (Kd.V_lower (Kd.V_mono (ok' := fun k_ => (P0_2_ k_ ∨ w.heap.size ≤ k_) ∧ k_ ≠ q1) ho0 (fun k_ hk_ => ⟨Or.elim hk_ (fun hs_ => hs_.1) (fun hn_ => (.inr (Nat.le_trans (below_size (kHs HB q7)) hn_))), Or.elim hk_ (fun hs_ => hs_.2) (fun hn_ => (Kd.freshB (g := q1) (o := .cells #[.bool q2, .int .i64 q4, .slice qe q3.length qf] 67 (0, 0)) (kB q0) k_ hn_))⟩)) (below_size (kHs HB q7))); replace q0 := Aside0.mk (blk_below (g := q1) (o := .cells #[.bool q2, .int .i64 q4, .slice qe q3.length qf] 67 (0, 0)) (kB q0) hb); replace HB := Aside0.mk (below_step (kHs HB q7) hb); (try clear hb); (try clear hb2); (try clear hk); (try clear hi); (try clear ho0); obtain ⟨q47, q48, eo82⟩ := Kd.V_slice qr.out; subst eo82) | ((with_reducible refine gate_callee (f := 68) rfl ?_); refine goesL_ (some 68) rfl rfl Try.func68 (by kernel_rfl) rfl #[.slice q47 q0c.length q48] rfl LMq ?_; (with_reducible refine (r2_Len.calls q8 _ _ q0c qm _ ?side1 ?side2 A74.out).mono ?_); (case side1 => exact kC (Kd.V_reads' qr.out).2.2); (case side2 => exact (Kd.V_reads' qr.out).2.1); rintro e w83 ⟨rfl, hb⟩; refine ⟨_, rfl, ?_⟩; replace HO_210002 := Aside0.mk (Kd.V_below (kV HO_210002) hb); replace qq := Aside0.mk (Kd.V_below (kV qq) hb); replace qr := Aside0.mk (Kd.V_below (kV qr) hb); replace q0 := Aside0.mk (blk_below (g := q1) (o := .cells #[.bool q2, .int .i64 q4, .slice qe q3.length qf] 67 (0, 0)) (kB q0) hb); replace HB := Aside0.mk (below_step (kHs HB q7) hb); (try clear hb); (try clear hb2); (try clear hk); (try clear hi)))
          go_meet
          case rel => exact ⟨_, (16), RSq, (by first | exact H' | (subst_vars; exact H')), ⟨by have := HJ2.out; have := HJ5.out; have := qt.out; first | omega | exact Nat.le_refl _⟩, ⟨kV qq⟩, ⟨kV HO_210002⟩, ⟨kB q0⟩, ⟨kHs HB q7⟩⟩
        replace c72 := Bool.eq_false_iff.mpr c72; subst c72
        have H1 : (r4_Round.j5 q8 q6 (wrap64 (q5 - 53)) qh 0 q2 q4 q3) = some (r1, r2) := by rw [if_neg (show ¬ (false = true) by decide)] at H; exact H
        clear H; have H := H1; clear H1; have H' := Aside0.mk H; clear H
        go_wp2
        go_meet
        case rel => exact ⟨_, (0), RSq, (by first | exact H' | (subst_vars; exact H')), ⟨by have := HJ2.out; have := HJ5.out; have := qt.out; first | omega | exact Nat.le_refl _⟩, ⟨kV qq⟩, ⟨kV HO_210002⟩, ⟨kB q0⟩, ⟨kHs HB q7⟩⟩
       case rest =>
        clear q24; (try clear c1); (try clear c2); (try clear p2); (try clear c3); (try clear c4); (try clear c5); (try clear qn); (try clear c6); (try clear p6); (try clear c7); (try clear c8); (try clear q0e); (try clear q0f); (try clear q0q); (try clear c12); (try clear q0g); (try clear c23); (try clear qs); (try clear c31); (try clear q13); (try clear c33); (try clear c37); (try clear c38); (try clear c40); (try clear qz); (try clear c41); (try clear c50); (try clear q1w); (try clear c61); (try clear q0a); (try clear q1x); (try clear c62); (try clear q22); (try clear p64); (try clear c67); (try clear c68); (try clear c69); (try clear c72); (try clear c75); (try clear q0d); (try clear q0k q0l q0m); (try clear q0r q0s q0t); (try clear q0x q0y q0z); (try clear q1e q1f q1g); (try clear q1k q1l q1m); (try clear q1q q1r q1s); (try clear q2p q2q q2r); (try clear q2w q2x q2y); (try clear q33 q34 q35); (try clear q3c q3d q3e); (try clear q3i q3j q3k); (try clear q0n q0o q0p); (try clear q0u q0v q0w); (try clear q10 q11 q12); (try clear q1h q1i q1j); (try clear q1n q1o q1p); (try clear q1t q1u q1v); (try clear q2s q2t q2u); (try clear q2z q30 q31); (try clear q36 q37 q38); (try clear q3f q3g q3h); (try clear q3l q3m q3n); (try clear p2); (try clear p6); obtain ⟨kq, qw, rfl, HA, q3o, HO_8, HO_210002, q0, HB⟩ := hcut
        cases kq with
        | zero => exact absurd HA.out (by simp [r4_Round.j5])
        | succ q01 =>
         have H := HA.out; clear HA
         simp only [r4_Round.j5] at H
         replace H := Option.bind_eq_some_iff.mp H; obtain ⟨q07, q3p, H⟩ := H; replace H : (if (wrap64 (q07 + (wrap64 (q5 - 53)))) > 1024 then ((r4_over.f q2 q6).bind fun q08 => ((r4_signed.f q08 q2).bind fun q09 => (some (q09, 20)))) else ((r2_Low.f q01 qh).bind fun qk => (if qk = 9007199254740992 then (r4_Round.j6 q01 (wrap64 ((wrap64 (q5 - 53)) + 1)) qw 4503599627370496 q2 q4 q3) else (r4_Round.j6 q01 (wrap64 (q5 - 53)) qw qk q2 q4 q3)))) = some (r1, r2) := H; have A84 := Aside0.mk q3p; clear q3p
         by_cases c85 : (wrap64 (q07 + (wrap64 (q5 - 53)))) > 1024
         · rw [if_pos c85] at H
           have q3q : decide (1024 < (wrap64 (q07 + (wrap64 (q5 - 53))))) = true := decide_eq_true c85; clear c85; replace H := Option.bind_eq_some_iff.mp H; obtain ⟨q08, q3r, H⟩ := H; replace H : ((r4_signed.f q08 q2).bind fun q09 => (some (q09, 20))) = some (r1, r2) := H; have A86 := Aside0.mk q3r; clear q3r; replace H := Option.bind_eq_some_iff.mp H; obtain ⟨q09, q3s, H⟩ := H; replace H : (some (q09, 20)) = some (r1, r2) := H; have A87 := Aside0.mk q3s; clear q3s
           simp only [Option.some.injEq, Prod.mk.injEq] at H
           obtain ⟨rfl, rfl⟩ := H; obtain ⟨q49, q4a, eo88⟩ := Kd.V_slice HO_8.out; subst eo88
           try go_wp2_with (first | ((with_reducible refine gate_callee (f := 68) rfl ?_); refine goesL_ (some 74) rfl rfl Try.func68 (by kernel_rfl) rfl #[.slice q49 qh.length q4a] rfl LMq ?_; (with_reducible refine (r2_Len.calls q01 _ _ qh q07 _ ?side1 ?side2 A84.out).mono ?_); (case side1 => exact kC (Kd.V_reads' HO_8.out).2.2); (case side2 => exact (Kd.V_reads' HO_8.out).2.1); rintro e w89 ⟨rfl, hb⟩; refine ⟨_, rfl, ?_⟩; replace HO_8 := Aside0.mk (Kd.V_below (kV HO_8) hb); replace HO_210002 := Aside0.mk (Kd.V_below (kV HO_210002) hb); replace q0 := Aside0.mk (blk_below (g := q1) (o := .cells #[.bool q2, .int .i64 q4, .slice qe q3.length qf] 67 (0, 0)) (kB q0) hb); replace HB := Aside0.mk (below_step (kHs HB q7) hb); (try clear hb); (try clear hb2); (try clear hk); (try clear hi)))
           replace HO_8 := Aside0.mk (Kd.V_drew HO_8.out); replace HO_210002 := Aside0.mk (Kd.V_drew HO_210002.out); replace q0 := Aside0.mk (blk_drew q0.out); replace HB := Aside0.mk (below_drew1 HB.out); refine start_ (n := 9) (S := fun w' => w'.cell? ⟨q1, 0, none⟩ = some (.bool q2) ∧ w'.cell? ⟨q1, 1, none⟩ = some (.int .i64 q4) ∧ w'.cell? ⟨q1, 2, none⟩ = some (.slice qe q3.length qf)) (ds := []) #[false, false, false, false, false, false, false, false, false] (by kernel_rfl) rfl rfl ⟨bc q0 0, bc q0 1, bc q0 2⟩ (fun hHeld => ?_); refine with_tabW r4_Round.tab20 r4_Round.bits20 (fun HT_ HW_ => ?_)
           generalize w89.drew = w90 at HO_8 HO_210002 q0 HB hHeld ⊢
           refine pure_ (i := 0) (N := some 78) (v := ?_) (a' := ?_) #[true, false, false, false, false, false, false, false, false] rfl rfl (any_of HT_.out (by kernel_rfl)) (fun _ _ _ h => h) (Or.inl ⟨by rfl, ?_⟩) ?_ ?_; rotate_left
           · intro w'
             go_simp
             with_reducible rfl
           rotate_left
           · exact APq
           refine pure_ (i := 2) (N := some 80) (v := ?_) (a' := ?_) #[true, false, true, false, false, false, false, false, false] rfl rfl (any_of HT_.out (by kernel_rfl)) (fun _ _ _ h => h) (Or.inl ⟨by rfl, ?_⟩) ?_ ?_; rotate_left
           · intro w'
             go_simp
             with_reducible rfl
           rotate_left
           · exact APq
           refine pure_ (i := 4) (N := some 82) (v := ?_) (a' := ?_) #[true, false, true, false, true, false, false, false, false] rfl rfl (any_of HT_.out (by kernel_rfl)) (fun _ _ _ h => h) (Or.inl ⟨by rfl, ?_⟩) ?_ ?_; rotate_left
           · intro w'
             go_simp
             with_reducible rfl
           rotate_left
           · exact APq
           refine take_ (i := 1) (N := some 79) (v := ?_) (a' := ?_) #[true, true, true, false, true, false, false, false, false] rfl rfl (take_ofW HT_.out HW_.out (by kernel_rfl)) (fun _ _ _ h => h) (Or.inl ⟨by rfl, ?_⟩) hHeld ?_ ?_; rotate_left
           · rintro w' ⟨s0, s1, s2⟩
             go_simp
             with_reducible rfl
           rotate_left
           · exact APq
           refine take_ (i := 5) (N := some 83) (v := ?_) (a' := ?_) #[true, true, true, false, true, true, false, false, false] rfl rfl (take_ofW HT_.out HW_.out (by kernel_rfl)) (fun _ _ _ h => h) (Or.inl ⟨by rfl, ?_⟩) hHeld ?_ ?_; rotate_left
           · rintro w' ⟨s0, s1, s2⟩
             go_simp
             with_reducible rfl
           rotate_left
           · exact APq
           refine one_ (i := 3) (N := some 81) #[true, true, true, true, true, true, false, false, false] rfl rfl (one_of HT_.out (by kernel_rfl)) (by decide) (fun K hK => ?_); refine goes_ Try.func69 (by kernel_rfl) rfl #[.bool q2, .int .i64 q6] (by rfl) rfl rfl LMq ?_
           with_reducible refine (r4_over.calls q2 q6 q08 _ A86.out).mono ?_
           rintro e w' ⟨rfl, ⟨nd, rfl⟩⟩; refine ⟨_, rfl, ?_⟩; refine hK.out _ _ ⟨bc q0 0, bc q0 1, bc q0 2⟩ (fun hHeld => ?_); clear hK K; refine norm_ (a' := ?_) ?_ ?_; rotate_left
           · show Act.put _ (some 81) _ = _
             exact APq
           refine one_ (i := 6) (N := some 84) #[true, true, true, true, true, true, true, false, false] rfl rfl (one_of HT_.out (by kernel_rfl)) (by decide) (fun K hK => ?_); refine goes_ Try.func67 (by kernel_rfl) rfl #[.int .u64 q08, .bool q2] (by rfl) rfl rfl LMq ?_
           with_reducible refine (r4_signed.calls q08 q2 q09 _ A87.out).mono ?_
           rintro e w' ⟨rfl, ⟨nd, rfl⟩⟩; refine ⟨_, rfl, ?_⟩; refine hK.out _ _ ⟨bc q0 0, bc q0 1, bc q0 2⟩ (fun hHeld => ?_); clear hK K; refine norm_ (a' := ?_) ?_ ?_; rotate_left
           · show Act.put _ (some 84) _ = _
             exact APq
           refine pure_ (i := 7) (N := some 4) (v := ?_) (a' := ?_) #[true, true, true, true, true, true, true, true, false] rfl rfl (any_of HT_.out (by kernel_rfl)) (fun _ _ _ h => h) (Or.inl ⟨by rfl, ?_⟩) ?_ ?_; rotate_left
           · intro w'
             go_simp
             with_reducible rfl
           rotate_left
           · exact APq
           refine pure_ (i := 8) (N := some 5) (v := ?_) (a' := ?_) #[true, true, true, true, true, true, true, true, true] rfl rfl (any_of HT_.out (by kernel_rfl)) (fun _ _ _ h => h) (Or.inl ⟨by rfl, ?_⟩) ?_ ?_; rotate_left
           · intro w'
             go_simp
             with_reducible rfl
           rotate_left
           · exact APq
           refine done_ (done_of HT_.out (by kernel_rfl)) ?_
           try go_wp2
           go_ret2
           exact ⟨by first | rfl | (simp [errW_none, errW_some] <;> rfl) | (simp [*, errW_none, errW_some] <;> rfl), kHs HB q7⟩
         rw [if_neg c85] at H
         have q3q : decide (1024 < (wrap64 (q07 + (wrap64 (q5 - 53))))) = false := decide_eq_false c85; clear c85; replace H := Option.bind_eq_some_iff.mp H; obtain ⟨qk, q3t, H⟩ := H; replace H : (if qk = 9007199254740992 then (r4_Round.j6 q01 (wrap64 ((wrap64 (q5 - 53)) + 1)) qw 4503599627370496 q2 q4 q3) else (r4_Round.j6 q01 (wrap64 (q5 - 53)) qw qk q2 q4 q3)) = some (r1, r2) := H; have A91 := Aside0.mk q3t; clear q3t; have q25 := Aside0.mk H; clear H; obtain ⟨q3u, q3v, eo93⟩ := Kd.V_slice HO_8.out; subst eo93
         go_upto_if 88 with (first | ((with_reducible refine gate_callee (f := 68) rfl ?_); refine goesL_ (some 74) rfl rfl Try.func68 (by kernel_rfl) rfl #[.slice q3u qh.length q3v] rfl LMq ?_; (with_reducible refine (r2_Len.calls q01 _ _ qh q07 _ ?side1 ?side2 A84.out).mono ?_); (case side1 => exact kC (Kd.V_reads' HO_8.out).2.2); (case side2 => exact (Kd.V_reads' HO_8.out).2.1); rintro e w94 ⟨rfl, hb⟩; refine ⟨_, rfl, ?_⟩; replace HO_8 := Aside0.mk (Kd.V_below (kV HO_8) hb); replace HO_210002 := Aside0.mk (Kd.V_below (kV HO_210002) hb); replace q0 := Aside0.mk (blk_below (g := q1) (o := .cells #[.bool q2, .int .i64 q4, .slice qe q3.length qf] 67 (0, 0)) (kB q0) hb); replace HB := Aside0.mk (below_step (kHs HB q7) hb); (try clear hb); (try clear hb2); (try clear hk); (try clear hi)) | ((with_reducible refine gate_callee (f := 41) rfl ?_); refine goesL_ (some 86) rfl rfl Try.func41 (by kernel_rfl) rfl #[.slice q3u qh.length q3v] rfl LMq ?_; (with_reducible refine (r2_Low.calls q01 _ _ qh qk _ ?side1 ?side2 A91.out).mono ?_); (case side1 => exact kC (Kd.V_reads' HO_8.out).2.2); (case side2 => exact (Kd.V_reads' HO_8.out).2.1); rintro e w95 ⟨rfl, hb⟩; refine ⟨_, rfl, ?_⟩; replace HO_8 := Aside0.mk (Kd.V_below (kV HO_8) hb); replace HO_210002 := Aside0.mk (Kd.V_below (kV HO_210002) hb); replace q0 := Aside0.mk (blk_below (g := q1) (o := .cells #[.bool q2, .int .i64 q4, .slice qe q3.length qf] 67 (0, 0)) (kB q0) hb); replace HB := Aside0.mk (below_step (kHs HB q7) hb); (try clear hb); (try clear hb2); (try clear hk); (try clear hi)))
         (try simp only [Act.put, List.setIfInBounds_toArray, List.set_cons_zero, List.set_cons_succ])
         go_cut [7, 13] (fun v7 v13 wc => ∃ (kq : Nat) (q15 : Int) (qx : Int), v7 = .int .i64 q15 ∧ v13 = .int .u64 qx ∧ Aside0 (r4_Round.j6 kq q15 qw qx q2 q4 q3 = some (r1, r2)) ∧ Aside0 (kq ≤ q01) ∧ Aside0 (Kd.V (Kd.int .u32) 41 wc w.heap.size (fun k_ => (P0_2_ k_ ∨ w.heap.size ≤ k_) ∧ k_ ≠ q1) (.slice qe q3.length qf) q3) ∧ Aside0 (wc.heap[q1]? = some (.cells #[.bool q2, .int .i64 q4, (.slice qe q3.length qf)] 67 (0, 0))) ∧ Aside0 (Below w.heap.size w wc))
         case first =>
          have H := q25.out; clear q25
          by_cases c96 : qk = 9007199254740992
          · rw [if_pos c96] at H
            have q0h : (qk == 9007199254740992) = true := beq_iff_eq.mpr c96; have q3w : (qk != 9007199254740992) = false := bne_eq_false_iff_eq.mpr c96; clear c96
            (first | rw [q0h] | (simp only [i64_w, i32_w]; rw [q0h]) | skip)
            have H' := Aside0.mk H; clear H
            go_wp2
            go_meet
            case rel => exact ⟨_, (wrap64 ((wrap64 (q5 - 53)) + 1)), (4503599627370496), RSq, RSq, (by first | exact H' | (subst_vars; exact H')), ⟨by have := HJ2.out; have := HJ5.out; have := qt.out; have := q3o.out; first | omega | exact Nat.le_refl _⟩, ⟨kV HO_210002⟩, ⟨kB q0⟩, ⟨kHs HB q7⟩⟩
          rw [if_neg c96] at H
          have q0h : (qk == 9007199254740992) = false := beq_eq_false_iff_ne.mpr c96; have q3w : (qk != 9007199254740992) = true := bne_iff_ne.mpr c96
          (first | rw [q0h] | (simp only [i64_w, i32_w]; rw [q0h]) | skip)
          have H' := Aside0.mk H; clear H
          go_wp2
          go_meet
          case rel => exact ⟨_, ((wrap64 (q5 - 53))), (qk), RSq, RSq, (by first | exact H' | (subst_vars; exact H')), ⟨by have := HJ2.out; have := HJ5.out; have := qt.out; have := q3o.out; first | omega | exact Nat.le_refl _⟩, ⟨kV HO_210002⟩, ⟨kB q0⟩, ⟨kHs HB q7⟩⟩
         case rest =>
          clear q25; (try clear c1); (try clear c2); (try clear p2); (try clear c3); (try clear c4); (try clear c5); (try clear qn); (try clear c6); (try clear p6); (try clear c7); (try clear c8); (try clear q0e); (try clear q0f); (try clear q0q); (try clear c9); (try clear c12); (try clear q0g); (try clear c23); (try clear qs); (try clear c31); (try clear q13); (try clear c33); (try clear c37); (try clear c38); (try clear c40); (try clear qz); (try clear c41); (try clear c50); (try clear q1w); (try clear c61); (try clear q0a); (try clear q1x); (try clear c62); (try clear q22); (try clear p64); (try clear c67); (try clear c68); (try clear c69); (try clear c72); (try clear c75); (try clear q0d); (try clear c85); (try clear q3q); (try clear c96); (try clear q0h); (try clear q3w); (try clear q0k q0l q0m); (try clear q0r q0s q0t); (try clear q0x q0y q0z); (try clear q1e q1f q1g); (try clear q1k q1l q1m); (try clear q1q q1r q1s); (try clear q2p q2q q2r); (try clear q2w q2x q2y); (try clear q33 q34 q35); (try clear q3c q3d q3e); (try clear q3i q3j q3k); (try clear q0n q0o q0p); (try clear q0u q0v q0w); (try clear q10 q11 q12); (try clear q1h q1i q1j); (try clear q1n q1o q1p); (try clear q1t q1u q1v); (try clear q2s q2t q2u); (try clear q2z q30 q31); (try clear q36 q37 q38); (try clear q3f q3g q3h); (try clear q3l q3m q3n); (try clear p2); (try clear p6); (try clear p64); obtain ⟨kq, q15, qx, rfl, rfl, HA, HJ91, HO_210002, q0, HB⟩ := hcut
          cases kq with
          | zero => exact absurd HA.out (by simp [r4_Round.j6])
          | succ kj91 =>
           have H := HA.out; clear HA
           simp only [r4_Round.j6] at H
           by_cases c97 : qx ≥ 4503599627370496
           · rw [if_pos c97] at H
             have q4b : decide (4503599627370496 ≤ qx) = true := decide_eq_true c97; clear c97; replace H := Option.bind_eq_some_iff.mp H; obtain ⟨q1b, q3x, H⟩ := H; replace H : (some (q1b, qw)) = some (r1, r2) := H; have A98 := Aside0.mk q3x; clear q3x
             simp only [Option.some.injEq, Prod.mk.injEq] at H
             obtain ⟨rfl, rfl⟩ := H; have hcz99_0 : wc.cell? ⟨q1, 0, none⟩ = some (.bool q2) := bc q0 0; have hcz99_1 : wc.cell? ⟨q1, 1, none⟩ = some (.int .i64 q4) := bc q0 1; have hcz99_2 : wc.cell? ⟨q1, 2, none⟩ = some (.slice qe q3.length qf) := bc q0 2; have hfz99_0 := blk_frozen q0.out 0; have hfz99_1 := blk_frozen q0.out 1; have hfz99_2 := blk_frozen q0.out 2
             go_wp2_with (first | ((with_reducible refine gate_callee (f := 67) rfl ?_); refine goesL_ (some 102) rfl rfl Try.func67 (by kernel_rfl) rfl #[.int .u64 (IntKind.u64.wrap ((IntKind.u64.wrap ((IntKind.u64.wrap ((IntKind.u64.wrap (wrap64 (q15 + 1075))) * 4503599627370496)) + qx)) - 4503599627370496)), .bool q2] rfl LMq ?_; (with_reducible refine (r4_signed.calls (IntKind.u64.wrap ((IntKind.u64.wrap ((IntKind.u64.wrap ((IntKind.u64.wrap (wrap64 (q15 + 1075))) * 4503599627370496)) + qx)) - 4503599627370496)) q2 q1b _ A98.out).mono ?_); rintro e w' ⟨rfl, ⟨nd, rfl⟩⟩; refine ⟨_, rfl, ?_⟩))
             go_ret2
             exact ⟨by first | rfl | (simp [errW_none, errW_some] <;> rfl) | (simp [*, errW_none, errW_some] <;> rfl), kHs HB q7⟩
           rw [if_neg c97] at H
           have q4b : decide (4503599627370496 ≤ qx) = false := decide_eq_false c97; clear c97; replace H := Option.bind_eq_some_iff.mp H; obtain ⟨q1c, q3y, H⟩ := H; replace H : (some (q1c, qw)) = some (r1, r2) := H; have q4c := Aside0.mk q3y; clear q3y
           simp only [Option.some.injEq, Prod.mk.injEq] at H
           obtain ⟨rfl, rfl⟩ := H; have hcz101_0 : wc.cell? ⟨q1, 0, none⟩ = some (.bool q2) := bc q0 0; have hcz101_1 : wc.cell? ⟨q1, 1, none⟩ = some (.int .i64 q4) := bc q0 1; have hcz101_2 : wc.cell? ⟨q1, 2, none⟩ = some (.slice qe q3.length qf) := bc q0 2; have hfz101_0 := blk_frozen q0.out 0; have hfz101_1 := blk_frozen q0.out 1; have hfz101_2 := blk_frozen q0.out 2
           go_wp2_with (first | ((with_reducible refine gate_callee (f := 67) rfl ?_); refine goesL_ (some 107) rfl rfl Try.func67 (by kernel_rfl) rfl #[.int .u64 qx, .bool q2] rfl LMq ?_; (with_reducible refine (r4_signed.calls qx q2 q1c _ q4c.out).mono ?_); rintro e w' ⟨rfl, ⟨nd, rfl⟩⟩; refine ⟨_, rfl, ?_⟩))
           go_ret2
           exact ⟨by first | rfl | (simp [errW_none, errW_some] <;> rfl) | (simp [*, errW_none, errW_some] <;> rfl), kHs HB q7⟩
end Go.Proofs.Ytbgefpeicmbgiaa.X
