import Derived.Test.YtfnkmedajchbgaaKN4
import Derived.Test.YtfnkmedajchbgaaKN12
import Derived.Test.YtfnkmedajchbgaaKNXtillerref04To
namespace Go.Proofs.Ytfnkmedajchbgaa.X
open Go.RowKit Go.Proofs.YtfnkmedajchbgaaW.PrintWords Go.Proofs.YtfnkmedajchbgaaW.PrintLast Go.Proofs.YtfnkmedajchbgaaW.PrintMore
attribute [local go_sem] max2_int min2_int max_two min_two max_three min_three max_four min_four   
set_option linter.unusedVariables false
set_option linter.unusedSimpArgs false
mutual
def tillerref12_To.j0 : Nat → Int → Int → Bool → Bool → Option (Int × Int)
 | 0, _, _, _, _ => none
 | k + 1, x0, x1, x6, x38 => if x38 = true then (tillerref12_To.j1 k x0 0 x6) else (tillerref12_To.j1 k x0 x1 x6)
def tillerref12_To.j1 : Nat → Int → Int → Bool → Option (Int × Int)
 | 0, _, _, _ => none
 | k + 1, x0, x1, x6 => (r4_Pattern.f k x0).bind fun qf => ((r2_Len.f k qf.2.2).bind fun q5 => (if (wrap64 ((wrap64 (qf.2.1 + q5)) - 24)) < (-149) then ((r4_To.f k qf.1 qf.2.1 qf.2.2 (-149) x1).bind fun qr => (if qr.2 = true then ((r4_To.f k qf.1 qf.2.1 qf.2.2 (wrap64 ((wrap64 (qf.2.1 + q5)) - 24)) x1).bind fun q07 => ((r2_Len.f k q07.1).bind fun qj => (if (wrap64 ((wrap64 (qj + (wrap64 (qf.2.1 + q5)))) - 24)) ≤ (-126) then (tillerref12_To.j2 k x1 x6 (-149) qr.1 24) else (tillerref12_To.j2 k x1 x6 (-149) qr.1 16)))) else (tillerref12_To.j2 k x1 x6 (-149) qr.1 0))) else ((r4_To.f k qf.1 qf.2.1 qf.2.2 (wrap64 ((wrap64 (qf.2.1 + q5)) - 24)) x1).bind fun qs => (if qs.2 = true then ((r4_To.f k qf.1 qf.2.1 qf.2.2 (wrap64 ((wrap64 (qf.2.1 + q5)) - 24)) x1).bind fun q08 => ((r2_Len.f k q08.1).bind fun qk => (if (wrap64 ((wrap64 (qk + (wrap64 (qf.2.1 + q5)))) - 24)) ≤ (-126) then (tillerref12_To.j5 k x1 x6 (wrap64 ((wrap64 (qf.2.1 + q5)) - 24)) qs.1 24) else (tillerref12_To.j5 k x1 x6 (wrap64 ((wrap64 (qf.2.1 + q5)) - 24)) qs.1 16)))) else (tillerref12_To.j5 k x1 x6 (wrap64 ((wrap64 (qf.2.1 + q5)) - 24)) qs.1 0)))))
def tillerref12_To.j2 : Nat → Int → Bool → Int → List Int → Int → Option (Int × Int)
 | 0, _, _, _, _, _ => none
 | k + 1, x1, x6, x9, x10, x12 => (r2_Len.f k x10).bind fun q0e => (if (wrap64 (q0e + x9)) > 128 then (if x1 = 2 then (tillerref12_To.j3 k x6 true) else (if x1 = 3 then (if x6 = true then (tillerref12_To.j3 k x6 true) else (if x1 = 4 then (tillerref12_To.j3 k x6 (!x6)) else (tillerref12_To.j3 k x6 false))) else (if x1 = 4 then (tillerref12_To.j3 k x6 (!x6)) else (tillerref12_To.j3 k x6 false)))) else ((r2_Low.f k x10).bind fun qp => (if ((qp) % 4294967296) = 16777216 then (tillerref12_To.j4 k x6 (wrap64 (x9 + 1)) x12 8388608) else (tillerref12_To.j4 k x6 x9 x12 ((qp) % 4294967296)))))
def tillerref12_To.j3 : Nat → Bool → Bool → Option (Int × Int)
 | 0, _, _ => none
 | k + 1, x6, x93 => if x93 = true then ((tillerref12_signed.f 2139095039 x6).bind fun q0n => (some (q0n, 20))) else ((tillerref12_signed.f 2139095040 x6).bind fun q0o => (some (q0o, 20)))
def tillerref12_To.j4 : Nat → Bool → Int → Int → Int → Option (Int × Int)
 | 0, _, _, _, _ => none
 | k + 1, x6, x9, x12, x15 => if x15 ≥ 8388608 then ((tillerref12_signed.f ((((wrap64 (x9 + 150)) % 4294967296) * 8388608 + x15 - 8388608) % 4294967296) x6).bind fun q1u => (some (q1u, x12))) else ((tillerref12_signed.f x15 x6).bind fun q1v => (some (q1v, x12)))
def tillerref12_To.j5 : Nat → Int → Bool → Int → List Int → Int → Option (Int × Int)
 | 0, _, _, _, _, _ => none
 | k + 1, x1, x6, x9, x10, x12 => (r2_Len.f k x10).bind fun q0f => (if (wrap64 (q0f + x9)) > 128 then (if x1 = 2 then (tillerref12_To.j6 k x6 true) else (if x1 = 3 then (if x6 = true then (tillerref12_To.j6 k x6 true) else (if x1 = 4 then (tillerref12_To.j6 k x6 (!x6)) else (tillerref12_To.j6 k x6 false))) else (if x1 = 4 then (tillerref12_To.j6 k x6 (!x6)) else (tillerref12_To.j6 k x6 false)))) else ((r2_Low.f k x10).bind fun qq => (if ((qq) % 4294967296) = 16777216 then (tillerref12_To.j7 k x6 (wrap64 (x9 + 1)) x12 8388608) else (tillerref12_To.j7 k x6 x9 x12 ((qq) % 4294967296)))))
def tillerref12_To.j6 : Nat → Bool → Bool → Option (Int × Int)
 | 0, _, _ => none
 | k + 1, x6, x93 => if x93 = true then ((tillerref12_signed.f 2139095039 x6).bind fun q0p => (some (q0p, 20))) else ((tillerref12_signed.f 2139095040 x6).bind fun q0q => (some (q0q, 20)))
def tillerref12_To.j7 : Nat → Bool → Int → Int → Int → Option (Int × Int)
 | 0, _, _, _, _ => none
 | k + 1, x6, x9, x12, x15 => if x15 ≥ 8388608 then ((tillerref12_signed.f ((((wrap64 (x9 + 150)) % 4294967296) * 8388608 + x15 - 8388608) % 4294967296) x6).bind fun q1w => (some (q1w, x12))) else ((tillerref12_signed.f x15 x6).bind fun q1x => (some (q1x, x12)))
end
def tillerref12_To.f (k : Nat) (a0 : Int) (a1 : Int) : Option (Int × Int) := (r3_NaN.f a0).bind fun q0r => (if q0r = true then ((r5_None.f a0 a0).bind fun q01 => (some (2143289344, q01))) else ((r3_Abs.f a0).bind fun qm => (if qm = 9218868437227405312 then ((tillerref12_signed.f 2139095040 (decide (a0 ≥ 9223372036854775808))).bind fun qv => (some (qv, 0))) else ((r3_Abs.f a0).bind fun ql => (if ql = 0 then ((tillerref12_signed.f 0 (decide (a0 ≥ 9223372036854775808))).bind fun qt => (some (qt, 0))) else (if a1 < 0 then (tillerref12_To.j0 k a0 a1 (decide (a0 ≥ 9223372036854775808)) true) else (tillerref12_To.j0 k a0 a1 (decide (a0 ≥ 9223372036854775808)) (decide (a1 > 4)))))))))
theorem tillerref12_To.mono_l : ∀ k, (∀ y0 y1 y2 y3, LeO (tillerref12_To.j0 k y0 y1 y2 y3) (tillerref12_To.j0 (k + 1) y0 y1 y2 y3)) ∧ (∀ y0 y1 y2, LeO (tillerref12_To.j1 k y0 y1 y2) (tillerref12_To.j1 (k + 1) y0 y1 y2)) ∧ (∀ y0 y1 y2 y3 y4, LeO (tillerref12_To.j2 k y0 y1 y2 y3 y4) (tillerref12_To.j2 (k + 1) y0 y1 y2 y3 y4)) ∧ (∀ y0 y1, LeO (tillerref12_To.j3 k y0 y1) (tillerref12_To.j3 (k + 1) y0 y1)) ∧ (∀ y0 y1 y2 y3, LeO (tillerref12_To.j4 k y0 y1 y2 y3) (tillerref12_To.j4 (k + 1) y0 y1 y2 y3)) ∧ (∀ y0 y1 y2 y3 y4, LeO (tillerref12_To.j5 k y0 y1 y2 y3 y4) (tillerref12_To.j5 (k + 1) y0 y1 y2 y3 y4)) ∧ (∀ y0 y1, LeO (tillerref12_To.j6 k y0 y1) (tillerref12_To.j6 (k + 1) y0 y1)) ∧ (∀ y0 y1 y2 y3, LeO (tillerref12_To.j7 k y0 y1 y2 y3) (tillerref12_To.j7 (k + 1) y0 y1 y2 y3))
 | 0 => ⟨fun _ _ _ _ r h => by simp [tillerref12_To.j0] at h, fun _ _ _ r h => by simp [tillerref12_To.j1] at h, fun _ _ _ _ _ r h => by simp [tillerref12_To.j2] at h, fun _ _ r h => by simp [tillerref12_To.j3] at h, fun _ _ _ _ r h => by simp [tillerref12_To.j4] at h, fun _ _ _ _ _ r h => by simp [tillerref12_To.j5] at h, fun _ _ r h => by simp [tillerref12_To.j6] at h, fun _ _ _ _ r h => by simp [tillerref12_To.j7] at h⟩
 | k + 1 => by
  obtain ⟨ih0, ih1, ih2, ih3, ih4, ih5, ih6, ih7⟩ := tillerref12_To.mono_l k; refine ⟨?_, ?_, ?_, ?_, ?_, ?_, ?_, ?_⟩
  · intro y0 y1 y2 y3
    unfold tillerref12_To.j0
    repeat' first
    | (with_reducible exact ih0 _ _ _ _)
    | (with_reducible exact ih1 _ _ _)
    | (with_reducible exact ih2 _ _ _ _ _)
    | (with_reducible exact ih3 _ _)
    | (with_reducible exact ih4 _ _ _ _)
    | (with_reducible exact ih5 _ _ _ _ _)
    | (with_reducible exact ih6 _ _)
    | (with_reducible exact ih7 _ _ _ _)
    | (with_reducible exact r2_Len.mono _ _)
    | (with_reducible exact r2_Low.mono _ _)
    | (with_reducible exact r4_Pattern.mono _ _)
    | (with_reducible exact r4_To.mono _ _ _ _ _ _)
    | (with_reducible exact LeO.refl _)
    | (with_reducible exact LeO.none _)
    | (with_reducible refine LeO.ite ?_ ?_)
    | (with_reducible refine LeO.bind ?_ (fun _ => ?_))
    | exact ih0 _ _ _ _
    | exact ih1 _ _ _
    | exact ih2 _ _ _ _ _
    | exact ih3 _ _
    | exact ih4 _ _ _ _
    | exact ih5 _ _ _ _ _
    | exact ih6 _ _
    | exact ih7 _ _ _ _
    | exact r2_Len.mono _ _
    | exact r2_Low.mono _ _
    | exact r4_Pattern.mono _ _
    | exact r4_To.mono _ _ _ _ _ _
    | exact LeO.none _
    | refine LeO.ite ?_ ?_
    | refine LeO.bind ?_ (fun _ => ?_)
  · intro y0 y1 y2
    unfold tillerref12_To.j1
    repeat' first
    | (with_reducible exact ih0 _ _ _ _)
    | (with_reducible exact ih1 _ _ _)
    | (with_reducible exact ih2 _ _ _ _ _)
    | (with_reducible exact ih3 _ _)
    | (with_reducible exact ih4 _ _ _ _)
    | (with_reducible exact ih5 _ _ _ _ _)
    | (with_reducible exact ih6 _ _)
    | (with_reducible exact ih7 _ _ _ _)
    | (with_reducible exact r2_Len.mono _ _)
    | (with_reducible exact r2_Low.mono _ _)
    | (with_reducible exact r4_Pattern.mono _ _)
    | (with_reducible exact r4_To.mono _ _ _ _ _ _)
    | (with_reducible exact LeO.refl _)
    | (with_reducible exact LeO.none _)
    | (with_reducible refine LeO.ite ?_ ?_)
    | (with_reducible refine LeO.bind ?_ (fun _ => ?_))
    | exact ih0 _ _ _ _
    | exact ih1 _ _ _
    | exact ih2 _ _ _ _ _
    | exact ih3 _ _
    | exact ih4 _ _ _ _
    | exact ih5 _ _ _ _ _
    | exact ih6 _ _
    | exact ih7 _ _ _ _
    | exact r2_Len.mono _ _
    | exact r2_Low.mono _ _
    | exact r4_Pattern.mono _ _
    | exact r4_To.mono _ _ _ _ _ _
    | exact LeO.none _
    | refine LeO.ite ?_ ?_
    | refine LeO.bind ?_ (fun _ => ?_)
  · intro y0 y1 y2 y3 y4
    unfold tillerref12_To.j2
    repeat' first
    | (with_reducible exact ih0 _ _ _ _)
    | (with_reducible exact ih1 _ _ _)
    | (with_reducible exact ih2 _ _ _ _ _)
    | (with_reducible exact ih3 _ _)
    | (with_reducible exact ih4 _ _ _ _)
    | (with_reducible exact ih5 _ _ _ _ _)
    | (with_reducible exact ih6 _ _)
    | (with_reducible exact ih7 _ _ _ _)
    | (with_reducible exact r2_Len.mono _ _)
    | (with_reducible exact r2_Low.mono _ _)
    | (with_reducible exact r4_Pattern.mono _ _)
    | (with_reducible exact r4_To.mono _ _ _ _ _ _)
    | (with_reducible exact LeO.refl _)
    | (with_reducible exact LeO.none _)
    | (with_reducible refine LeO.ite ?_ ?_)
    | (with_reducible refine LeO.bind ?_ (fun _ => ?_))
    | exact ih0 _ _ _ _
    | exact ih1 _ _ _
    | exact ih2 _ _ _ _ _
    | exact ih3 _ _
    | exact ih4 _ _ _ _
    | exact ih5 _ _ _ _ _
    | exact ih6 _ _
    | exact ih7 _ _ _ _
    | exact r2_Len.mono _ _
    | exact r2_Low.mono _ _
    | exact r4_Pattern.mono _ _
    | exact r4_To.mono _ _ _ _ _ _
    | exact LeO.none _
    | refine LeO.ite ?_ ?_
    | refine LeO.bind ?_ (fun _ => ?_)
  · intro y0 y1
    unfold tillerref12_To.j3
    repeat' first
    | (with_reducible exact ih0 _ _ _ _)
    | (with_reducible exact ih1 _ _ _)
    | (with_reducible exact ih2 _ _ _ _ _)
    | (with_reducible exact ih3 _ _)
    | (with_reducible exact ih4 _ _ _ _)
    | (with_reducible exact ih5 _ _ _ _ _)
    | (with_reducible exact ih6 _ _)
    | (with_reducible exact ih7 _ _ _ _)
    | (with_reducible exact r2_Len.mono _ _)
    | (with_reducible exact r2_Low.mono _ _)
    | (with_reducible exact r4_Pattern.mono _ _)
    | (with_reducible exact r4_To.mono _ _ _ _ _ _)
    | (with_reducible exact LeO.refl _)
    | (with_reducible exact LeO.none _)
    | (with_reducible refine LeO.ite ?_ ?_)
    | (with_reducible refine LeO.bind ?_ (fun _ => ?_))
    | exact ih0 _ _ _ _
    | exact ih1 _ _ _
    | exact ih2 _ _ _ _ _
    | exact ih3 _ _
    | exact ih4 _ _ _ _
    | exact ih5 _ _ _ _ _
    | exact ih6 _ _
    | exact ih7 _ _ _ _
    | exact r2_Len.mono _ _
    | exact r2_Low.mono _ _
    | exact r4_Pattern.mono _ _
    | exact r4_To.mono _ _ _ _ _ _
    | exact LeO.none _
    | refine LeO.ite ?_ ?_
    | refine LeO.bind ?_ (fun _ => ?_)
  · intro y0 y1 y2 y3
    unfold tillerref12_To.j4
    repeat' first
    | (with_reducible exact ih0 _ _ _ _)
    | (with_reducible exact ih1 _ _ _)
    | (with_reducible exact ih2 _ _ _ _ _)
    | (with_reducible exact ih3 _ _)
    | (with_reducible exact ih4 _ _ _ _)
    | (with_reducible exact ih5 _ _ _ _ _)
    | (with_reducible exact ih6 _ _)
    | (with_reducible exact ih7 _ _ _ _)
    | (with_reducible exact r2_Len.mono _ _)
    | (with_reducible exact r2_Low.mono _ _)
    | (with_reducible exact r4_Pattern.mono _ _)
    | (with_reducible exact r4_To.mono _ _ _ _ _ _)
    | (with_reducible exact LeO.refl _)
    | (with_reducible exact LeO.none _)
    | (with_reducible refine LeO.ite ?_ ?_)
    | (with_reducible refine LeO.bind ?_ (fun _ => ?_))
    | exact ih0 _ _ _ _
    | exact ih1 _ _ _
    | exact ih2 _ _ _ _ _
    | exact ih3 _ _
    | exact ih4 _ _ _ _
    | exact ih5 _ _ _ _ _
    | exact ih6 _ _
    | exact ih7 _ _ _ _
    | exact r2_Len.mono _ _
    | exact r2_Low.mono _ _
    | exact r4_Pattern.mono _ _
    | exact r4_To.mono _ _ _ _ _ _
    | exact LeO.none _
    | refine LeO.ite ?_ ?_
    | refine LeO.bind ?_ (fun _ => ?_)
  · intro y0 y1 y2 y3 y4
    unfold tillerref12_To.j5
    repeat' first
    | (with_reducible exact ih0 _ _ _ _)
    | (with_reducible exact ih1 _ _ _)
    | (with_reducible exact ih2 _ _ _ _ _)
    | (with_reducible exact ih3 _ _)
    | (with_reducible exact ih4 _ _ _ _)
    | (with_reducible exact ih5 _ _ _ _ _)
    | (with_reducible exact ih6 _ _)
    | (with_reducible exact ih7 _ _ _ _)
    | (with_reducible exact r2_Len.mono _ _)
    | (with_reducible exact r2_Low.mono _ _)
    | (with_reducible exact r4_Pattern.mono _ _)
    | (with_reducible exact r4_To.mono _ _ _ _ _ _)
    | (with_reducible exact LeO.refl _)
    | (with_reducible exact LeO.none _)
    | (with_reducible refine LeO.ite ?_ ?_)
    | (with_reducible refine LeO.bind ?_ (fun _ => ?_))
    | exact ih0 _ _ _ _
    | exact ih1 _ _ _
    | exact ih2 _ _ _ _ _
    | exact ih3 _ _
    | exact ih4 _ _ _ _
    | exact ih5 _ _ _ _ _
    | exact ih6 _ _
    | exact ih7 _ _ _ _
    | exact r2_Len.mono _ _
    | exact r2_Low.mono _ _
    | exact r4_Pattern.mono _ _
    | exact r4_To.mono _ _ _ _ _ _
    | exact LeO.none _
    | refine LeO.ite ?_ ?_
    | refine LeO.bind ?_ (fun _ => ?_)
  · intro y0 y1
    unfold tillerref12_To.j6
    repeat' first
    | (with_reducible exact ih0 _ _ _ _)
    | (with_reducible exact ih1 _ _ _)
    | (with_reducible exact ih2 _ _ _ _ _)
    | (with_reducible exact ih3 _ _)
    | (with_reducible exact ih4 _ _ _ _)
    | (with_reducible exact ih5 _ _ _ _ _)
    | (with_reducible exact ih6 _ _)
    | (with_reducible exact ih7 _ _ _ _)
    | (with_reducible exact r2_Len.mono _ _)
    | (with_reducible exact r2_Low.mono _ _)
    | (with_reducible exact r4_Pattern.mono _ _)
    | (with_reducible exact r4_To.mono _ _ _ _ _ _)
    | (with_reducible exact LeO.refl _)
    | (with_reducible exact LeO.none _)
    | (with_reducible refine LeO.ite ?_ ?_)
    | (with_reducible refine LeO.bind ?_ (fun _ => ?_))
    | exact ih0 _ _ _ _
    | exact ih1 _ _ _
    | exact ih2 _ _ _ _ _
    | exact ih3 _ _
    | exact ih4 _ _ _ _
    | exact ih5 _ _ _ _ _
    | exact ih6 _ _
    | exact ih7 _ _ _ _
    | exact r2_Len.mono _ _
    | exact r2_Low.mono _ _
    | exact r4_Pattern.mono _ _
    | exact r4_To.mono _ _ _ _ _ _
    | exact LeO.none _
    | refine LeO.ite ?_ ?_
    | refine LeO.bind ?_ (fun _ => ?_)
  intro y0 y1 y2 y3
  unfold tillerref12_To.j7
  repeat' first
  | (with_reducible exact ih0 _ _ _ _)
  | (with_reducible exact ih1 _ _ _)
  | (with_reducible exact ih2 _ _ _ _ _)
  | (with_reducible exact ih3 _ _)
  | (with_reducible exact ih4 _ _ _ _)
  | (with_reducible exact ih5 _ _ _ _ _)
  | (with_reducible exact ih6 _ _)
  | (with_reducible exact ih7 _ _ _ _)
  | (with_reducible exact r2_Len.mono _ _)
  | (with_reducible exact r2_Low.mono _ _)
  | (with_reducible exact r4_Pattern.mono _ _)
  | (with_reducible exact r4_To.mono _ _ _ _ _ _)
  | (with_reducible exact LeO.refl _)
  | (with_reducible exact LeO.none _)
  | (with_reducible refine LeO.ite ?_ ?_)
  | (with_reducible refine LeO.bind ?_ (fun _ => ?_))
  | exact ih0 _ _ _ _
  | exact ih1 _ _ _
  | exact ih2 _ _ _ _ _
  | exact ih3 _ _
  | exact ih4 _ _ _ _
  | exact ih5 _ _ _ _ _
  | exact ih6 _ _
  | exact ih7 _ _ _ _
  | exact r2_Len.mono _ _
  | exact r2_Low.mono _ _
  | exact r4_Pattern.mono _ _
  | exact r4_To.mono _ _ _ _ _ _
  | exact LeO.none _
  | refine LeO.ite ?_ ?_
  | refine LeO.bind ?_ (fun _ => ?_)
theorem tillerref12_To.mono : ∀ a0 a1 k, LeO (tillerref12_To.f k a0 a1) (tillerref12_To.f (k + 1) a0 a1) := by
 intro a0 a1 k; obtain ⟨ih0, ih1, ih2, ih3, ih4, ih5, ih6, ih7⟩ := tillerref12_To.mono_l k
 unfold tillerref12_To.f
 repeat' first
  | (with_reducible exact ih0 _ _ _ _)
  | (with_reducible exact ih1 _ _ _)
  | (with_reducible exact ih2 _ _ _ _ _)
  | (with_reducible exact ih3 _ _)
  | (with_reducible exact ih4 _ _ _ _)
  | (with_reducible exact ih5 _ _ _ _ _)
  | (with_reducible exact ih6 _ _)
  | (with_reducible exact ih7 _ _ _ _)
  | (with_reducible exact r2_Len.mono _ _)
  | (with_reducible exact r2_Low.mono _ _)
  | (with_reducible exact r4_Pattern.mono _ _)
  | (with_reducible exact r4_To.mono _ _ _ _ _ _)
  | (with_reducible exact LeO.refl _)
  | (with_reducible exact LeO.none _)
  | (with_reducible refine LeO.ite ?_ ?_)
  | (with_reducible refine LeO.bind ?_ (fun _ => ?_))
  | exact ih0 _ _ _ _
  | exact ih1 _ _ _
  | exact ih2 _ _ _ _ _
  | exact ih3 _ _
  | exact ih4 _ _ _ _
  | exact ih5 _ _ _ _ _
  | exact ih6 _ _
  | exact ih7 _ _ _ _
  | exact r2_Len.mono _ _
  | exact r2_Low.mono _ _
  | exact r4_Pattern.mono _ _
  | exact r4_To.mono _ _ _ _ _ _
  | exact LeO.none _
  | refine LeO.ite ?_ ?_
  | refine LeO.bind ?_ (fun _ => ?_)
set_option maxHeartbeats 8000000 in
set_option maxRecDepth 100000 in
theorem tillerref12_To.calls (k : Nat) (a0 : Int) (a1 : Int) (r1 : Int) (r2 : Int) (w : World) (h : tillerref12_To.f k a0 a1 = some (r1, r2)) :
 Calls Try.prog 13 #[.int .u64 a0, .int .i64 a1] w fun e w' => e = .returned (.tuple #[.int .u32 r1, .int .i64 r2]) ∧ Below w.heap.size w w' := by
 have hu66 := Try.underlying66; have HB := Aside0.mk (Below.refl w.heap.size w); have H : ((r3_NaN.f a0).bind fun q0r => (if q0r = true then ((r5_None.f a0 a0).bind fun q01 => (some (2143289344, q01))) else ((r3_Abs.f a0).bind fun qm => (if qm = 9218868437227405312 then ((tillerref12_signed.f 2139095040 (decide (a0 ≥ 9223372036854775808))).bind fun qv => (some (qv, 0))) else ((r3_Abs.f a0).bind fun ql => (if ql = 0 then ((tillerref12_signed.f 0 (decide (a0 ≥ 9223372036854775808))).bind fun qt => (some (qt, 0))) else (if a1 < 0 then (tillerref12_To.j0 k a0 a1 (decide (a0 ≥ 9223372036854775808)) true) else (tillerref12_To.j0 k a0 a1 (decide (a0 ≥ 9223372036854775808)) (decide (a1 > 4)))))))))) = some (r1, r2) := h; clear h; replace H := Option.bind_eq_some_iff.mp H; obtain ⟨q0r, A30, H⟩ := H; replace H : (if q0r = true then ((r5_None.f a0 a0).bind fun q01 => (some (2143289344, q01))) else ((r3_Abs.f a0).bind fun qm => (if qm = 9218868437227405312 then ((tillerref12_signed.f 2139095040 (decide (a0 ≥ 9223372036854775808))).bind fun qv => (some (qv, 0))) else ((r3_Abs.f a0).bind fun ql => (if ql = 0 then ((tillerref12_signed.f 0 (decide (a0 ≥ 9223372036854775808))).bind fun qt => (some (qt, 0))) else (if a1 < 0 then (tillerref12_To.j0 k a0 a1 (decide (a0 ≥ 9223372036854775808)) true) else (tillerref12_To.j0 k a0 a1 (decide (a0 ≥ 9223372036854775808)) (decide (a1 > 4))))))))) = some (r1, r2) := H; have A3 := Aside0.mk A30; clear A30
 by_cases c4 : q0r = true
 · subst c4
   have H1 : ((r5_None.f a0 a0).bind fun q01 => (some (2143289344, q01))) = some (r1, r2) := by rw [if_pos rfl] at H; exact H
   clear H; have H := H1; clear H1; replace H := Option.bind_eq_some_iff.mp H; obtain ⟨q01, A50, H⟩ := H; replace H : (some (2143289344, q01)) = some (r1, r2) := H; have A5 := Aside0.mk A50; clear A50
   simp only [Option.some.injEq, Prod.mk.injEq] at H
   obtain ⟨rfl, rfl⟩ := H
   go_enter Try.func13, Try.ntmps13
   go_wp2_with (first | ((with_reducible refine gate_callee (f := 33) rfl ?_); refine goesL_ (some 17) rfl rfl Try.func33 (by kernel_rfl) rfl #[.int .u64 a0] rfl (by (try simp only [List.map_toArray, List.map_cons, List.map_nil]); first | done | rfl | (simp only [List.length_drop, List.length_take]; rfl) | (simp [go_sem]; done) | (simp [go_sem, wrap64]; omega)) ?_; (with_reducible refine (r3_NaN.calls a0 true _ A3.out).mono ?_); rintro e w6 ⟨rfl, hb⟩; refine ⟨_, rfl, ?_⟩; replace HB := Aside0.mk (below_step (kH HB) hb); (try clear hb); (try clear hb2); (try clear hk); (try clear hi)) | ((with_reducible refine gate_callee (f := 34) rfl ?_); refine goesL_ (some 20) rfl rfl Try.func34 (by kernel_rfl) rfl #[.int .u64 a0, .int .u64 a0] rfl (by (try simp only [List.map_toArray, List.map_cons, List.map_nil]); first | done | rfl | (simp only [List.length_drop, List.length_take]; rfl) | (simp [go_sem]; done) | (simp [go_sem, wrap64]; omega)) ?_; (with_reducible refine (r5_None.calls a0 a0 q01 _ A5.out).mono ?_); rintro e w7 ⟨rfl, hb⟩; refine ⟨_, rfl, ?_⟩; replace HB := Aside0.mk (below_step (kH HB) hb); (try clear hb); (try clear hb2); (try clear hk); (try clear hi)))
   go_ret2
   exact ⟨by first | rfl | (simp [errW_none, errW_some] <;> rfl) | (simp [*, errW_none, errW_some] <;> rfl), kH HB⟩
 replace c4 := Bool.eq_false_iff.mpr c4; subst c4
 have H1 : ((r3_Abs.f a0).bind fun qm => (if qm = 9218868437227405312 then ((tillerref12_signed.f 2139095040 (decide (a0 ≥ 9223372036854775808))).bind fun qv => (some (qv, 0))) else ((r3_Abs.f a0).bind fun ql => (if ql = 0 then ((tillerref12_signed.f 0 (decide (a0 ≥ 9223372036854775808))).bind fun qt => (some (qt, 0))) else (if a1 < 0 then (tillerref12_To.j0 k a0 a1 (decide (a0 ≥ 9223372036854775808)) true) else (tillerref12_To.j0 k a0 a1 (decide (a0 ≥ 9223372036854775808)) (decide (a1 > 4)))))))) = some (r1, r2) := by rw [if_neg (show ¬ (false = true) by decide)] at H; exact H
 clear H; have H := H1; clear H1; replace H := Option.bind_eq_some_iff.mp H; obtain ⟨qm, A80, H⟩ := H; replace H : (if qm = 9218868437227405312 then ((tillerref12_signed.f 2139095040 (decide (a0 ≥ 9223372036854775808))).bind fun qv => (some (qv, 0))) else ((r3_Abs.f a0).bind fun ql => (if ql = 0 then ((tillerref12_signed.f 0 (decide (a0 ≥ 9223372036854775808))).bind fun qt => (some (qt, 0))) else (if a1 < 0 then (tillerref12_To.j0 k a0 a1 (decide (a0 ≥ 9223372036854775808)) true) else (tillerref12_To.j0 k a0 a1 (decide (a0 ≥ 9223372036854775808)) (decide (a1 > 4))))))) = some (r1, r2) := H; have A8 := Aside0.mk A80; clear A80
 by_cases c9 : qm = 9218868437227405312
 · rw [if_pos c9] at H
   have q09 : (qm == 9218868437227405312) = true := beq_iff_eq.mpr c9; have q0a : (qm != 9218868437227405312) = false := bne_eq_false_iff_eq.mpr c9; clear c9; replace H := Option.bind_eq_some_iff.mp H; obtain ⟨qv, q3b, H⟩ := H; replace H : (some (qv, 0)) = some (r1, r2) := H; have A10 := Aside0.mk q3b; clear q3b
   simp only [Option.some.injEq, Prod.mk.injEq] at H
   obtain ⟨rfl, rfl⟩ := H
   go_enter Try.func13, Try.ntmps13
   go_wp2_with (first | ((with_reducible refine gate_callee (f := 33) rfl ?_); refine goesL_ (some 17) rfl rfl Try.func33 (by kernel_rfl) rfl #[.int .u64 a0] rfl (by (try simp only [List.map_toArray, List.map_cons, List.map_nil]); first | done | rfl | (simp only [List.length_drop, List.length_take]; rfl) | (simp [go_sem]; done) | (simp [go_sem, wrap64]; omega)) ?_; (with_reducible refine (r3_NaN.calls a0 false _ A3.out).mono ?_); rintro e w11 ⟨rfl, hb⟩; refine ⟨_, rfl, ?_⟩; replace HB := Aside0.mk (below_step (kH HB) hb); (try clear hb); (try clear hb2); (try clear hk); (try clear hi)) | ((with_reducible refine gate_callee (f := 35) rfl ?_); refine goesL_ (some 24) rfl rfl Try.func35 (by kernel_rfl) rfl #[.int .u64 a0] rfl (by (try simp only [List.map_toArray, List.map_cons, List.map_nil]); first | done | rfl | (simp only [List.length_drop, List.length_take]; rfl) | (simp [go_sem]; done) | (simp [go_sem, wrap64]; omega)) ?_; (with_reducible refine (r3_Abs.calls a0 qm _ A8.out).mono ?_); rintro e w12 ⟨rfl, hb⟩; refine ⟨_, rfl, ?_⟩; replace HB := Aside0.mk (below_step (kH HB) hb); (try clear hb); (try clear hb2); (try clear hk); (try clear hi)) | ((with_reducible refine gate_callee (f := 36) rfl ?_); refine goesL_ (some 27) rfl rfl Try.func36 (by kernel_rfl) rfl #[.int .u32 2139095040, .bool (decide (a0 ≥ 9223372036854775808))] rfl (by (try simp only [List.map_toArray, List.map_cons, List.map_nil]); first | done | rfl | (simp only [List.length_drop, List.length_take]; rfl) | (simp [go_sem]; done) | (simp [go_sem, wrap64]; omega)) ?_; (with_reducible refine (tillerref12_signed.calls 2139095040 (decide (a0 ≥ 9223372036854775808)) qv _ A10.out).mono ?_); rintro e w' ⟨rfl, ⟨nd, rfl⟩⟩; refine ⟨_, rfl, ?_⟩))
   go_ret2
   exact ⟨by first | rfl | (simp [errW_none, errW_some] <;> rfl) | (simp [*, errW_none, errW_some] <;> rfl), kH HB⟩
 rw [if_neg c9] at H
 have q09 : (qm == 9218868437227405312) = false := beq_eq_false_iff_ne.mpr c9; have q0a : (qm != 9218868437227405312) = true := bne_iff_ne.mpr c9; replace H := Option.bind_eq_some_iff.mp H; obtain ⟨ql, q3c, H⟩ := H; replace H : (if ql = 0 then ((tillerref12_signed.f 0 (decide (a0 ≥ 9223372036854775808))).bind fun qt => (some (qt, 0))) else (if a1 < 0 then (tillerref12_To.j0 k a0 a1 (decide (a0 ≥ 9223372036854775808)) true) else (tillerref12_To.j0 k a0 a1 (decide (a0 ≥ 9223372036854775808)) (decide (a1 > 4))))) = some (r1, r2) := H; have A13 := Aside0.mk q3c; clear q3c
 by_cases c14 : ql = 0
 · rw [if_pos c14] at H
   have q0b : (ql == 0) = true := beq_iff_eq.mpr c14; have q0c : (ql != 0) = false := bne_eq_false_iff_eq.mpr c14; clear c14; replace H := Option.bind_eq_some_iff.mp H; obtain ⟨qt, q3d, H⟩ := H; replace H : (some (qt, 0)) = some (r1, r2) := H; have A15 := Aside0.mk q3d; clear q3d
   simp only [Option.some.injEq, Prod.mk.injEq] at H
   obtain ⟨rfl, rfl⟩ := H
   go_enter Try.func13, Try.ntmps13
   go_wp2_with (first | ((with_reducible refine gate_callee (f := 33) rfl ?_); refine goesL_ (some 17) rfl rfl Try.func33 (by kernel_rfl) rfl #[.int .u64 a0] rfl (by (try simp only [List.map_toArray, List.map_cons, List.map_nil]); first | done | rfl | (simp only [List.length_drop, List.length_take]; rfl) | (simp [go_sem]; done) | (simp [go_sem, wrap64]; omega)) ?_; (with_reducible refine (r3_NaN.calls a0 false _ A3.out).mono ?_); rintro e w16 ⟨rfl, hb⟩; refine ⟨_, rfl, ?_⟩; replace HB := Aside0.mk (below_step (kH HB) hb); (try clear hb); (try clear hb2); (try clear hk); (try clear hi)) | ((with_reducible refine gate_callee (f := 35) rfl ?_); refine goesL_ (some 24) rfl rfl Try.func35 (by kernel_rfl) rfl #[.int .u64 a0] rfl (by (try simp only [List.map_toArray, List.map_cons, List.map_nil]); first | done | rfl | (simp only [List.length_drop, List.length_take]; rfl) | (simp [go_sem]; done) | (simp [go_sem, wrap64]; omega)) ?_; (with_reducible refine (r3_Abs.calls a0 qm _ A8.out).mono ?_); rintro e w17 ⟨rfl, hb⟩; refine ⟨_, rfl, ?_⟩; replace HB := Aside0.mk (below_step (kH HB) hb); (try clear hb); (try clear hb2); (try clear hk); (try clear hi)) | ((with_reducible refine gate_callee (f := 35) rfl ?_); refine goesL_ (some 29) rfl rfl Try.func35 (by kernel_rfl) rfl #[.int .u64 a0] rfl (by (try simp only [List.map_toArray, List.map_cons, List.map_nil]); first | done | rfl | (simp only [List.length_drop, List.length_take]; rfl) | (simp [go_sem]; done) | (simp [go_sem, wrap64]; omega)) ?_; (with_reducible refine (r3_Abs.calls a0 ql _ A13.out).mono ?_); rintro e w18 ⟨rfl, hb⟩; refine ⟨_, rfl, ?_⟩; replace HB := Aside0.mk (below_step (kH HB) hb); (try clear hb); (try clear hb2); (try clear hk); (try clear hi)) | ((with_reducible refine gate_callee (f := 36) rfl ?_); refine goesL_ (some 32) rfl rfl Try.func36 (by kernel_rfl) rfl #[.int .u32 0, .bool (decide (a0 ≥ 9223372036854775808))] rfl (by (try simp only [List.map_toArray, List.map_cons, List.map_nil]); first | done | rfl | (simp only [List.length_drop, List.length_take]; rfl) | (simp [go_sem]; done) | (simp [go_sem, wrap64]; omega)) ?_; (with_reducible refine (tillerref12_signed.calls 0 (decide (a0 ≥ 9223372036854775808)) qt _ A15.out).mono ?_); rintro e w' ⟨rfl, ⟨nd, rfl⟩⟩; refine ⟨_, rfl, ?_⟩))
   go_ret2
   exact ⟨by first | rfl | (simp [errW_none, errW_some] <;> rfl) | (simp [*, errW_none, errW_some] <;> rfl), kH HB⟩
 rw [if_neg c14] at H
 have q0b : (ql == 0) = false := beq_eq_false_iff_ne.mpr c14; have q0c : (ql != 0) = true := bne_iff_ne.mpr c14; have q22 := Aside0.mk H; clear H
 go_enter Try.func13, Try.ntmps13
 go_upto_region 8 with (first | ((with_reducible refine gate_callee (f := 33) rfl ?_); refine goesL_ (some 17) rfl rfl Try.func33 (by kernel_rfl) rfl #[.int .u64 a0] rfl (by (try simp only [List.map_toArray, List.map_cons, List.map_nil]); first | done | rfl | (simp only [List.length_drop, List.length_take]; rfl) | (simp [go_sem]; done) | (simp [go_sem, wrap64]; omega)) ?_; (with_reducible refine (r3_NaN.calls a0 false _ A3.out).mono ?_); rintro e w20 ⟨rfl, hb⟩; refine ⟨_, rfl, ?_⟩; replace HB := Aside0.mk (below_step (kH HB) hb); (try clear hb); (try clear hb2); (try clear hk); (try clear hi)) | ((with_reducible refine gate_callee (f := 35) rfl ?_); refine goesL_ (some 24) rfl rfl Try.func35 (by kernel_rfl) rfl #[.int .u64 a0] rfl (by (try simp only [List.map_toArray, List.map_cons, List.map_nil]); first | done | rfl | (simp only [List.length_drop, List.length_take]; rfl) | (simp [go_sem]; done) | (simp [go_sem, wrap64]; omega)) ?_; (with_reducible refine (r3_Abs.calls a0 qm _ A8.out).mono ?_); rintro e w21 ⟨rfl, hb⟩; refine ⟨_, rfl, ?_⟩; replace HB := Aside0.mk (below_step (kH HB) hb); (try clear hb); (try clear hb2); (try clear hk); (try clear hi)) | ((with_reducible refine gate_callee (f := 35) rfl ?_); refine goesL_ (some 29) rfl rfl Try.func35 (by kernel_rfl) rfl #[.int .u64 a0] rfl (by (try simp only [List.map_toArray, List.map_cons, List.map_nil]); first | done | rfl | (simp only [List.length_drop, List.length_take]; rfl) | (simp [go_sem]; done) | (simp [go_sem, wrap64]; omega)) ?_; (with_reducible refine (r3_Abs.calls a0 ql _ A13.out).mono ?_); rintro e w22 ⟨rfl, hb⟩; refine ⟨_, rfl, ?_⟩; replace HB := Aside0.mk (below_step (kH HB) hb); (try clear hb); (try clear hb2); (try clear hk); (try clear hi)))
 (try simp only [Act.put, List.setIfInBounds_toArray, List.set_cons_zero, List.set_cons_succ])
 go_cut [38] (fun v38 wc => ∃ (kq : Nat) (q1y : Bool), v38 = .bool q1y ∧ Aside0 (tillerref12_To.j0 kq a0 a1 (decide (a0 ≥ 9223372036854775808)) q1y = some (r1, r2)) ∧ Aside0 (kq ≤ k) ∧ Aside0 (Below w.heap.size w wc))
 case first =>
  have H := q22.out; clear q22
  by_cases c23 : a1 < 0
  · rw [if_pos c23] at H
    have qu : decide (a1 < 0) = true := decide_eq_true c23; clear c23
    (first | rw [qu] | (simp only [i64_w, i32_w]; rw [qu]) | skip)
    have H' := Aside0.mk H; clear H
    go_wp2
    go_meet
    case rel => exact ⟨_, (true), RSq, (by first | exact H' | (subst_vars; exact H')), ⟨by first | omega | exact Nat.le_refl _⟩, ⟨kH HB⟩⟩
  rw [if_neg c23] at H
  have qu : decide (a1 < 0) = false := decide_eq_false c23; clear c23
  (first | rw [qu] | (simp only [i64_w, i32_w]; rw [qu]) | skip)
  have H' := Aside0.mk H; clear H
  go_wp2
  go_meet
  case rel => exact ⟨_, (decide (a1 > 4)), RSq, (by first | exact H' | (subst_vars; exact H')), ⟨by first | omega | exact Nat.le_refl _⟩, ⟨kH HB⟩⟩
 case rest =>
  clear q22; (try clear c1); (try clear c2); (try clear p2); (try clear c3); (try clear c4); (try clear p6); (try clear c9); (try clear q09); (try clear q0a); (try clear c13); (try clear c14); (try clear q0b); (try clear q0c); (try clear c23); (try clear qu); obtain ⟨kq, q1y, rfl, HA, qe, HB⟩ := hcut
  cases kq with
  | zero => exact absurd HA.out (by simp [tillerref12_To.j0])
  | succ q23 =>
   have H := HA.out; clear HA
   simp only [tillerref12_To.j0] at H
   have q24 := Aside0.mk H; clear H
   go_upto_if 38 with (fail)
   go_cut [1] (fun v1 wc => ∃ (kq : Nat) (q3 : Int), v1 = .int .i64 q3 ∧ Aside0 (tillerref12_To.j1 kq a0 q3 (decide (a0 ≥ 9223372036854775808)) = some (r1, r2)) ∧ Aside0 (kq ≤ q23) ∧ Aside0 (Below w.heap.size w wc))
   case first =>
    have H := q24.out; clear q24
    by_cases c25 : q1y = true
    · subst c25
      have H1 : (tillerref12_To.j1 q23 a0 0 (decide (a0 ≥ 9223372036854775808))) = some (r1, r2) := by rw [if_pos rfl] at H; exact H
      clear H; have H := H1; clear H1; have H' := Aside0.mk H; clear H
      go_wp2
      go_meet
      case rel => exact ⟨_, (0), RSq, (by first | exact H' | (subst_vars; exact H')), ⟨by have := qe.out; first | omega | exact Nat.le_refl _⟩, ⟨kH HB⟩⟩
    replace c25 := Bool.eq_false_iff.mpr c25; subst c25
    have H1 : (tillerref12_To.j1 q23 a0 a1 (decide (a0 ≥ 9223372036854775808))) = some (r1, r2) := by rw [if_neg (show ¬ (false = true) by decide)] at H; exact H
    clear H; have H := H1; clear H1; have H' := Aside0.mk H; clear H
    go_wp2
    go_meet
    case rel => exact ⟨_, (a1), RSq, (by first | exact H' | (subst_vars; exact H')), ⟨by have := qe.out; first | omega | exact Nat.le_refl _⟩, ⟨kH HB⟩⟩
   case rest =>
    clear q24; (try clear c1); (try clear c2); (try clear p2); (try clear c3); (try clear c4); (try clear p6); (try clear c9); (try clear q09); (try clear q0a); (try clear c13); (try clear c14); (try clear q0b); (try clear q0c); (try clear c23); (try clear qu); (try clear c25); (try clear p2); (try clear p6); obtain ⟨kq, q3, rfl, HA, qg, HB⟩ := hcut
    cases kq with
    | zero => exact absurd HA.out (by simp [tillerref12_To.j1])
    | succ q7 =>
     have H := HA.out; clear HA
     simp only [tillerref12_To.j1] at H
     replace H := Option.bind_eq_some_iff.mp H; obtain ⟨⟨q6, q0, q4⟩, q3e, H⟩ := H; replace H : ((r2_Len.f q7 q4).bind fun q5 => (if (wrap64 ((wrap64 (q0 + q5)) - 24)) < (-149) then ((r4_To.f q7 q6 q0 q4 (-149) q3).bind fun qr => (if qr.2 = true then ((r4_To.f q7 q6 q0 q4 (wrap64 ((wrap64 (q0 + q5)) - 24)) q3).bind fun q07 => ((r2_Len.f q7 q07.1).bind fun qj => (if (wrap64 ((wrap64 (qj + (wrap64 (q0 + q5)))) - 24)) ≤ (-126) then (tillerref12_To.j2 q7 q3 (decide (a0 ≥ 9223372036854775808)) (-149) qr.1 24) else (tillerref12_To.j2 q7 q3 (decide (a0 ≥ 9223372036854775808)) (-149) qr.1 16)))) else (tillerref12_To.j2 q7 q3 (decide (a0 ≥ 9223372036854775808)) (-149) qr.1 0))) else ((r4_To.f q7 q6 q0 q4 (wrap64 ((wrap64 (q0 + q5)) - 24)) q3).bind fun qs => (if qs.2 = true then ((r4_To.f q7 q6 q0 q4 (wrap64 ((wrap64 (q0 + q5)) - 24)) q3).bind fun q08 => ((r2_Len.f q7 q08.1).bind fun qk => (if (wrap64 ((wrap64 (qk + (wrap64 (q0 + q5)))) - 24)) ≤ (-126) then (tillerref12_To.j5 q7 q3 (decide (a0 ≥ 9223372036854775808)) (wrap64 ((wrap64 (q0 + q5)) - 24)) qs.1 24) else (tillerref12_To.j5 q7 q3 (decide (a0 ≥ 9223372036854775808)) (wrap64 ((wrap64 (q0 + q5)) - 24)) qs.1 16)))) else (tillerref12_To.j5 q7 q3 (decide (a0 ≥ 9223372036854775808)) (wrap64 ((wrap64 (q0 + q5)) - 24)) qs.1 0))))) = some (r1, r2) := H; have A26 := Aside0.mk q3e; clear q3e; replace H := Option.bind_eq_some_iff.mp H; obtain ⟨q5, q3f, H⟩ := H; replace H : (if (wrap64 ((wrap64 (q0 + q5)) - 24)) < (-149) then ((r4_To.f q7 q6 q0 q4 (-149) q3).bind fun qr => (if qr.2 = true then ((r4_To.f q7 q6 q0 q4 (wrap64 ((wrap64 (q0 + q5)) - 24)) q3).bind fun q07 => ((r2_Len.f q7 q07.1).bind fun qj => (if (wrap64 ((wrap64 (qj + (wrap64 (q0 + q5)))) - 24)) ≤ (-126) then (tillerref12_To.j2 q7 q3 (decide (a0 ≥ 9223372036854775808)) (-149) qr.1 24) else (tillerref12_To.j2 q7 q3 (decide (a0 ≥ 9223372036854775808)) (-149) qr.1 16)))) else (tillerref12_To.j2 q7 q3 (decide (a0 ≥ 9223372036854775808)) (-149) qr.1 0))) else ((r4_To.f q7 q6 q0 q4 (wrap64 ((wrap64 (q0 + q5)) - 24)) q3).bind fun qs => (if qs.2 = true then ((r4_To.f q7 q6 q0 q4 (wrap64 ((wrap64 (q0 + q5)) - 24)) q3).bind fun q08 => ((r2_Len.f q7 q08.1).bind fun qk => (if (wrap64 ((wrap64 (qk + (wrap64 (q0 + q5)))) - 24)) ≤ (-126) then (tillerref12_To.j5 q7 q3 (decide (a0 ≥ 9223372036854775808)) (wrap64 ((wrap64 (q0 + q5)) - 24)) qs.1 24) else (tillerref12_To.j5 q7 q3 (decide (a0 ≥ 9223372036854775808)) (wrap64 ((wrap64 (q0 + q5)) - 24)) qs.1 16)))) else (tillerref12_To.j5 q7 q3 (decide (a0 ≥ 9223372036854775808)) (wrap64 ((wrap64 (q0 + q5)) - 24)) qs.1 0)))) = some (r1, r2) := H; have A27 := Aside0.mk q3f; clear q3f
     by_cases c28 : (wrap64 ((wrap64 (q0 + q5)) - 24)) < (-149)
     · rw [if_pos c28] at H
       have c28i := eq_true c28; have q0j : decide ((wrap64 ((wrap64 (q0 + q5)) - 24)) < (-149)) = true := decide_eq_true c28; clear c28; replace H := Option.bind_eq_some_iff.mp H; obtain ⟨⟨qh, q25⟩, q3g, H⟩ := H; replace H : (if q25 = true then ((r4_To.f q7 q6 q0 q4 (wrap64 ((wrap64 (q0 + q5)) - 24)) q3).bind fun q07 => ((r2_Len.f q7 q07.1).bind fun qj => (if (wrap64 ((wrap64 (qj + (wrap64 (q0 + q5)))) - 24)) ≤ (-126) then (tillerref12_To.j2 q7 q3 (decide (a0 ≥ 9223372036854775808)) (-149) qh 24) else (tillerref12_To.j2 q7 q3 (decide (a0 ≥ 9223372036854775808)) (-149) qh 16)))) else (tillerref12_To.j2 q7 q3 (decide (a0 ≥ 9223372036854775808)) (-149) qh 0)) = some (r1, r2) := H; have A29 := Aside0.mk q3g; clear q3g; have q26 := Aside0.mk H; clear H
       try go_wp2_with (first | ((with_reducible refine gate_callee (f := 37) rfl ?_); refine goesL_ (some 40) rfl rfl Try.func37 (by kernel_rfl) rfl #[.int .u64 a0] rfl (by (try simp only [List.map_toArray, List.map_cons, List.map_nil]); first | done | rfl | (simp only [List.length_drop, List.length_take]; rfl) | (simp [go_sem]; done) | (simp [go_sem, wrap64]; omega)) ?_; (with_reducible refine (r4_Pattern.calls q7 a0 q6 q0 q4 _ A26.out).mono ?_); rintro e w31 ⟨v316, rfl, ho0, hb⟩; refine ⟨_, rfl, ?_⟩; have q8 := Aside0.mk (Kd.V_lower (Kd.V_mono (ok' := fun k_ => True) ho0 (fun k_ hk_ => trivial)) (below_size (kH HB))); replace HB := Aside0.mk (below_step (kH HB) hb); (try clear hb); (try clear hb2); (try clear hk); (try clear hi); (try clear ho0)) | ((with_reducible refine gate_dst (N := 7) rfl ?_); refine box_event ?hg (N := 7) ?hd (cs := #[.bool false, .int .i64 0, .slice none 0 0]) (t := 66) ?hr ?_; (case hd => rfl); (case hg => rfl); (case hr => first | (go_simp; done) | (go_simp; rfl)); intro q2 hg w32 hbox hb; replace q8 := Aside0.mk (Kd.V_below (Kd.V_elderB (kV q8) q2 (Nat.le_of_eq hg.symm)) hb); have q1 := Aside0.mk (hbox); have q45 := Aside0.mk ((by rw [hg]; exact (below_size (kH HB)) : w.heap.size ≤ q2)); have q9 := Aside0.mk ((by rw [hg]; exact (below_size (kH HB)) : w.heap.size ≤ q2)); replace HB := Aside0.mk (below_step (kH HB) hb); clear hb hbox hg; have q0s : w32.cell? ⟨q2, 0, none⟩ = some (.bool false) := bc q1 0; have q0t : w32.cell? ⟨q2, 1, none⟩ = some (.int .i64 0) := bc q1 1; have q0u : w32.cell? ⟨q2, 2, none⟩ = some (.slice none 0 0) := bc q1 2; have q0v := blk_frozen q1.out 0; have q0w := blk_frozen q1.out 1; have q0x := blk_frozen q1.out 2; obtain ⟨qa, qb, eo34⟩ := Kd.V_slice q8.out; subst eo34))
       have n0_ : Aside0 (Kd.V (Kd.int .u32) 23 (((w32.setCell ⟨q2, 0, none⟩ (.bool q6)).setCell ⟨q2, 1, none⟩ (.int .i64 q0)).setCell ⟨q2, 2, none⟩ (.slice qa q4.length qb)) w.heap.size (fun k_ => k_ ≠ q2) (.slice qa q4.length qb) q4) := ⟨by (with_reducible repeat (first | apply Kd.V_alloc | apply Kd.V_drewN | apply Kd.V_drew)); exact Kd.V_mono (Kd.V_far (p := ⟨q2, 2, none⟩) (Kd.V_far (p := ⟨q2, 1, none⟩) (Kd.V_far (p := ⟨q2, 0, none⟩) (Kd.V_mono q8.out (fun k_ hk => (⟨hk, hk.2⟩ : _ ∧ k_ ≠ q2))) (fun _ hk => hk.2) (.bool q6)) (fun _ hk => hk.2) (.int .i64 q0)) (fun _ hk => hk.2) (.slice qa q4.length qb)) (fun _ hk => hk.1.2)⟩; have n1_ : Aside0 ((((w32.setCell ⟨q2, 0, none⟩ (.bool q6)).setCell ⟨q2, 1, none⟩ (.int .i64 q0)).setCell ⟨q2, 2, none⟩ (.slice qa q4.length qb)).heap[q2]? = some (.cells #[.bool q6, .int .i64 q0, .slice qa q4.length qb] 66 (0, 0))) := ⟨by (with_reducible repeat (first | refine blk_drewN ?_ _ | refine blk_drew ?_ | refine blk_alloc ?_ _)); refine blk_put (cs := #[.bool q6, .int .i64 q0, .slice none 0 0]) ?_ 2 _ rfl; refine blk_put (cs := #[.bool q6, .int .i64 0, .slice none 0 0]) ?_ 1 _ rfl; refine blk_put (cs := #[.bool false, .int .i64 0, .slice none 0 0]) ?_ 0 _ rfl; (with_reducible repeat (first | refine blk_drewN ?_ _ | refine blk_drew ?_ | refine blk_alloc ?_ _)); exact q1.out⟩; have n2_ : Aside0 (Below w.heap.size w (((w32.setCell ⟨q2, 0, none⟩ (.bool q6)).setCell ⟨q2, 1, none⟩ (.int .i64 q0)).setCell ⟨q2, 2, none⟩ (.slice qa q4.length qb))) := ⟨kHs HB q9⟩
       (try clear q8)
       (try clear q1)
       (try clear HB)
       generalize (((w32.setCell ⟨q2, 0, none⟩ (.bool q6)).setCell ⟨q2, 1, none⟩ (.int .i64 q0)).setCell ⟨q2, 2, none⟩ (.slice qa q4.length qb)) = w35 at n0_ n1_ n2_ ⊢
       have q8 := n0_; have q1 := n1_; have HB := n2_; clear n0_ n1_ n2_; replace q8 := Aside0.mk (Kd.V_drew q8.out); replace q1 := Aside0.mk (blk_drew q1.out); replace HB := Aside0.mk (below_drew1 HB.out); refine start_ (n := 7) (S := fun w' => w'.cell? ⟨q2, 0, none⟩ = some (.bool q6) ∧ w'.cell? ⟨q2, 1, none⟩ = some (.int .i64 q0) ∧ w'.cell? ⟨q2, 2, none⟩ = some (.slice qa q4.length qb)) (ds := []) #[false, false, false, false, false, false, false] (by kernel_rfl) rfl rfl ⟨bc q1 0, bc q1 1, bc q1 2⟩ (fun hHeld => ?_)
       generalize w35.drew = w36 at q8 q1 HB hHeld ⊢
       refine pure_ (i := 0) (N := some 41) (v := ?_) (a' := ?_) #[true, false, false, false, false, false, false] rfl rfl (by kernel_rfl) (fun _ _ _ h => h) (Or.inl ⟨by rfl, ?_⟩) ?_ ?_; rotate_left
       · intro w'
         go_simp
         with_reducible rfl
       rotate_left
       · exact APq
       refine pure_ (i := 2) (N := some 43) (v := ?_) (a' := ?_) #[true, false, true, false, false, false, false] rfl rfl (by kernel_rfl) (fun _ _ _ h => h) (Or.inl ⟨by rfl, ?_⟩) ?_ ?_; rotate_left
       · intro w'
         go_simp
         with_reducible rfl
       rotate_left
       · exact APq
       refine take_ (i := 1) (N := some 42) (v := ?_) (a' := ?_) #[true, true, true, false, false, false, false] rfl rfl (by kernel_rfl) (fun _ _ _ h => h) (Or.inl ⟨by rfl, ?_⟩) hHeld ?_ ?_; rotate_left
       · rintro w' ⟨s0, s1, s2⟩
         go_simp
         with_reducible rfl
       rotate_left
       · exact APq
       refine take_ (i := 3) (N := some 44) (v := ?_) (a' := ?_) #[true, true, true, true, false, false, false] rfl rfl (by kernel_rfl) (fun _ _ _ h => h) (Or.inl ⟨by rfl, ?_⟩) hHeld ?_ ?_; rotate_left
       · rintro w' ⟨s0, s1, s2⟩
         go_simp
         with_reducible rfl
       rotate_left
       · exact APq
       refine one_ (i := 4) (N := some 45) #[true, true, true, true, true, false, false] rfl rfl (by kernel_rfl) (by decide) (fun K hK => ?_); refine goes_ Try.func38 (by kernel_rfl) rfl #[.slice qa q4.length qb] (by rfl) rfl rfl (by (try simp only [List.map_toArray, List.map_cons, List.map_nil]); first | done | rfl | (simp only [List.length_drop, List.length_take]; rfl) | (simp [go_sem]; done) | (simp [go_sem, wrap64]; omega)) ?_
       with_reducible refine (r2_Len.calls q7 _ _ q4 q5 _ ?side1 ?side2 A27.out).mono ?_
       (case side1 => exact kC (Kd.V_reads' q8.out).2.2)
       (case side2 => exact (Kd.V_reads' q8.out).2.1)
       rintro e w37 ⟨rfl, hb⟩; refine ⟨_, rfl, ?_⟩; replace q8 := Aside0.mk (Kd.V_below (kV q8) hb); replace q1 := Aside0.mk (blk_below q1.out hb); replace HB := Aside0.mk (below_step HB.out hb)
       (try clear hb)
       (try clear hb2)
       (try clear hk)
       (try clear hi)
       refine hK.out _ _ ⟨bc q1 0, bc q1 1, bc q1 2⟩ (fun hHeld => ?_); clear hK K; refine norm_ (a' := ?_) ?_ ?_; rotate_left
       · show Act.put _ (some 45) _ = _
         exact APq
       refine pure_ (i := 5) (N := some 46) (v := ?_) (a' := ?_) #[true, true, true, true, true, true, false] rfl rfl (by kernel_rfl) (fun _ _ _ h => h) (Or.inl ⟨by rfl, ?_⟩) ?_ ?_; rotate_left
       · intro w'
         go_simp
         with_reducible rfl
       rotate_left
       · exact APq
       refine pure_ (i := 6) (N := some 8) (v := ?_) (a' := ?_) #[true, true, true, true, true, true, true] rfl rfl (by kernel_rfl) (fun _ _ _ h => h) (Or.inl ⟨by rfl, ?_⟩) ?_ ?_; rotate_left
       · intro w'
         go_simp
         with_reducible rfl
       rotate_left
       · exact APq
       refine done_ (by kernel_rfl) ?_; have q0y : w37.cell? ⟨q2, 0, none⟩ = some (.bool q6) := bc q1 0; have q0z : w37.cell? ⟨q2, 1, none⟩ = some (.int .i64 q0) := bc q1 1; have q10 : w37.cell? ⟨q2, 2, none⟩ = some (.slice qa q4.length qb) := bc q1 2; have q11 := blk_frozen q1.out 0; have q12 := blk_frozen q1.out 1; have q13 := blk_frozen q1.out 2
       go_upto_if 57 with (first | ((with_reducible refine gate_callee (f := 39) rfl ?_); refine goesL_ (some 54) rfl rfl Try.func39 (by kernel_rfl) rfl #[.agg #[.bool q6, .int .i64 q0, .slice qa q4.length qb], .int .i64 (-149), .int .i64 q3] rfl (by (try simp only [List.map_toArray, List.map_cons, List.map_nil]); first | done | rfl | (simp only [List.length_drop, List.length_take]; rfl) | (simp [go_sem]; done) | (simp [go_sem, wrap64]; omega)) ?_; (with_reducible refine (r4_To.calls q7 q6 q0 (fun k_ => k_ ≠ q2) _ _ q4 (-149) q3 qh q25 _ ?side1 A29.out).mono ?_); (case side1 => exact q8.out); rintro e w39 ⟨v321, rfl, ho0, hb⟩; refine ⟨_, rfl, ?_⟩; replace q8 := Aside0.mk (Kd.V_below (kV q8) hb); have qw := Aside0.mk (Kd.V_lower (Kd.V_mono (ok' := fun k_ => k_ ≠ q2) ho0 (fun k_ hk_ => Or.elim hk_ (fun hs_ => hs_) (fun hn_ => (Kd.freshB (g := q2) (o := .cells #[.bool q6, .int .i64 q0, .slice qa q4.length qb] 66 (0, 0)) (kB q1) k_ hn_)))) (below_size (kHs HB q9))); replace q1 := Aside0.mk (blk_below (g := q2) (o := .cells #[.bool q6, .int .i64 q0, .slice qa q4.length qb] 66 (0, 0)) (kB q1) hb); replace HB := Aside0.mk (below_step (kHs HB q9) hb); (try clear hb); (try clear hb2); (try clear hk); (try clear hi); (try clear ho0)))
       (try simp only [Act.put, List.setIfInBounds_toArray, List.set_cons_zero, List.set_cons_succ])
       go_cut [12] (fun v12 wc => ∃ (kq : Nat) (q02 : Int), v12 = .int .i64 q02 ∧ Aside0 (tillerref12_To.j2 kq q3 (decide (a0 ≥ 9223372036854775808)) (-149) qh q02 = some (r1, r2)) ∧ Aside0 (kq ≤ q7) ∧ Aside0 (Kd.V (Kd.int .u32) 23 wc w.heap.size (fun k_ => k_ ≠ q2) v321 qh) ∧ Aside0 (Kd.V (Kd.int .u32) 23 wc w.heap.size (fun k_ => k_ ≠ q2) (.slice qa q4.length qb) q4) ∧ Aside0 (wc.heap[q2]? = some (.cells #[.bool q6, .int .i64 q0, (.slice qa q4.length qb)] 66 (0, 0))) ∧ Aside0 (Below w.heap.size w wc))
       case first =>
        have H := q26.out; clear q26
        by_cases c40 : q25 = true
        · subst c40
          have H1 : ((r4_To.f q7 q6 q0 q4 (wrap64 ((wrap64 (q0 + q5)) - 24)) q3).bind fun q07 => ((r2_Len.f q7 q07.1).bind fun qj => (if (wrap64 ((wrap64 (qj + (wrap64 (q0 + q5)))) - 24)) ≤ (-126) then (tillerref12_To.j2 q7 q3 (decide (a0 ≥ 9223372036854775808)) (-149) qh 24) else (tillerref12_To.j2 q7 q3 (decide (a0 ≥ 9223372036854775808)) (-149) qh 16)))) = some (r1, r2) := by rw [if_pos rfl] at H; exact H
          clear H; have H := H1; clear H1; replace H := Option.bind_eq_some_iff.mp H; obtain ⟨⟨q0k, q3h⟩, q3i, H⟩ := H; replace H : ((r2_Len.f q7 q0k).bind fun qj => (if (wrap64 ((wrap64 (qj + (wrap64 (q0 + q5)))) - 24)) ≤ (-126) then (tillerref12_To.j2 q7 q3 (decide (a0 ≥ 9223372036854775808)) (-149) qh 24) else (tillerref12_To.j2 q7 q3 (decide (a0 ≥ 9223372036854775808)) (-149) qh 16))) = some (r1, r2) := H; have A41 := Aside0.mk q3i; clear q3i; replace H := Option.bind_eq_some_iff.mp H; obtain ⟨qj, q3j, H⟩ := H; replace H : (if (wrap64 ((wrap64 (qj + (wrap64 (q0 + q5)))) - 24)) ≤ (-126) then (tillerref12_To.j2 q7 q3 (decide (a0 ≥ 9223372036854775808)) (-149) qh 24) else (tillerref12_To.j2 q7 q3 (decide (a0 ≥ 9223372036854775808)) (-149) qh 16)) = some (r1, r2) := H; have A42 := Aside0.mk q3j; clear q3j
          by_cases c43 : (wrap64 ((wrap64 (qj + (wrap64 (q0 + q5)))) - 24)) ≤ (-126)
          · rw [if_pos c43] at H
            have qx : decide ((wrap64 ((wrap64 (qj + (wrap64 (q0 + q5)))) - 24)) ≤ (-126)) = true := decide_eq_true c43; clear c43
            (first | rw [qx] | (simp only [i64_w, i32_w]; rw [qx]) | skip)
            have H' := Aside0.mk H; clear H; have q14 : w39.cell? ⟨q2, 0, none⟩ = some (.bool q6) := bc q1 0; have q15 : w39.cell? ⟨q2, 1, none⟩ = some (.int .i64 q0) := bc q1 1; have q16 : w39.cell? ⟨q2, 2, none⟩ = some (.slice qa q4.length qb) := bc q1 2; have q17 := blk_frozen q1.out 0; have q18 := blk_frozen q1.out 1; have q19 := blk_frozen q1.out 2
            go_wp2_with (first | ((with_reducible refine gate_callee (f := 39) rfl ?_); refine goesL_ (some 63) rfl rfl Try.func39 (by kernel_rfl) rfl #[.agg #[.bool q6, .int .i64 q0, .slice qa q4.length qb], .int .i64 (wrap64 ((wrap64 (q0 + q5)) - 24)), .int .i64 q3] rfl (by (try simp only [List.map_toArray, List.map_cons, List.map_nil]); first | done | rfl | (simp only [List.length_drop, List.length_take]; rfl) | (simp [go_sem]; done) | (simp [go_sem, wrap64]; omega)) ?_; (with_reducible refine (r4_To.calls q7 q6 q0 (fun k_ => k_ ≠ q2) _ _ q4 (wrap64 ((wrap64 (q0 + q5)) - 24)) q3 q0k q3h _ ?side1 A41.out).mono ?_); (case side1 => exact q8.out); rintro e w45 ⟨v325, rfl, ho0, hb⟩; refine ⟨_, rfl, ?_⟩; replace q8 := Aside0.mk (Kd.V_below (kV q8) hb); replace qw := Aside0.mk (Kd.V_below (kV qw) hb); have qy := Aside0.mk (Kd.V_lower (Kd.V_mono (ok' := fun k_ => k_ ≠ q2) ho0 (fun k_ hk_ => Or.elim hk_ (fun hs_ => hs_) (fun hn_ => (Kd.freshB (g := q2) (o := .cells #[.bool q6, .int .i64 q0, .slice qa q4.length qb] 66 (0, 0)) (kB q1) k_ hn_)))) (below_size (kHs HB q9))); replace q1 := Aside0.mk (blk_below (g := q2) (o := .cells #[.bool q6, .int .i64 q0, .slice qa q4.length qb] 66 (0, 0)) (kB q1) hb); replace HB := Aside0.mk (below_step (kHs HB q9) hb); (try clear hb); (try clear hb2); (try clear hk); (try clear hi); (try clear ho0); obtain ⟨q46, q47, eo46⟩ := Kd.V_slice qy.out; subst eo46) | ((with_reducible refine gate_callee (f := 38) rfl ?_); refine goesL_ (some 67) rfl rfl Try.func38 (by kernel_rfl) rfl #[.slice q46 q0k.length q47] rfl (by (try simp only [List.map_toArray, List.map_cons, List.map_nil]); first | done | rfl | (simp only [List.length_drop, List.length_take]; rfl) | (simp [go_sem]; done) | (simp [go_sem, wrap64]; omega)) ?_; (with_reducible refine (r2_Len.calls q7 _ _ q0k qj _ ?side1 ?side2 A42.out).mono ?_); (case side1 => exact kC (Kd.V_reads' qy.out).2.2); (case side2 => exact (Kd.V_reads' qy.out).2.1); rintro e w47 ⟨rfl, hb⟩; refine ⟨_, rfl, ?_⟩; replace q8 := Aside0.mk (Kd.V_below (kV q8) hb); replace qw := Aside0.mk (Kd.V_below (kV qw) hb); replace qy := Aside0.mk (Kd.V_below (kV qy) hb); replace q1 := Aside0.mk (blk_below (g := q2) (o := .cells #[.bool q6, .int .i64 q0, .slice qa q4.length qb] 66 (0, 0)) (kB q1) hb); replace HB := Aside0.mk (below_step (kHs HB q9) hb); (try clear hb); (try clear hb2); (try clear hk); (try clear hi)))
            go_meet
            case rel => exact ⟨_, (24), RSq, (by first | exact H' | (subst_vars; exact H')), ⟨by have := qe.out; have := qg.out; first | omega | exact Nat.le_refl _⟩, ⟨kV qw⟩, ⟨kV q8⟩, ⟨kB q1⟩, ⟨kHs HB q9⟩⟩
          rw [if_neg c43] at H
          have qx : decide ((wrap64 ((wrap64 (qj + (wrap64 (q0 + q5)))) - 24)) ≤ (-126)) = false := decide_eq_false c43; clear c43
          (first | rw [qx] | (simp only [i64_w, i32_w]; rw [qx]) | skip)
          have H' := Aside0.mk H; clear H; have q1a : w39.cell? ⟨q2, 0, none⟩ = some (.bool q6) := bc q1 0; have q1b : w39.cell? ⟨q2, 1, none⟩ = some (.int .i64 q0) := bc q1 1; have q1c : w39.cell? ⟨q2, 2, none⟩ = some (.slice qa q4.length qb) := bc q1 2; have q1d := blk_frozen q1.out 0; have q1e := blk_frozen q1.out 1; have q1f := blk_frozen q1.out 2
          go_wp2_with (first | ((with_reducible refine gate_callee (f := 39) rfl ?_); refine goesL_ (some 63) rfl rfl Try.func39 (by kernel_rfl) rfl #[.agg #[.bool q6, .int .i64 q0, .slice qa q4.length qb], .int .i64 (wrap64 ((wrap64 (q0 + q5)) - 24)), .int .i64 q3] rfl (by (try simp only [List.map_toArray, List.map_cons, List.map_nil]); first | done | rfl | (simp only [List.length_drop, List.length_take]; rfl) | (simp [go_sem]; done) | (simp [go_sem, wrap64]; omega)) ?_; (with_reducible refine (r4_To.calls q7 q6 q0 (fun k_ => k_ ≠ q2) _ _ q4 (wrap64 ((wrap64 (q0 + q5)) - 24)) q3 q0k q3h _ ?side1 A41.out).mono ?_); (case side1 => exact q8.out); rintro e w49 ⟨v325, rfl, ho0, hb⟩; refine ⟨_, rfl, ?_⟩; replace q8 := Aside0.mk (Kd.V_below (kV q8) hb); replace qw := Aside0.mk (Kd.V_below (kV qw) hb); have qy := Aside0.mk (Kd.V_lower (Kd.V_mono (ok' := fun k_ => k_ ≠ q2) ho0 (fun k_ hk_ => Or.elim hk_ (fun hs_ => hs_) (fun hn_ => (Kd.freshB (g := q2) (o := .cells #[.bool q6, .int .i64 q0, .slice qa q4.length qb] 66 (0, 0)) (kB q1) k_ hn_)))) (below_size (kHs HB q9))); replace q1 := Aside0.mk (blk_below (g := q2) (o := .cells #[.bool q6, .int .i64 q0, .slice qa q4.length qb] 66 (0, 0)) (kB q1) hb); replace HB := Aside0.mk (below_step (kHs HB q9) hb); (try clear hb); (try clear hb2); (try clear hk); (try clear hi); (try clear ho0); obtain ⟨q48, q49, eo50⟩ := Kd.V_slice qy.out; subst eo50) | ((with_reducible refine gate_callee (f := 38) rfl ?_); refine goesL_ (some 67) rfl rfl Try.func38 (by kernel_rfl) rfl #[.slice q48 q0k.length q49] rfl (by (try simp only [List.map_toArray, List.map_cons, List.map_nil]); first | done | rfl | (simp only [List.length_drop, List.length_take]; rfl) | (simp [go_sem]; done) | (simp [go_sem, wrap64]; omega)) ?_; (with_reducible refine (r2_Len.calls q7 _ _ q0k qj _ ?side1 ?side2 A42.out).mono ?_); (case side1 => exact kC (Kd.V_reads' qy.out).2.2); (case side2 => exact (Kd.V_reads' qy.out).2.1); rintro e w51 ⟨rfl, hb⟩; refine ⟨_, rfl, ?_⟩; replace q8 := Aside0.mk (Kd.V_below (kV q8) hb); replace qw := Aside0.mk (Kd.V_below (kV qw) hb); replace qy := Aside0.mk (Kd.V_below (kV qy) hb); replace q1 := Aside0.mk (blk_below (g := q2) (o := .cells #[.bool q6, .int .i64 q0, .slice qa q4.length qb] 66 (0, 0)) (kB q1) hb); replace HB := Aside0.mk (below_step (kHs HB q9) hb); (try clear hb); (try clear hb2); (try clear hk); (try clear hi)))
          go_meet
          case rel => exact ⟨_, (16), RSq, (by first | exact H' | (subst_vars; exact H')), ⟨by have := qe.out; have := qg.out; first | omega | exact Nat.le_refl _⟩, ⟨kV qw⟩, ⟨kV q8⟩, ⟨kB q1⟩, ⟨kHs HB q9⟩⟩
        replace c40 := Bool.eq_false_iff.mpr c40; subst c40
        have H1 : (tillerref12_To.j2 q7 q3 (decide (a0 ≥ 9223372036854775808)) (-149) qh 0) = some (r1, r2) := by rw [if_neg (show ¬ (false = true) by decide)] at H; exact H
        clear H; have H := H1; clear H1; have H' := Aside0.mk H; clear H
        go_wp2
        go_meet
        case rel => exact ⟨_, (0), RSq, (by first | exact H' | (subst_vars; exact H')), ⟨by have := qe.out; have := qg.out; first | omega | exact Nat.le_refl _⟩, ⟨kV qw⟩, ⟨kV q8⟩, ⟨kB q1⟩, ⟨kHs HB q9⟩⟩
       case rest =>
        clear q26; (try clear c1); (try clear c2); (try clear p2); (try clear c3); (try clear c4); (try clear p6); (try clear c9); (try clear q09); (try clear q0a); (try clear c13); (try clear c14); (try clear q0b); (try clear q0c); (try clear c23); (try clear qu); (try clear c25); (try clear c28); (try clear q0j); (try clear c33); (try clear c34); (try clear c35); (try clear c36); (try clear c37); (try clear c38); (try clear c39); (try clear c40); (try clear c43); (try clear qx); (try clear q0s q0t q0u); (try clear q0y q0z q10); (try clear q14 q15 q16); (try clear q1a q1b q1c); (try clear q0v q0w q0x); (try clear q11 q12 q13); (try clear q17 q18 q19); (try clear q1d q1e q1f); (try clear p2); (try clear p6); obtain ⟨kq, q02, rfl, HA, q0g, HO_10, HO_319002, q1, HB⟩ := hcut
        cases kq with
        | zero => exact absurd HA.out (by simp [tillerref12_To.j2])
        | succ qn =>
         have H := HA.out; clear HA
         simp only [tillerref12_To.j2] at H
         replace H := Option.bind_eq_some_iff.mp H; obtain ⟨q0e, q3k, H⟩ := H; replace H : (if (wrap64 (q0e + (-149))) > 128 then (if q3 = 2 then (tillerref12_To.j3 qn (decide (a0 ≥ 9223372036854775808)) true) else (if q3 = 3 then (if (decide (a0 ≥ 9223372036854775808)) = true then (tillerref12_To.j3 qn (decide (a0 ≥ 9223372036854775808)) true) else (if q3 = 4 then (tillerref12_To.j3 qn (decide (a0 ≥ 9223372036854775808)) (!(decide (a0 ≥ 9223372036854775808)))) else (tillerref12_To.j3 qn (decide (a0 ≥ 9223372036854775808)) false))) else (if q3 = 4 then (tillerref12_To.j3 qn (decide (a0 ≥ 9223372036854775808)) (!(decide (a0 ≥ 9223372036854775808)))) else (tillerref12_To.j3 qn (decide (a0 ≥ 9223372036854775808)) false)))) else ((r2_Low.f qn qh).bind fun qp => (if ((qp) % 4294967296) = 16777216 then (tillerref12_To.j4 qn (decide (a0 ≥ 9223372036854775808)) (wrap64 ((-149) + 1)) q02 8388608) else (tillerref12_To.j4 qn (decide (a0 ≥ 9223372036854775808)) (-149) q02 ((qp) % 4294967296))))) = some (r1, r2) := H; have A52 := Aside0.mk q3k; clear q3k
         by_cases c53 : (wrap64 (q0e + (-149))) > 128
         · rw [if_pos c53] at H
           have q1g : decide (128 < (wrap64 (q0e + (-149)))) = true := decide_eq_true c53; clear c53; have q27 := Aside0.mk H; clear H; obtain ⟨q4a, q4b, eo55⟩ := Kd.V_slice HO_10.out; subst eo55
           go_upto_region 21 with (first | ((with_reducible refine gate_callee (f := 38) rfl ?_); refine goesL_ (some 73) rfl rfl Try.func38 (by kernel_rfl) rfl #[.slice q4a qh.length q4b] rfl (by (try simp only [List.map_toArray, List.map_cons, List.map_nil]); first | done | rfl | (simp only [List.length_drop, List.length_take]; rfl) | (simp [go_sem]; done) | (simp [go_sem, wrap64]; omega)) ?_; (with_reducible refine (r2_Len.calls qn _ _ qh q0e _ ?side1 ?side2 A52.out).mono ?_); (case side1 => exact kC (Kd.V_reads' HO_10.out).2.2); (case side2 => exact (Kd.V_reads' HO_10.out).2.1); rintro e w56 ⟨rfl, hb⟩; refine ⟨_, rfl, ?_⟩; replace HO_10 := Aside0.mk (Kd.V_below (kV HO_10) hb); replace HO_319002 := Aside0.mk (Kd.V_below (kV HO_319002) hb); replace q1 := Aside0.mk (blk_below (g := q2) (o := .cells #[.bool q6, .int .i64 q0, .slice qa q4.length qb] 66 (0, 0)) (kB q1) hb); replace HB := Aside0.mk (below_step (kHs HB q9) hb); (try clear hb); (try clear hb2); (try clear hk); (try clear hi)))
           (try simp only [Act.put, List.setIfInBounds_toArray, List.set_cons_zero, List.set_cons_succ])
           go_cut [93] (fun v93 wc => ∃ (kq : Nat) (q1z : Bool), v93 = .bool q1z ∧ Aside0 (tillerref12_To.j3 kq (decide (a0 ≥ 9223372036854775808)) q1z = some (r1, r2)) ∧ Aside0 (kq ≤ qn) ∧ Aside0 (Kd.V (Kd.int .u32) 23 wc w.heap.size (fun k_ => k_ ≠ q2) (.slice qa q4.length qb) q4) ∧ Aside0 (wc.heap[q2]? = some (.cells #[.bool q6, .int .i64 q0, (.slice qa q4.length qb)] 66 (0, 0))) ∧ Aside0 (Below w.heap.size w wc))
           case first =>
            have H := q27.out; clear q27
            by_cases c57 : q3 = 2
            · rw [if_pos c57] at H
              have q03 : (q3 == 2) = true := beq_iff_eq.mpr c57; have q1h : (q3 != 2) = false := bne_eq_false_iff_eq.mpr c57; clear c57
              (first | rw [q03] | (simp only [i64_w, i32_w]; rw [q03]) | skip)
              have H' := Aside0.mk H; clear H
              go_wp2
              go_meet
              case rel => exact ⟨_, (true), RSq, (by first | exact H' | (subst_vars; exact H')), ⟨by have := qe.out; have := qg.out; have := q0g.out; first | omega | exact Nat.le_refl _⟩, ⟨kV HO_319002⟩, ⟨kB q1⟩, ⟨kHs HB q9⟩⟩
            rw [if_neg c57] at H
            have q03 : (q3 == 2) = false := beq_eq_false_iff_ne.mpr c57; have q1h : (q3 != 2) = true := bne_iff_ne.mpr c57
            (first | rw [q03] | (simp only [i64_w, i32_w]; rw [q03]) | skip)
            by_cases c58 : q3 = 3
            · rw [if_pos c58] at H
              have q1i : (q3 == 3) = true := beq_iff_eq.mpr c58; have q1j : (q3 != 3) = false := bne_eq_false_iff_eq.mpr c58; clear c58
              by_cases c59 : (decide (a0 ≥ 9223372036854775808)) = true
              · rw [if_pos c59] at H
                have q1k : (decide (a0 ≥ 9223372036854775808)) = true := c59; have q1l : decide (9223372036854775808 ≤ a0) = true := c59; clear c59; have H' := Aside0.mk H; clear H
                go_wp2
                go_meet
                case rel => exact ⟨_, (true), RSq, (by first | exact H' | (subst_vars; exact H')), ⟨by have := qe.out; have := qg.out; have := q0g.out; first | omega | exact Nat.le_refl _⟩, ⟨kV HO_319002⟩, ⟨kB q1⟩, ⟨kHs HB q9⟩⟩
              rw [if_neg c59] at H
              have q1k : (decide (a0 ≥ 9223372036854775808)) = false := by simpa using c59
              have q1l : decide (9223372036854775808 ≤ a0) = false := by simpa using c59
              clear c59
              by_cases c60 : q3 = 4
              · rw [if_pos c60] at H
                have q1m : (q3 == 4) = true := beq_iff_eq.mpr c60; have q1n : (q3 != 4) = false := bne_eq_false_iff_eq.mpr c60; clear c60; have H' := Aside0.mk H; clear H
                go_wp2
                go_meet
                case rel => exact ⟨_, (!(decide (a0 ≥ 9223372036854775808))), RSq, (by first | exact H' | (subst_vars; exact H')), ⟨by have := qe.out; have := qg.out; have := q0g.out; first | omega | exact Nat.le_refl _⟩, ⟨kV HO_319002⟩, ⟨kB q1⟩, ⟨kHs HB q9⟩⟩
              rw [if_neg c60] at H
              have q1m : (q3 == 4) = false := beq_eq_false_iff_ne.mpr c60; have q1n : (q3 != 4) = true := bne_iff_ne.mpr c60; have H' := Aside0.mk H; clear H
              go_wp2
              go_meet
              case rel => exact ⟨_, (false), RSq, (by first | exact H' | (subst_vars; exact H')), ⟨by have := qe.out; have := qg.out; have := q0g.out; first | omega | exact Nat.le_refl _⟩, ⟨kV HO_319002⟩, ⟨kB q1⟩, ⟨kHs HB q9⟩⟩
            rw [if_neg c58] at H
            have q1i : (q3 == 3) = false := beq_eq_false_iff_ne.mpr c58; have q1j : (q3 != 3) = true := bne_iff_ne.mpr c58
            by_cases c61 : q3 = 4
            · rw [if_pos c61] at H
              have q1o : (q3 == 4) = true := beq_iff_eq.mpr c61; have q1p : (q3 != 4) = false := bne_eq_false_iff_eq.mpr c61; clear c61; have H' := Aside0.mk H; clear H
              go_wp2
              go_meet
              case rel => exact ⟨_, (!(decide (a0 ≥ 9223372036854775808))), RSq, (by first | exact H' | (subst_vars; exact H')), ⟨by have := qe.out; have := qg.out; have := q0g.out; first | omega | exact Nat.le_refl _⟩, ⟨kV HO_319002⟩, ⟨kB q1⟩, ⟨kHs HB q9⟩⟩
            rw [if_neg c61] at H
            have q1o : (q3 == 4) = false := beq_eq_false_iff_ne.mpr c61; have q1p : (q3 != 4) = true := bne_iff_ne.mpr c61; have H' := Aside0.mk H; clear H
            go_wp2
            go_meet
            case rel => exact ⟨_, (false), RSq, (by first | exact H' | (subst_vars; exact H')), ⟨by have := qe.out; have := qg.out; have := q0g.out; first | omega | exact Nat.le_refl _⟩, ⟨kV HO_319002⟩, ⟨kB q1⟩, ⟨kHs HB q9⟩⟩
           case rest =>
            clear q27; (try clear c1); (try clear c2); (try clear p2); (try clear c3); (try clear c4); (try clear c5); (try clear c6); (try clear p6); (try clear c9); (try clear q09); (try clear q0a); (try clear c13); (try clear c14); (try clear q0b); (try clear q0c); (try clear c23); (try clear qu); (try clear c25); (try clear c28); (try clear q0j); (try clear c33); (try clear c34); (try clear c35); (try clear c36); (try clear c37); (try clear c38); (try clear c39); (try clear c40); (try clear c43); (try clear qx); (try clear c53); (try clear q1g); (try clear c57); (try clear q03); (try clear q1h); (try clear c58); (try clear q1i); (try clear q1j); (try clear c59); (try clear q1k); (try clear q1l); (try clear c60); (try clear q1m); (try clear q1n); (try clear c61); (try clear q1o); (try clear q1p); (try clear q0s q0t q0u); (try clear q0y q0z q10); (try clear q14 q15 q16); (try clear q1a q1b q1c); (try clear q0v q0w q0x); (try clear q11 q12 q13); (try clear q17 q18 q19); (try clear q1d q1e q1f); (try clear p2); (try clear p6); obtain ⟨kq, q1z, rfl, HA, HJ53, HO_319002, q1, HB⟩ := hcut
            cases kq with
            | zero => exact absurd HA.out (by simp [tillerref12_To.j3])
            | succ kj53 =>
             have H := HA.out; clear HA
             simp only [tillerref12_To.j3] at H
             by_cases c62 : q1z = true
             · subst c62
               have H1 : ((tillerref12_signed.f 2139095039 (decide (a0 ≥ 9223372036854775808))).bind fun q0n => (some (q0n, 20))) = some (r1, r2) := by rw [if_pos rfl] at H; exact H
               clear H; have H := H1; clear H1; replace H := Option.bind_eq_some_iff.mp H; obtain ⟨q0n, q3l, H⟩ := H; replace H : (some (q0n, 20)) = some (r1, r2) := H; have A63 := Aside0.mk q3l; clear q3l
               simp only [Option.some.injEq, Prod.mk.injEq] at H
               obtain ⟨rfl, rfl⟩ := H
               go_wp2_with (first | ((with_reducible refine gate_callee (f := 36) rfl ?_); refine goesL_ (some 95) rfl rfl Try.func36 (by kernel_rfl) rfl #[.int .u32 2139095039, .bool (decide (a0 ≥ 9223372036854775808))] rfl (by (try simp only [List.map_toArray, List.map_cons, List.map_nil]); first | done | rfl | (simp only [List.length_drop, List.length_take]; rfl) | (simp [go_sem]; done) | (simp [go_sem, wrap64]; omega)) ?_; (with_reducible refine (tillerref12_signed.calls 2139095039 (decide (a0 ≥ 9223372036854775808)) q0n _ A63.out).mono ?_); rintro e w' ⟨rfl, ⟨nd, rfl⟩⟩; refine ⟨_, rfl, ?_⟩))
               go_ret2
               exact ⟨by first | rfl | (simp [errW_none, errW_some] <;> rfl) | (simp [*, errW_none, errW_some] <;> rfl), kHs HB q9⟩
             replace c62 := Bool.eq_false_iff.mpr c62; subst c62
             have H1 : ((tillerref12_signed.f 2139095040 (decide (a0 ≥ 9223372036854775808))).bind fun q0o => (some (q0o, 20))) = some (r1, r2) := by rw [if_neg (show ¬ (false = true) by decide)] at H; exact H
             clear H; have H := H1; clear H1; replace H := Option.bind_eq_some_iff.mp H; obtain ⟨q0o, q3m, H⟩ := H; replace H : (some (q0o, 20)) = some (r1, r2) := H; have A64 := Aside0.mk q3m; clear q3m
             simp only [Option.some.injEq, Prod.mk.injEq] at H
             obtain ⟨rfl, rfl⟩ := H
             go_wp2_with (first | ((with_reducible refine gate_callee (f := 36) rfl ?_); refine goesL_ (some 97) rfl rfl Try.func36 (by kernel_rfl) rfl #[.int .u32 2139095040, .bool (decide (a0 ≥ 9223372036854775808))] rfl (by (try simp only [List.map_toArray, List.map_cons, List.map_nil]); first | done | rfl | (simp only [List.length_drop, List.length_take]; rfl) | (simp [go_sem]; done) | (simp [go_sem, wrap64]; omega)) ?_; (with_reducible refine (tillerref12_signed.calls 2139095040 (decide (a0 ≥ 9223372036854775808)) q0o _ A64.out).mono ?_); rintro e w' ⟨rfl, ⟨nd, rfl⟩⟩; refine ⟨_, rfl, ?_⟩))
             go_ret2
             exact ⟨by first | rfl | (simp [errW_none, errW_some] <;> rfl) | (simp [*, errW_none, errW_some] <;> rfl), kHs HB q9⟩
         rw [if_neg c53] at H
         have q1g : decide (128 < (wrap64 (q0e + (-149)))) = false := decide_eq_false c53; clear c53; replace H := Option.bind_eq_some_iff.mp H; obtain ⟨qp, q3n, H⟩ := H; replace H : (if ((qp) % 4294967296) = 16777216 then (tillerref12_To.j4 qn (decide (a0 ≥ 9223372036854775808)) (wrap64 ((-149) + 1)) q02 8388608) else (tillerref12_To.j4 qn (decide (a0 ≥ 9223372036854775808)) (-149) q02 ((qp) % 4294967296))) = some (r1, r2) := H; have A65 := Aside0.mk q3n; clear q3n; have q28 := Aside0.mk H; clear H; obtain ⟨q3o, q3p, eo67⟩ := Kd.V_slice HO_10.out; subst eo67
         go_upto_if 102 with (first | ((with_reducible refine gate_callee (f := 38) rfl ?_); refine goesL_ (some 73) rfl rfl Try.func38 (by kernel_rfl) rfl #[.slice q3o qh.length q3p] rfl (by (try simp only [List.map_toArray, List.map_cons, List.map_nil]); first | done | rfl | (simp only [List.length_drop, List.length_take]; rfl) | (simp [go_sem]; done) | (simp [go_sem, wrap64]; omega)) ?_; (with_reducible refine (r2_Len.calls qn _ _ qh q0e _ ?side1 ?side2 A52.out).mono ?_); (case side1 => exact kC (Kd.V_reads' HO_10.out).2.2); (case side2 => exact (Kd.V_reads' HO_10.out).2.1); rintro e w68 ⟨rfl, hb⟩; refine ⟨_, rfl, ?_⟩; replace HO_10 := Aside0.mk (Kd.V_below (kV HO_10) hb); replace HO_319002 := Aside0.mk (Kd.V_below (kV HO_319002) hb); replace q1 := Aside0.mk (blk_below (g := q2) (o := .cells #[.bool q6, .int .i64 q0, .slice qa q4.length qb] 66 (0, 0)) (kB q1) hb); replace HB := Aside0.mk (below_step (kHs HB q9) hb); (try clear hb); (try clear hb2); (try clear hk); (try clear hi)) | ((with_reducible refine gate_callee (f := 40) rfl ?_); refine goesL_ (some 99) rfl rfl Try.func40 (by kernel_rfl) rfl #[.slice q3o qh.length q3p] rfl (by (try simp only [List.map_toArray, List.map_cons, List.map_nil]); first | done | rfl | (simp only [List.length_drop, List.length_take]; rfl) | (simp [go_sem]; done) | (simp [go_sem, wrap64]; omega)) ?_; (with_reducible refine (r2_Low.calls qn _ _ qh qp _ ?side1 ?side2 A65.out).mono ?_); (case side1 => exact kC (Kd.V_reads' HO_10.out).2.2); (case side2 => exact (Kd.V_reads' HO_10.out).2.1); rintro e w69 ⟨rfl, hb⟩; refine ⟨_, rfl, ?_⟩; replace HO_10 := Aside0.mk (Kd.V_below (kV HO_10) hb); replace HO_319002 := Aside0.mk (Kd.V_below (kV HO_319002) hb); replace q1 := Aside0.mk (blk_below (g := q2) (o := .cells #[.bool q6, .int .i64 q0, .slice qa q4.length qb] 66 (0, 0)) (kB q1) hb); replace HB := Aside0.mk (below_step (kHs HB q9) hb); (try clear hb); (try clear hb2); (try clear hk); (try clear hi)))
         (try simp only [Act.put, List.setIfInBounds_toArray, List.set_cons_zero, List.set_cons_succ])
         go_cut [9, 15] (fun v9 v15 wc => ∃ (kq : Nat) (q1r : Int) (q04 : Int), v9 = .int .i64 q1r ∧ v15 = .int .u32 q04 ∧ Aside0 (tillerref12_To.j4 kq (decide (a0 ≥ 9223372036854775808)) q1r q02 q04 = some (r1, r2)) ∧ Aside0 (kq ≤ qn) ∧ Aside0 (Kd.V (Kd.int .u32) 23 wc w.heap.size (fun k_ => k_ ≠ q2) (.slice qa q4.length qb) q4) ∧ Aside0 (wc.heap[q2]? = some (.cells #[.bool q6, .int .i64 q0, (.slice qa q4.length qb)] 66 (0, 0))) ∧ Aside0 (Below w.heap.size w wc))
         case first =>
          have H := q28.out; clear q28
          by_cases c70 : ((qp) % 4294967296) = 16777216
          · rw [if_pos c70] at H
            have q0d : (((qp) % 4294967296) == 16777216) = true := beq_iff_eq.mpr c70; have q1s : (((qp) % 4294967296) != 16777216) = false := bne_eq_false_iff_eq.mpr c70; clear c70
            (first | rw [q0d] | (simp only [i64_w, i32_w]; rw [q0d]) | skip)
            have H' := Aside0.mk H; clear H
            go_wp2
            go_meet
            case rel => exact ⟨_, (wrap64 ((-149) + 1)), (8388608), RSq, RSq, (by first | exact H' | (subst_vars; exact H')), ⟨by have := qe.out; have := qg.out; have := q0g.out; first | omega | exact Nat.le_refl _⟩, ⟨kV HO_319002⟩, ⟨kB q1⟩, ⟨kHs HB q9⟩⟩
          rw [if_neg c70] at H
          have q0d : (((qp) % 4294967296) == 16777216) = false := beq_eq_false_iff_ne.mpr c70; have q1s : (((qp) % 4294967296) != 16777216) = true := bne_iff_ne.mpr c70
          (first | rw [q0d] | (simp only [i64_w, i32_w]; rw [q0d]) | skip)
          have H' := Aside0.mk H; clear H
          go_wp2
          go_meet
          case rel => exact ⟨_, ((-149)), ((qp) % 4294967296), RSq, RSq, (by first | exact H' | (subst_vars; exact H')), ⟨by have := qe.out; have := qg.out; have := q0g.out; first | omega | exact Nat.le_refl _⟩, ⟨kV HO_319002⟩, ⟨kB q1⟩, ⟨kHs HB q9⟩⟩
         case rest =>
          clear q28; (try clear c1); (try clear c2); (try clear p2); (try clear c3); (try clear c4); (try clear c5); (try clear c6); (try clear p6); (try clear c7); (try clear c9); (try clear q09); (try clear q0a); (try clear c13); (try clear c14); (try clear q0b); (try clear q0c); (try clear c23); (try clear qu); (try clear c25); (try clear c28); (try clear q0j); (try clear c33); (try clear c34); (try clear c35); (try clear c36); (try clear c37); (try clear c38); (try clear c39); (try clear c40); (try clear c43); (try clear qx); (try clear c53); (try clear q1g); (try clear c57); (try clear q03); (try clear q1h); (try clear c58); (try clear q1i); (try clear q1j); (try clear c59); (try clear q1k); (try clear q1l); (try clear c60); (try clear q1m); (try clear q1n); (try clear c61); (try clear q1o); (try clear q1p); (try clear c62); (try clear p64); (try clear c70); (try clear q0d); (try clear q1s); (try clear q0s q0t q0u); (try clear q0y q0z q10); (try clear q14 q15 q16); (try clear q1a q1b q1c); (try clear q0v q0w q0x); (try clear q11 q12 q13); (try clear q17 q18 q19); (try clear q1d q1e q1f); (try clear p2); (try clear p6); obtain ⟨kq, q1r, q04, rfl, rfl, HA, HJ65, HO_319002, q1, HB⟩ := hcut
          cases kq with
          | zero => exact absurd HA.out (by simp [tillerref12_To.j4])
          | succ kj65 =>
           have H := HA.out; clear HA
           simp only [tillerref12_To.j4] at H
           by_cases c71 : q04 ≥ 8388608
           · rw [if_pos c71] at H
             have q20 : decide (8388608 ≤ q04) = true := decide_eq_true c71; clear c71; replace H := Option.bind_eq_some_iff.mp H; obtain ⟨q1u, q3q, H⟩ := H; replace H : (some (q1u, q02)) = some (r1, r2) := H; have A72 := Aside0.mk q3q; clear q3q
             simp only [Option.some.injEq, Prod.mk.injEq] at H
             obtain ⟨rfl, rfl⟩ := H
             go_wp2_with (first | ((with_reducible refine gate_callee (f := 36) rfl ?_); refine goesL_ (some 115) rfl rfl Try.func36 (by kernel_rfl) rfl #[.int .u32 ((((wrap64 (q1r + 150)) % 4294967296) * 8388608 + q04 - 8388608) % 4294967296), .bool (decide (a0 ≥ 9223372036854775808))] rfl (by (try simp only [List.map_toArray, List.map_cons, List.map_nil]); first | done | rfl | (simp only [List.length_drop, List.length_take]; rfl) | (simp [go_sem]; done) | (simp [go_sem, wrap64]; omega)) ?_; (with_reducible refine (tillerref12_signed.calls ((((wrap64 (q1r + 150)) % 4294967296) * 8388608 + q04 - 8388608) % 4294967296) (decide (a0 ≥ 9223372036854775808)) q1u _ A72.out).mono ?_); rintro e w' ⟨rfl, ⟨nd, rfl⟩⟩; refine ⟨_, rfl, ?_⟩))
             go_ret2
             exact ⟨by first | rfl | (simp [errW_none, errW_some] <;> rfl) | (simp [*, errW_none, errW_some] <;> rfl), kHs HB q9⟩
           rw [if_neg c71] at H
           have q20 : decide (8388608 ≤ q04) = false := decide_eq_false c71; clear c71; replace H := Option.bind_eq_some_iff.mp H; obtain ⟨q1v, q3r, H⟩ := H; replace H : (some (q1v, q02)) = some (r1, r2) := H; have A73 := Aside0.mk q3r; clear q3r
           simp only [Option.some.injEq, Prod.mk.injEq] at H
           obtain ⟨rfl, rfl⟩ := H
           go_wp2_with (first | ((with_reducible refine gate_callee (f := 36) rfl ?_); refine goesL_ (some 119) rfl rfl Try.func36 (by kernel_rfl) rfl #[.int .u32 q04, .bool (decide (a0 ≥ 9223372036854775808))] rfl (by (try simp only [List.map_toArray, List.map_cons, List.map_nil]); first | done | rfl | (simp only [List.length_drop, List.length_take]; rfl) | (simp [go_sem]; done) | (simp [go_sem, wrap64]; omega)) ?_; (with_reducible refine (tillerref12_signed.calls q04 (decide (a0 ≥ 9223372036854775808)) q1v _ A73.out).mono ?_); rintro e w' ⟨rfl, ⟨nd, rfl⟩⟩; refine ⟨_, rfl, ?_⟩))
           go_ret2
           exact ⟨by first | rfl | (simp [errW_none, errW_some] <;> rfl) | (simp [*, errW_none, errW_some] <;> rfl), kHs HB q9⟩
     rw [if_neg c28] at H
     have c28i := eq_false c28; have q0j : decide ((wrap64 ((wrap64 (q0 + q5)) - 24)) < (-149)) = false := decide_eq_false c28; clear c28; replace H := Option.bind_eq_some_iff.mp H; obtain ⟨⟨qi, q29⟩, q3s, H⟩ := H; replace H : (if q29 = true then ((r4_To.f q7 q6 q0 q4 (wrap64 ((wrap64 (q0 + q5)) - 24)) q3).bind fun q08 => ((r2_Len.f q7 q08.1).bind fun qk => (if (wrap64 ((wrap64 (qk + (wrap64 (q0 + q5)))) - 24)) ≤ (-126) then (tillerref12_To.j5 q7 q3 (decide (a0 ≥ 9223372036854775808)) (wrap64 ((wrap64 (q0 + q5)) - 24)) qi 24) else (tillerref12_To.j5 q7 q3 (decide (a0 ≥ 9223372036854775808)) (wrap64 ((wrap64 (q0 + q5)) - 24)) qi 16)))) else (tillerref12_To.j5 q7 q3 (decide (a0 ≥ 9223372036854775808)) (wrap64 ((wrap64 (q0 + q5)) - 24)) qi 0)) = some (r1, r2) := H; have A74 := Aside0.mk q3s; clear q3s; have q2a := Aside0.mk H; clear H
     try go_wp2_with (first | ((with_reducible refine gate_callee (f := 37) rfl ?_); refine goesL_ (some 40) rfl rfl Try.func37 (by kernel_rfl) rfl #[.int .u64 a0] rfl (by (try simp only [List.map_toArray, List.map_cons, List.map_nil]); first | done | rfl | (simp only [List.length_drop, List.length_take]; rfl) | (simp [go_sem]; done) | (simp [go_sem, wrap64]; omega)) ?_; (with_reducible refine (r4_Pattern.calls q7 a0 q6 q0 q4 _ A26.out).mono ?_); rintro e w76 ⟨v316, rfl, ho0, hb⟩; refine ⟨_, rfl, ?_⟩; have q8 := Aside0.mk (Kd.V_lower (Kd.V_mono (ok' := fun k_ => True) ho0 (fun k_ hk_ => trivial)) (below_size (kH HB))); replace HB := Aside0.mk (below_step (kH HB) hb); (try clear hb); (try clear hb2); (try clear hk); (try clear hi); (try clear ho0)) | ((with_reducible refine gate_dst (N := 7) rfl ?_); refine box_event ?hg (N := 7) ?hd (cs := #[.bool false, .int .i64 0, .slice none 0 0]) (t := 66) ?hr ?_; (case hd => rfl); (case hg => rfl); (case hr => first | (go_simp; done) | (go_simp; rfl)); intro q2 hg w77 hbox hb; replace q8 := Aside0.mk (Kd.V_below (Kd.V_elderB (kV q8) q2 (Nat.le_of_eq hg.symm)) hb); have q1 := Aside0.mk (hbox); have q45 := Aside0.mk ((by rw [hg]; exact (below_size (kH HB)) : w.heap.size ≤ q2)); have q9 := Aside0.mk ((by rw [hg]; exact (below_size (kH HB)) : w.heap.size ≤ q2)); replace HB := Aside0.mk (below_step (kH HB) hb); clear hb hbox hg; have q2b : w77.cell? ⟨q2, 0, none⟩ = some (.bool false) := bc q1 0; have q2c : w77.cell? ⟨q2, 1, none⟩ = some (.int .i64 0) := bc q1 1; have q2d : w77.cell? ⟨q2, 2, none⟩ = some (.slice none 0 0) := bc q1 2; have q2e := blk_frozen q1.out 0; have q2f := blk_frozen q1.out 1; have q2g := blk_frozen q1.out 2; obtain ⟨qc, qd, eo79⟩ := Kd.V_slice q8.out; subst eo79))
     have n0_ : Aside0 (Kd.V (Kd.int .u32) 23 (((w77.setCell ⟨q2, 0, none⟩ (.bool q6)).setCell ⟨q2, 1, none⟩ (.int .i64 q0)).setCell ⟨q2, 2, none⟩ (.slice qc q4.length qd)) w.heap.size (fun k_ => k_ ≠ q2) (.slice qc q4.length qd) q4) := ⟨by (with_reducible repeat (first | apply Kd.V_alloc | apply Kd.V_drewN | apply Kd.V_drew)); exact Kd.V_mono (Kd.V_far (p := ⟨q2, 2, none⟩) (Kd.V_far (p := ⟨q2, 1, none⟩) (Kd.V_far (p := ⟨q2, 0, none⟩) (Kd.V_mono q8.out (fun k_ hk => (⟨hk, hk.2⟩ : _ ∧ k_ ≠ q2))) (fun _ hk => hk.2) (.bool q6)) (fun _ hk => hk.2) (.int .i64 q0)) (fun _ hk => hk.2) (.slice qc q4.length qd)) (fun _ hk => hk.1.2)⟩; have n1_ : Aside0 ((((w77.setCell ⟨q2, 0, none⟩ (.bool q6)).setCell ⟨q2, 1, none⟩ (.int .i64 q0)).setCell ⟨q2, 2, none⟩ (.slice qc q4.length qd)).heap[q2]? = some (.cells #[.bool q6, .int .i64 q0, .slice qc q4.length qd] 66 (0, 0))) := ⟨by (with_reducible repeat (first | refine blk_drewN ?_ _ | refine blk_drew ?_ | refine blk_alloc ?_ _)); refine blk_put (cs := #[.bool q6, .int .i64 q0, .slice none 0 0]) ?_ 2 _ rfl; refine blk_put (cs := #[.bool q6, .int .i64 0, .slice none 0 0]) ?_ 1 _ rfl; refine blk_put (cs := #[.bool false, .int .i64 0, .slice none 0 0]) ?_ 0 _ rfl; (with_reducible repeat (first | refine blk_drewN ?_ _ | refine blk_drew ?_ | refine blk_alloc ?_ _)); exact q1.out⟩; have n2_ : Aside0 (Below w.heap.size w (((w77.setCell ⟨q2, 0, none⟩ (.bool q6)).setCell ⟨q2, 1, none⟩ (.int .i64 q0)).setCell ⟨q2, 2, none⟩ (.slice qc q4.length qd))) := ⟨kHs HB q9⟩
     (try clear q8)
     (try clear q1)
     (try clear HB)
     generalize (((w77.setCell ⟨q2, 0, none⟩ (.bool q6)).setCell ⟨q2, 1, none⟩ (.int .i64 q0)).setCell ⟨q2, 2, none⟩ (.slice qc q4.length qd)) = w80 at n0_ n1_ n2_ ⊢
     have q8 := n0_; have q1 := n1_; have HB := n2_; clear n0_ n1_ n2_; replace q8 := Aside0.mk (Kd.V_drew q8.out); replace q1 := Aside0.mk (blk_drew q1.out); replace HB := Aside0.mk (below_drew1 HB.out); refine start_ (n := 7) (S := fun w' => w'.cell? ⟨q2, 0, none⟩ = some (.bool q6) ∧ w'.cell? ⟨q2, 1, none⟩ = some (.int .i64 q0) ∧ w'.cell? ⟨q2, 2, none⟩ = some (.slice qc q4.length qd)) (ds := []) #[false, false, false, false, false, false, false] (by kernel_rfl) rfl rfl ⟨bc q1 0, bc q1 1, bc q1 2⟩ (fun hHeld => ?_)
     generalize w80.drew = w81 at q8 q1 HB hHeld ⊢
     refine pure_ (i := 0) (N := some 41) (v := ?_) (a' := ?_) #[true, false, false, false, false, false, false] rfl rfl (by kernel_rfl) (fun _ _ _ h => h) (Or.inl ⟨by rfl, ?_⟩) ?_ ?_; rotate_left
     · intro w'
       go_simp
       with_reducible rfl
     rotate_left
     · exact APq
     refine pure_ (i := 2) (N := some 43) (v := ?_) (a' := ?_) #[true, false, true, false, false, false, false] rfl rfl (by kernel_rfl) (fun _ _ _ h => h) (Or.inl ⟨by rfl, ?_⟩) ?_ ?_; rotate_left
     · intro w'
       go_simp
       with_reducible rfl
     rotate_left
     · exact APq
     refine take_ (i := 1) (N := some 42) (v := ?_) (a' := ?_) #[true, true, true, false, false, false, false] rfl rfl (by kernel_rfl) (fun _ _ _ h => h) (Or.inl ⟨by rfl, ?_⟩) hHeld ?_ ?_; rotate_left
     · rintro w' ⟨s0, s1, s2⟩
       go_simp
       with_reducible rfl
     rotate_left
     · exact APq
     refine take_ (i := 3) (N := some 44) (v := ?_) (a' := ?_) #[true, true, true, true, false, false, false] rfl rfl (by kernel_rfl) (fun _ _ _ h => h) (Or.inl ⟨by rfl, ?_⟩) hHeld ?_ ?_; rotate_left
     · rintro w' ⟨s0, s1, s2⟩
       go_simp
       with_reducible rfl
     rotate_left
     · exact APq
     refine one_ (i := 4) (N := some 45) #[true, true, true, true, true, false, false] rfl rfl (by kernel_rfl) (by decide) (fun K hK => ?_); refine goes_ Try.func38 (by kernel_rfl) rfl #[.slice qc q4.length qd] (by rfl) rfl rfl (by (try simp only [List.map_toArray, List.map_cons, List.map_nil]); first | done | rfl | (simp only [List.length_drop, List.length_take]; rfl) | (simp [go_sem]; done) | (simp [go_sem, wrap64]; omega)) ?_
     with_reducible refine (r2_Len.calls q7 _ _ q4 q5 _ ?side1 ?side2 A27.out).mono ?_
     (case side1 => exact kC (Kd.V_reads' q8.out).2.2)
     (case side2 => exact (Kd.V_reads' q8.out).2.1)
     rintro e w82 ⟨rfl, hb⟩; refine ⟨_, rfl, ?_⟩; replace q8 := Aside0.mk (Kd.V_below (kV q8) hb); replace q1 := Aside0.mk (blk_below q1.out hb); replace HB := Aside0.mk (below_step HB.out hb)
     (try clear hb)
     (try clear hb2)
     (try clear hk)
     (try clear hi)
     refine hK.out _ _ ⟨bc q1 0, bc q1 1, bc q1 2⟩ (fun hHeld => ?_); clear hK K; refine norm_ (a' := ?_) ?_ ?_; rotate_left
     · show Act.put _ (some 45) _ = _
       exact APq
     refine pure_ (i := 5) (N := some 46) (v := ?_) (a' := ?_) #[true, true, true, true, true, true, false] rfl rfl (by kernel_rfl) (fun _ _ _ h => h) (Or.inl ⟨by rfl, ?_⟩) ?_ ?_; rotate_left
     · intro w'
       go_simp
       with_reducible rfl
     rotate_left
     · exact APq
     refine pure_ (i := 6) (N := some 8) (v := ?_) (a' := ?_) #[true, true, true, true, true, true, true] rfl rfl (by kernel_rfl) (fun _ _ _ h => h) (Or.inl ⟨by rfl, ?_⟩) ?_ ?_; rotate_left
     · intro w'
       go_simp
       with_reducible rfl
     rotate_left
     · exact APq
     refine done_ (by kernel_rfl) ?_; have q2h : w82.cell? ⟨q2, 0, none⟩ = some (.bool q6) := bc q1 0; have q2i : w82.cell? ⟨q2, 1, none⟩ = some (.int .i64 q0) := bc q1 1; have q2j : w82.cell? ⟨q2, 2, none⟩ = some (.slice qc q4.length qd) := bc q1 2; have q2k := blk_frozen q1.out 0; have q2l := blk_frozen q1.out 1; have q2m := blk_frozen q1.out 2
     go_upto_if 57 with (first | ((with_reducible refine gate_callee (f := 39) rfl ?_); refine goesL_ (some 54) rfl rfl Try.func39 (by kernel_rfl) rfl #[.agg #[.bool q6, .int .i64 q0, .slice qc q4.length qd], .int .i64 (wrap64 ((wrap64 (q0 + q5)) - 24)), .int .i64 q3] rfl (by (try simp only [List.map_toArray, List.map_cons, List.map_nil]); first | done | rfl | (simp only [List.length_drop, List.length_take]; rfl) | (simp [go_sem]; done) | (simp [go_sem, wrap64]; omega)) ?_; (with_reducible refine (r4_To.calls q7 q6 q0 (fun k_ => k_ ≠ q2) _ _ q4 (wrap64 ((wrap64 (q0 + q5)) - 24)) q3 qi q29 _ ?side1 A74.out).mono ?_); (case side1 => exact q8.out); rintro e w84 ⟨v336, rfl, ho0, hb⟩; refine ⟨_, rfl, ?_⟩; replace q8 := Aside0.mk (Kd.V_below (kV q8) hb); have qz := Aside0.mk (Kd.V_lower (Kd.V_mono (ok' := fun k_ => k_ ≠ q2) ho0 (fun k_ hk_ => Or.elim hk_ (fun hs_ => hs_) (fun hn_ => (Kd.freshB (g := q2) (o := .cells #[.bool q6, .int .i64 q0, .slice qc q4.length qd] 66 (0, 0)) (kB q1) k_ hn_)))) (below_size (kHs HB q9))); replace q1 := Aside0.mk (blk_below (g := q2) (o := .cells #[.bool q6, .int .i64 q0, .slice qc q4.length qd] 66 (0, 0)) (kB q1) hb); replace HB := Aside0.mk (below_step (kHs HB q9) hb); (try clear hb); (try clear hb2); (try clear hk); (try clear hi); (try clear ho0)))
     (try simp only [Act.put, List.setIfInBounds_toArray, List.set_cons_zero, List.set_cons_succ])
     go_cut [12] (fun v12 wc => ∃ (kq : Nat) (q05 : Int), v12 = .int .i64 q05 ∧ Aside0 (tillerref12_To.j5 kq q3 (decide (a0 ≥ 9223372036854775808)) (wrap64 ((wrap64 (q0 + q5)) - 24)) qi q05 = some (r1, r2)) ∧ Aside0 (kq ≤ q7) ∧ Aside0 (Kd.V (Kd.int .u32) 23 wc w.heap.size (fun k_ => k_ ≠ q2) v336 qi) ∧ Aside0 (Kd.V (Kd.int .u32) 23 wc w.heap.size (fun k_ => k_ ≠ q2) (.slice qc q4.length qd) q4) ∧ Aside0 (wc.heap[q2]? = some (.cells #[.bool q6, .int .i64 q0, (.slice qc q4.length qd)] 66 (0, 0))) ∧ Aside0 (Below w.heap.size w wc))
     case first =>
      have H := q2a.out; clear q2a
      by_cases c85 : q29 = true
      · subst c85
        have H1 : ((r4_To.f q7 q6 q0 q4 (wrap64 ((wrap64 (q0 + q5)) - 24)) q3).bind fun q08 => ((r2_Len.f q7 q08.1).bind fun qk => (if (wrap64 ((wrap64 (qk + (wrap64 (q0 + q5)))) - 24)) ≤ (-126) then (tillerref12_To.j5 q7 q3 (decide (a0 ≥ 9223372036854775808)) (wrap64 ((wrap64 (q0 + q5)) - 24)) qi 24) else (tillerref12_To.j5 q7 q3 (decide (a0 ≥ 9223372036854775808)) (wrap64 ((wrap64 (q0 + q5)) - 24)) qi 16)))) = some (r1, r2) := by rw [if_pos rfl] at H; exact H
        clear H; have H := H1; clear H1; replace H := Option.bind_eq_some_iff.mp H; obtain ⟨⟨q0l, q3t⟩, q3u, H⟩ := H; replace H : ((r2_Len.f q7 q0l).bind fun qk => (if (wrap64 ((wrap64 (qk + (wrap64 (q0 + q5)))) - 24)) ≤ (-126) then (tillerref12_To.j5 q7 q3 (decide (a0 ≥ 9223372036854775808)) (wrap64 ((wrap64 (q0 + q5)) - 24)) qi 24) else (tillerref12_To.j5 q7 q3 (decide (a0 ≥ 9223372036854775808)) (wrap64 ((wrap64 (q0 + q5)) - 24)) qi 16))) = some (r1, r2) := H; have A86 := Aside0.mk q3u; clear q3u; replace H := Option.bind_eq_some_iff.mp H; obtain ⟨qk, q3v, H⟩ := H; replace H : (if (wrap64 ((wrap64 (qk + (wrap64 (q0 + q5)))) - 24)) ≤ (-126) then (tillerref12_To.j5 q7 q3 (decide (a0 ≥ 9223372036854775808)) (wrap64 ((wrap64 (q0 + q5)) - 24)) qi 24) else (tillerref12_To.j5 q7 q3 (decide (a0 ≥ 9223372036854775808)) (wrap64 ((wrap64 (q0 + q5)) - 24)) qi 16)) = some (r1, r2) := H; have A87 := Aside0.mk q3v; clear q3v
        by_cases c88 : (wrap64 ((wrap64 (qk + (wrap64 (q0 + q5)))) - 24)) ≤ (-126)
        · rw [if_pos c88] at H
          have q0h : decide ((wrap64 ((wrap64 (qk + (wrap64 (q0 + q5)))) - 24)) ≤ (-126)) = true := decide_eq_true c88; clear c88
          (first | rw [q0h] | (simp only [i64_w, i32_w]; rw [q0h]) | skip)
          have H' := Aside0.mk H; clear H; have q2n : w84.cell? ⟨q2, 0, none⟩ = some (.bool q6) := bc q1 0; have q2o : w84.cell? ⟨q2, 1, none⟩ = some (.int .i64 q0) := bc q1 1; have q2p : w84.cell? ⟨q2, 2, none⟩ = some (.slice qc q4.length qd) := bc q1 2; have q2q := blk_frozen q1.out 0; have q2r := blk_frozen q1.out 1; have q2s := blk_frozen q1.out 2
          go_wp2_with (first | ((with_reducible refine gate_callee (f := 39) rfl ?_); refine goesL_ (some 63) rfl rfl Try.func39 (by kernel_rfl) rfl #[.agg #[.bool q6, .int .i64 q0, .slice qc q4.length qd], .int .i64 (wrap64 ((wrap64 (q0 + q5)) - 24)), .int .i64 q3] rfl (by (try simp only [List.map_toArray, List.map_cons, List.map_nil]); first | done | rfl | (simp only [List.length_drop, List.length_take]; rfl) | (simp [go_sem]; done) | (simp [go_sem, wrap64]; omega)) ?_; (with_reducible refine (r4_To.calls q7 q6 q0 (fun k_ => k_ ≠ q2) _ _ q4 (wrap64 ((wrap64 (q0 + q5)) - 24)) q3 q0l q3t _ ?side1 A86.out).mono ?_); (case side1 => exact q8.out); rintro e w90 ⟨v340, rfl, ho0, hb⟩; refine ⟨_, rfl, ?_⟩; replace q8 := Aside0.mk (Kd.V_below (kV q8) hb); replace qz := Aside0.mk (Kd.V_below (kV qz) hb); have q00 := Aside0.mk (Kd.V_lower (Kd.V_mono (ok' := fun k_ => k_ ≠ q2) ho0 (fun k_ hk_ => Or.elim hk_ (fun hs_ => hs_) (fun hn_ => (Kd.freshB (g := q2) (o := .cells #[.bool q6, .int .i64 q0, .slice qc q4.length qd] 66 (0, 0)) (kB q1) k_ hn_)))) (below_size (kHs HB q9))); replace q1 := Aside0.mk (blk_below (g := q2) (o := .cells #[.bool q6, .int .i64 q0, .slice qc q4.length qd] 66 (0, 0)) (kB q1) hb); replace HB := Aside0.mk (below_step (kHs HB q9) hb); (try clear hb); (try clear hb2); (try clear hk); (try clear hi); (try clear ho0); obtain ⟨q4c, q4d, eo91⟩ := Kd.V_slice q00.out; subst eo91) | ((with_reducible refine gate_callee (f := 38) rfl ?_); refine goesL_ (some 67) rfl rfl Try.func38 (by kernel_rfl) rfl #[.slice q4c q0l.length q4d] rfl (by (try simp only [List.map_toArray, List.map_cons, List.map_nil]); first | done | rfl | (simp only [List.length_drop, List.length_take]; rfl) | (simp [go_sem]; done) | (simp [go_sem, wrap64]; omega)) ?_; (with_reducible refine (r2_Len.calls q7 _ _ q0l qk _ ?side1 ?side2 A87.out).mono ?_); (case side1 => exact kC (Kd.V_reads' q00.out).2.2); (case side2 => exact (Kd.V_reads' q00.out).2.1); rintro e w92 ⟨rfl, hb⟩; refine ⟨_, rfl, ?_⟩; replace q8 := Aside0.mk (Kd.V_below (kV q8) hb); replace qz := Aside0.mk (Kd.V_below (kV qz) hb); replace q00 := Aside0.mk (Kd.V_below (kV q00) hb); replace q1 := Aside0.mk (blk_below (g := q2) (o := .cells #[.bool q6, .int .i64 q0, .slice qc q4.length qd] 66 (0, 0)) (kB q1) hb); replace HB := Aside0.mk (below_step (kHs HB q9) hb); (try clear hb); (try clear hb2); (try clear hk); (try clear hi)))
          go_meet
          case rel => exact ⟨_, (24), RSq, (by first | exact H' | (subst_vars; exact H')), ⟨by have := qe.out; have := qg.out; first | omega | exact Nat.le_refl _⟩, ⟨kV qz⟩, ⟨kV q8⟩, ⟨kB q1⟩, ⟨kHs HB q9⟩⟩
        rw [if_neg c88] at H
        have q0h : decide ((wrap64 ((wrap64 (qk + (wrap64 (q0 + q5)))) - 24)) ≤ (-126)) = false := decide_eq_false c88; clear c88
        (first | rw [q0h] | (simp only [i64_w, i32_w]; rw [q0h]) | skip)
        have H' := Aside0.mk H; clear H; have q2t : w84.cell? ⟨q2, 0, none⟩ = some (.bool q6) := bc q1 0; have q2u : w84.cell? ⟨q2, 1, none⟩ = some (.int .i64 q0) := bc q1 1; have q2v : w84.cell? ⟨q2, 2, none⟩ = some (.slice qc q4.length qd) := bc q1 2; have q2w := blk_frozen q1.out 0; have q2x := blk_frozen q1.out 1; have q2y := blk_frozen q1.out 2
        go_wp2_with (first | ((with_reducible refine gate_callee (f := 39) rfl ?_); refine goesL_ (some 63) rfl rfl Try.func39 (by kernel_rfl) rfl #[.agg #[.bool q6, .int .i64 q0, .slice qc q4.length qd], .int .i64 (wrap64 ((wrap64 (q0 + q5)) - 24)), .int .i64 q3] rfl (by (try simp only [List.map_toArray, List.map_cons, List.map_nil]); first | done | rfl | (simp only [List.length_drop, List.length_take]; rfl) | (simp [go_sem]; done) | (simp [go_sem, wrap64]; omega)) ?_; (with_reducible refine (r4_To.calls q7 q6 q0 (fun k_ => k_ ≠ q2) _ _ q4 (wrap64 ((wrap64 (q0 + q5)) - 24)) q3 q0l q3t _ ?side1 A86.out).mono ?_); (case side1 => exact q8.out); rintro e w94 ⟨v340, rfl, ho0, hb⟩; refine ⟨_, rfl, ?_⟩; replace q8 := Aside0.mk (Kd.V_below (kV q8) hb); replace qz := Aside0.mk (Kd.V_below (kV qz) hb); have q00 := Aside0.mk (Kd.V_lower (Kd.V_mono (ok' := fun k_ => k_ ≠ q2) ho0 (fun k_ hk_ => Or.elim hk_ (fun hs_ => hs_) (fun hn_ => (Kd.freshB (g := q2) (o := .cells #[.bool q6, .int .i64 q0, .slice qc q4.length qd] 66 (0, 0)) (kB q1) k_ hn_)))) (below_size (kHs HB q9))); replace q1 := Aside0.mk (blk_below (g := q2) (o := .cells #[.bool q6, .int .i64 q0, .slice qc q4.length qd] 66 (0, 0)) (kB q1) hb); replace HB := Aside0.mk (below_step (kHs HB q9) hb); (try clear hb); (try clear hb2); (try clear hk); (try clear hi); (try clear ho0); obtain ⟨q4e, q4f, eo95⟩ := Kd.V_slice q00.out; subst eo95) | ((with_reducible refine gate_callee (f := 38) rfl ?_); refine goesL_ (some 67) rfl rfl Try.func38 (by kernel_rfl) rfl #[.slice q4e q0l.length q4f] rfl (by (try simp only [List.map_toArray, List.map_cons, List.map_nil]); first | done | rfl | (simp only [List.length_drop, List.length_take]; rfl) | (simp [go_sem]; done) | (simp [go_sem, wrap64]; omega)) ?_; (with_reducible refine (r2_Len.calls q7 _ _ q0l qk _ ?side1 ?side2 A87.out).mono ?_); (case side1 => exact kC (Kd.V_reads' q00.out).2.2); (case side2 => exact (Kd.V_reads' q00.out).2.1); rintro e w96 ⟨rfl, hb⟩; refine ⟨_, rfl, ?_⟩; replace q8 := Aside0.mk (Kd.V_below (kV q8) hb); replace qz := Aside0.mk (Kd.V_below (kV qz) hb); replace q00 := Aside0.mk (Kd.V_below (kV q00) hb); replace q1 := Aside0.mk (blk_below (g := q2) (o := .cells #[.bool q6, .int .i64 q0, .slice qc q4.length qd] 66 (0, 0)) (kB q1) hb); replace HB := Aside0.mk (below_step (kHs HB q9) hb); (try clear hb); (try clear hb2); (try clear hk); (try clear hi)))
        go_meet
        case rel => exact ⟨_, (16), RSq, (by first | exact H' | (subst_vars; exact H')), ⟨by have := qe.out; have := qg.out; first | omega | exact Nat.le_refl _⟩, ⟨kV qz⟩, ⟨kV q8⟩, ⟨kB q1⟩, ⟨kHs HB q9⟩⟩
      replace c85 := Bool.eq_false_iff.mpr c85; subst c85
      have H1 : (tillerref12_To.j5 q7 q3 (decide (a0 ≥ 9223372036854775808)) (wrap64 ((wrap64 (q0 + q5)) - 24)) qi 0) = some (r1, r2) := by rw [if_neg (show ¬ (false = true) by decide)] at H; exact H
      clear H; have H := H1; clear H1; have H' := Aside0.mk H; clear H
      go_wp2
      go_meet
      case rel => exact ⟨_, (0), RSq, (by first | exact H' | (subst_vars; exact H')), ⟨by have := qe.out; have := qg.out; first | omega | exact Nat.le_refl _⟩, ⟨kV qz⟩, ⟨kV q8⟩, ⟨kB q1⟩, ⟨kHs HB q9⟩⟩
     case rest =>
      clear q2a; (try clear c1); (try clear c2); (try clear p2); (try clear c3); (try clear c4); (try clear c5); (try clear c6); (try clear p6); (try clear c7); (try clear c8); (try clear c9); (try clear q09); (try clear q0a); (try clear c13); (try clear c14); (try clear q0b); (try clear q0c); (try clear c23); (try clear qu); (try clear c25); (try clear c28); (try clear q0j); (try clear c33); (try clear c34); (try clear c35); (try clear c36); (try clear c37); (try clear c38); (try clear c39); (try clear c40); (try clear c43); (try clear qx); (try clear c53); (try clear q1g); (try clear c57); (try clear q03); (try clear q1h); (try clear c58); (try clear q1i); (try clear q1j); (try clear c59); (try clear q1k); (try clear q1l); (try clear c60); (try clear q1m); (try clear q1n); (try clear c61); (try clear q1o); (try clear q1p); (try clear c62); (try clear p64); (try clear c70); (try clear q0d); (try clear q1s); (try clear c71); (try clear q20); (try clear c85); (try clear c88); (try clear q0h); (try clear q0s q0t q0u); (try clear q0y q0z q10); (try clear q14 q15 q16); (try clear q1a q1b q1c); (try clear q2b q2c q2d); (try clear q2h q2i q2j); (try clear q2n q2o q2p); (try clear q2t q2u q2v); (try clear q0v q0w q0x); (try clear q11 q12 q13); (try clear q17 q18 q19); (try clear q1d q1e q1f); (try clear q2e q2f q2g); (try clear q2k q2l q2m); (try clear q2q q2r q2s); (try clear q2w q2x q2y); (try clear p2); (try clear p6); (try clear p64); obtain ⟨kq, q05, rfl, HA, q0i, HO_10, HO_319002, q1, HB⟩ := hcut
      cases kq with
      | zero => exact absurd HA.out (by simp [tillerref12_To.j5])
      | succ qo =>
       have H := HA.out; clear HA
       simp only [tillerref12_To.j5] at H
       replace H := Option.bind_eq_some_iff.mp H; obtain ⟨q0f, q3w, H⟩ := H; replace H : (if (wrap64 (q0f + (wrap64 ((wrap64 (q0 + q5)) - 24)))) > 128 then (if q3 = 2 then (tillerref12_To.j6 qo (decide (a0 ≥ 9223372036854775808)) true) else (if q3 = 3 then (if (decide (a0 ≥ 9223372036854775808)) = true then (tillerref12_To.j6 qo (decide (a0 ≥ 9223372036854775808)) true) else (if q3 = 4 then (tillerref12_To.j6 qo (decide (a0 ≥ 9223372036854775808)) (!(decide (a0 ≥ 9223372036854775808)))) else (tillerref12_To.j6 qo (decide (a0 ≥ 9223372036854775808)) false))) else (if q3 = 4 then (tillerref12_To.j6 qo (decide (a0 ≥ 9223372036854775808)) (!(decide (a0 ≥ 9223372036854775808)))) else (tillerref12_To.j6 qo (decide (a0 ≥ 9223372036854775808)) false)))) else ((r2_Low.f qo qi).bind fun qq => (if ((qq) % 4294967296) = 16777216 then (tillerref12_To.j7 qo (decide (a0 ≥ 9223372036854775808)) (wrap64 ((wrap64 ((wrap64 (q0 + q5)) - 24)) + 1)) q05 8388608) else (tillerref12_To.j7 qo (decide (a0 ≥ 9223372036854775808)) (wrap64 ((wrap64 (q0 + q5)) - 24)) q05 ((qq) % 4294967296))))) = some (r1, r2) := H; have A97 := Aside0.mk q3w; clear q3w
       by_cases c98 : (wrap64 (q0f + (wrap64 ((wrap64 (q0 + q5)) - 24)))) > 128
       · rw [if_pos c98] at H
         have q2z : decide (128 < (wrap64 (q0f + (wrap64 ((wrap64 (q0 + q5)) - 24))))) = true := decide_eq_true c98; clear c98; have q30 := Aside0.mk H; clear H; obtain ⟨q4g, q4h, eo100⟩ := Kd.V_slice HO_10.out; subst eo100
         go_upto_region 21 with (first | ((with_reducible refine gate_callee (f := 38) rfl ?_); refine goesL_ (some 73) rfl rfl Try.func38 (by kernel_rfl) rfl #[.slice q4g qi.length q4h] rfl (by (try simp only [List.map_toArray, List.map_cons, List.map_nil]); first | done | rfl | (simp only [List.length_drop, List.length_take]; rfl) | (simp [go_sem]; done) | (simp [go_sem, wrap64]; omega)) ?_; (with_reducible refine (r2_Len.calls qo _ _ qi q0f _ ?side1 ?side2 A97.out).mono ?_); (case side1 => exact kC (Kd.V_reads' HO_10.out).2.2); (case side2 => exact (Kd.V_reads' HO_10.out).2.1); rintro e w101 ⟨rfl, hb⟩; refine ⟨_, rfl, ?_⟩; replace HO_10 := Aside0.mk (Kd.V_below (kV HO_10) hb); replace HO_319002 := Aside0.mk (Kd.V_below (kV HO_319002) hb); replace q1 := Aside0.mk (blk_below (g := q2) (o := .cells #[.bool q6, .int .i64 q0, .slice qc q4.length qd] 66 (0, 0)) (kB q1) hb); replace HB := Aside0.mk (below_step (kHs HB q9) hb); (try clear hb); (try clear hb2); (try clear hk); (try clear hi)))
         (try simp only [Act.put, List.setIfInBounds_toArray, List.set_cons_zero, List.set_cons_succ])
         go_cut [93] (fun v93 wc => ∃ (kq : Nat) (q21 : Bool), v93 = .bool q21 ∧ Aside0 (tillerref12_To.j6 kq (decide (a0 ≥ 9223372036854775808)) q21 = some (r1, r2)) ∧ Aside0 (kq ≤ qo) ∧ Aside0 (Kd.V (Kd.int .u32) 23 wc w.heap.size (fun k_ => k_ ≠ q2) (.slice qc q4.length qd) q4) ∧ Aside0 (wc.heap[q2]? = some (.cells #[.bool q6, .int .i64 q0, (.slice qc q4.length qd)] 66 (0, 0))) ∧ Aside0 (Below w.heap.size w wc))
         case first =>
          have H := q30.out; clear q30
          by_cases c102 : q3 = 2
          · rw [if_pos c102] at H
            have q0m : (q3 == 2) = true := beq_iff_eq.mpr c102; have q31 : (q3 != 2) = false := bne_eq_false_iff_eq.mpr c102; clear c102
            (first | rw [q0m] | (simp only [i64_w, i32_w]; rw [q0m]) | skip)
            have H' := Aside0.mk H; clear H
            go_wp2
            go_meet
            case rel => exact ⟨_, (true), RSq, (by first | exact H' | (subst_vars; exact H')), ⟨by have := qe.out; have := qg.out; have := q0i.out; first | omega | exact Nat.le_refl _⟩, ⟨kV HO_319002⟩, ⟨kB q1⟩, ⟨kHs HB q9⟩⟩
          rw [if_neg c102] at H
          have q0m : (q3 == 2) = false := beq_eq_false_iff_ne.mpr c102; have q31 : (q3 != 2) = true := bne_iff_ne.mpr c102
          (first | rw [q0m] | (simp only [i64_w, i32_w]; rw [q0m]) | skip)
          by_cases c103 : q3 = 3
          · rw [if_pos c103] at H
            have q32 : (q3 == 3) = true := beq_iff_eq.mpr c103; have q33 : (q3 != 3) = false := bne_eq_false_iff_eq.mpr c103; clear c103
            by_cases c104 : (decide (a0 ≥ 9223372036854775808)) = true
            · rw [if_pos c104] at H
              have q34 : (decide (a0 ≥ 9223372036854775808)) = true := c104; have q35 : decide (9223372036854775808 ≤ a0) = true := c104; clear c104; have H' := Aside0.mk H; clear H
              go_wp2
              go_meet
              case rel => exact ⟨_, (true), RSq, (by first | exact H' | (subst_vars; exact H')), ⟨by have := qe.out; have := qg.out; have := q0i.out; first | omega | exact Nat.le_refl _⟩, ⟨kV HO_319002⟩, ⟨kB q1⟩, ⟨kHs HB q9⟩⟩
            rw [if_neg c104] at H
            have q34 : (decide (a0 ≥ 9223372036854775808)) = false := by simpa using c104
            have q35 : decide (9223372036854775808 ≤ a0) = false := by simpa using c104
            clear c104
            by_cases c105 : q3 = 4
            · rw [if_pos c105] at H
              have q36 : (q3 == 4) = true := beq_iff_eq.mpr c105; have q37 : (q3 != 4) = false := bne_eq_false_iff_eq.mpr c105; clear c105; have H' := Aside0.mk H; clear H
              go_wp2
              go_meet
              case rel => exact ⟨_, (!(decide (a0 ≥ 9223372036854775808))), RSq, (by first | exact H' | (subst_vars; exact H')), ⟨by have := qe.out; have := qg.out; have := q0i.out; first | omega | exact Nat.le_refl _⟩, ⟨kV HO_319002⟩, ⟨kB q1⟩, ⟨kHs HB q9⟩⟩
            rw [if_neg c105] at H
            have q36 : (q3 == 4) = false := beq_eq_false_iff_ne.mpr c105; have q37 : (q3 != 4) = true := bne_iff_ne.mpr c105; have H' := Aside0.mk H; clear H
            go_wp2
            go_meet
            case rel => exact ⟨_, (false), RSq, (by first | exact H' | (subst_vars; exact H')), ⟨by have := qe.out; have := qg.out; have := q0i.out; first | omega | exact Nat.le_refl _⟩, ⟨kV HO_319002⟩, ⟨kB q1⟩, ⟨kHs HB q9⟩⟩
          rw [if_neg c103] at H
          have q32 : (q3 == 3) = false := beq_eq_false_iff_ne.mpr c103; have q33 : (q3 != 3) = true := bne_iff_ne.mpr c103
          by_cases c106 : q3 = 4
          · rw [if_pos c106] at H
            have q38 : (q3 == 4) = true := beq_iff_eq.mpr c106; have q39 : (q3 != 4) = false := bne_eq_false_iff_eq.mpr c106; clear c106; have H' := Aside0.mk H; clear H
            go_wp2
            go_meet
            case rel => exact ⟨_, (!(decide (a0 ≥ 9223372036854775808))), RSq, (by first | exact H' | (subst_vars; exact H')), ⟨by have := qe.out; have := qg.out; have := q0i.out; first | omega | exact Nat.le_refl _⟩, ⟨kV HO_319002⟩, ⟨kB q1⟩, ⟨kHs HB q9⟩⟩
          rw [if_neg c106] at H
          have q38 : (q3 == 4) = false := beq_eq_false_iff_ne.mpr c106; have q39 : (q3 != 4) = true := bne_iff_ne.mpr c106; have H' := Aside0.mk H; clear H
          go_wp2
          go_meet
          case rel => exact ⟨_, (false), RSq, (by first | exact H' | (subst_vars; exact H')), ⟨by have := qe.out; have := qg.out; have := q0i.out; first | omega | exact Nat.le_refl _⟩, ⟨kV HO_319002⟩, ⟨kB q1⟩, ⟨kHs HB q9⟩⟩
         case rest =>
          clear q30; (try clear c1); (try clear c2); (try clear p2); (try clear c3); (try clear c4); (try clear c5); (try clear c6); (try clear p6); (try clear c7); (try clear c8); (try clear c9); (try clear q09); (try clear q0a); (try clear c10); (try clear c13); (try clear c14); (try clear q0b); (try clear q0c); (try clear c23); (try clear qu); (try clear c25); (try clear c28); (try clear q0j); (try clear c33); (try clear c34); (try clear c35); (try clear c36); (try clear c37); (try clear c38); (try clear c39); (try clear c40); (try clear c43); (try clear qx); (try clear c53); (try clear q1g); (try clear c57); (try clear q03); (try clear q1h); (try clear c58); (try clear q1i); (try clear q1j); (try clear c59); (try clear q1k); (try clear q1l); (try clear c60); (try clear q1m); (try clear q1n); (try clear c61); (try clear q1o); (try clear q1p); (try clear c62); (try clear p64); (try clear c70); (try clear q0d); (try clear q1s); (try clear c71); (try clear q20); (try clear c85); (try clear c88); (try clear q0h); (try clear c98); (try clear q2z); (try clear c102); (try clear q0m); (try clear q31); (try clear c103); (try clear q32); (try clear q33); (try clear c104); (try clear q34); (try clear q35); (try clear c105); (try clear q36); (try clear q37); (try clear c106); (try clear q38); (try clear q39); (try clear q0s q0t q0u); (try clear q0y q0z q10); (try clear q14 q15 q16); (try clear q1a q1b q1c); (try clear q2b q2c q2d); (try clear q2h q2i q2j); (try clear q2n q2o q2p); (try clear q2t q2u q2v); (try clear q0v q0w q0x); (try clear q11 q12 q13); (try clear q17 q18 q19); (try clear q1d q1e q1f); (try clear q2e q2f q2g); (try clear q2k q2l q2m); (try clear q2q q2r q2s); (try clear q2w q2x q2y); (try clear p2); (try clear p6); (try clear p64); obtain ⟨kq, q21, rfl, HA, HJ98, HO_319002, q1, HB⟩ := hcut
          cases kq with
          | zero => exact absurd HA.out (by simp [tillerref12_To.j6])
          | succ kj98 =>
           have H := HA.out; clear HA
           simp only [tillerref12_To.j6] at H
           by_cases c107 : q21 = true
           · subst c107
             have H1 : ((tillerref12_signed.f 2139095039 (decide (a0 ≥ 9223372036854775808))).bind fun q0p => (some (q0p, 20))) = some (r1, r2) := by rw [if_pos rfl] at H; exact H
             clear H; have H := H1; clear H1; replace H := Option.bind_eq_some_iff.mp H; obtain ⟨q0p, q3x, H⟩ := H; replace H : (some (q0p, 20)) = some (r1, r2) := H; have q4i := Aside0.mk q3x; clear q3x
             simp only [Option.some.injEq, Prod.mk.injEq] at H
             obtain ⟨rfl, rfl⟩ := H
             go_wp2_with (first | ((with_reducible refine gate_callee (f := 36) rfl ?_); refine goesL_ (some 95) rfl rfl Try.func36 (by kernel_rfl) rfl #[.int .u32 2139095039, .bool (decide (a0 ≥ 9223372036854775808))] rfl (by (try simp only [List.map_toArray, List.map_cons, List.map_nil]); first | done | rfl | (simp only [List.length_drop, List.length_take]; rfl) | (simp [go_sem]; done) | (simp [go_sem, wrap64]; omega)) ?_; (with_reducible refine (tillerref12_signed.calls 2139095039 (decide (a0 ≥ 9223372036854775808)) q0p _ q4i.out).mono ?_); rintro e w' ⟨rfl, ⟨nd, rfl⟩⟩; refine ⟨_, rfl, ?_⟩))
             go_ret2
             exact ⟨by first | rfl | (simp [errW_none, errW_some] <;> rfl) | (simp [*, errW_none, errW_some] <;> rfl), kHs HB q9⟩
           replace c107 := Bool.eq_false_iff.mpr c107; subst c107
           have H1 : ((tillerref12_signed.f 2139095040 (decide (a0 ≥ 9223372036854775808))).bind fun q0q => (some (q0q, 20))) = some (r1, r2) := by rw [if_neg (show ¬ (false = true) by decide)] at H; exact H
           clear H; have H := H1; clear H1; replace H := Option.bind_eq_some_iff.mp H; obtain ⟨q0q, q3y, H⟩ := H; replace H : (some (q0q, 20)) = some (r1, r2) := H; have q4j := Aside0.mk q3y; clear q3y
           simp only [Option.some.injEq, Prod.mk.injEq] at H
           obtain ⟨rfl, rfl⟩ := H
           go_wp2_with (first | ((with_reducible refine gate_callee (f := 36) rfl ?_); refine goesL_ (some 97) rfl rfl Try.func36 (by kernel_rfl) rfl #[.int .u32 2139095040, .bool (decide (a0 ≥ 9223372036854775808))] rfl (by (try simp only [List.map_toArray, List.map_cons, List.map_nil]); first | done | rfl | (simp only [List.length_drop, List.length_take]; rfl) | (simp [go_sem]; done) | (simp [go_sem, wrap64]; omega)) ?_; (with_reducible refine (tillerref12_signed.calls 2139095040 (decide (a0 ≥ 9223372036854775808)) q0q _ q4j.out).mono ?_); rintro e w' ⟨rfl, ⟨nd, rfl⟩⟩; refine ⟨_, rfl, ?_⟩))
           go_ret2
           exact ⟨by first | rfl | (simp [errW_none, errW_some] <;> rfl) | (simp [*, errW_none, errW_some] <;> rfl), kHs HB q9⟩
       rw [if_neg c98] at H
       have q2z : decide (128 < (wrap64 (q0f + (wrap64 ((wrap64 (q0 + q5)) - 24))))) = false := decide_eq_false c98; clear c98; replace H := Option.bind_eq_some_iff.mp H; obtain ⟨qq, q3z, H⟩ := H; replace H : (if ((qq) % 4294967296) = 16777216 then (tillerref12_To.j7 qo (decide (a0 ≥ 9223372036854775808)) (wrap64 ((wrap64 ((wrap64 (q0 + q5)) - 24)) + 1)) q05 8388608) else (tillerref12_To.j7 qo (decide (a0 ≥ 9223372036854775808)) (wrap64 ((wrap64 (q0 + q5)) - 24)) q05 ((qq) % 4294967296))) = some (r1, r2) := H; have q4k := Aside0.mk q3z; clear q3z; have q3a := Aside0.mk H; clear H; obtain ⟨q40, q41, eo112⟩ := Kd.V_slice HO_10.out; subst eo112
       go_upto_if 102 with (first | ((with_reducible refine gate_callee (f := 38) rfl ?_); refine goesL_ (some 73) rfl rfl Try.func38 (by kernel_rfl) rfl #[.slice q40 qi.length q41] rfl (by (try simp only [List.map_toArray, List.map_cons, List.map_nil]); first | done | rfl | (simp only [List.length_drop, List.length_take]; rfl) | (simp [go_sem]; done) | (simp [go_sem, wrap64]; omega)) ?_; (with_reducible refine (r2_Len.calls qo _ _ qi q0f _ ?side1 ?side2 A97.out).mono ?_); (case side1 => exact kC (Kd.V_reads' HO_10.out).2.2); (case side2 => exact (Kd.V_reads' HO_10.out).2.1); rintro e w113 ⟨rfl, hb⟩; refine ⟨_, rfl, ?_⟩; replace HO_10 := Aside0.mk (Kd.V_below (kV HO_10) hb); replace HO_319002 := Aside0.mk (Kd.V_below (kV HO_319002) hb); replace q1 := Aside0.mk (blk_below (g := q2) (o := .cells #[.bool q6, .int .i64 q0, .slice qc q4.length qd] 66 (0, 0)) (kB q1) hb); replace HB := Aside0.mk (below_step (kHs HB q9) hb); (try clear hb); (try clear hb2); (try clear hk); (try clear hi)) | ((with_reducible refine gate_callee (f := 40) rfl ?_); refine goesL_ (some 99) rfl rfl Try.func40 (by kernel_rfl) rfl #[.slice q40 qi.length q41] rfl (by (try simp only [List.map_toArray, List.map_cons, List.map_nil]); first | done | rfl | (simp only [List.length_drop, List.length_take]; rfl) | (simp [go_sem]; done) | (simp [go_sem, wrap64]; omega)) ?_; (with_reducible refine (r2_Low.calls qo _ _ qi qq _ ?side1 ?side2 q4k.out).mono ?_); (case side1 => exact kC (Kd.V_reads' HO_10.out).2.2); (case side2 => exact (Kd.V_reads' HO_10.out).2.1); rintro e w114 ⟨rfl, hb⟩; refine ⟨_, rfl, ?_⟩; replace HO_10 := Aside0.mk (Kd.V_below (kV HO_10) hb); replace HO_319002 := Aside0.mk (Kd.V_below (kV HO_319002) hb); replace q1 := Aside0.mk (blk_below (g := q2) (o := .cells #[.bool q6, .int .i64 q0, .slice qc q4.length qd] 66 (0, 0)) (kB q1) hb); replace HB := Aside0.mk (below_step (kHs HB q9) hb); (try clear hb); (try clear hb2); (try clear hk); (try clear hi)))
       (try simp only [Act.put, List.setIfInBounds_toArray, List.set_cons_zero, List.set_cons_succ])
       go_cut [9, 15] (fun v9 v15 wc => ∃ (kq : Nat) (q1t : Int) (q06 : Int), v9 = .int .i64 q1t ∧ v15 = .int .u32 q06 ∧ Aside0 (tillerref12_To.j7 kq (decide (a0 ≥ 9223372036854775808)) q1t q05 q06 = some (r1, r2)) ∧ Aside0 (kq ≤ qo) ∧ Aside0 (Kd.V (Kd.int .u32) 23 wc w.heap.size (fun k_ => k_ ≠ q2) (.slice qc q4.length qd) q4) ∧ Aside0 (wc.heap[q2]? = some (.cells #[.bool q6, .int .i64 q0, (.slice qc q4.length qd)] 66 (0, 0))) ∧ Aside0 (Below w.heap.size w wc))
       case first =>
        have H := q3a.out; clear q3a
        by_cases c115 : ((qq) % 4294967296) = 16777216
        · rw [if_pos c115] at H
          have q1q : (((qq) % 4294967296) == 16777216) = true := beq_iff_eq.mpr c115; have q42 : (((qq) % 4294967296) != 16777216) = false := bne_eq_false_iff_eq.mpr c115; clear c115
          (first | rw [q1q] | (simp only [i64_w, i32_w]; rw [q1q]) | skip)
          have H' := Aside0.mk H; clear H
          go_wp2
          go_meet
          case rel => exact ⟨_, (wrap64 ((wrap64 ((wrap64 (q0 + q5)) - 24)) + 1)), (8388608), RSq, RSq, (by first | exact H' | (subst_vars; exact H')), ⟨by have := qe.out; have := qg.out; have := q0i.out; first | omega | exact Nat.le_refl _⟩, ⟨kV HO_319002⟩, ⟨kB q1⟩, ⟨kHs HB q9⟩⟩
        rw [if_neg c115] at H
        have q1q : (((qq) % 4294967296) == 16777216) = false := beq_eq_false_iff_ne.mpr c115; have q42 : (((qq) % 4294967296) != 16777216) = true := bne_iff_ne.mpr c115
        (first | rw [q1q] | (simp only [i64_w, i32_w]; rw [q1q]) | skip)
        have H' := Aside0.mk H; clear H
        go_wp2
        go_meet
        case rel => exact ⟨_, ((wrap64 ((wrap64 (q0 + q5)) - 24))), ((qq) % 4294967296), RSq, RSq, (by first | exact H' | (subst_vars; exact H')), ⟨by have := qe.out; have := qg.out; have := q0i.out; first | omega | exact Nat.le_refl _⟩, ⟨kV HO_319002⟩, ⟨kB q1⟩, ⟨kHs HB q9⟩⟩
       case rest =>
        clear q3a; (try clear c1); (try clear c2); (try clear p2); (try clear c3); (try clear c4); (try clear c5); (try clear c6); (try clear p6); (try clear c7); (try clear c8); (try clear c9); (try clear q09); (try clear q0a); (try clear c10); (try clear c11); (try clear c13); (try clear c14); (try clear q0b); (try clear q0c); (try clear c23); (try clear qu); (try clear c25); (try clear c28); (try clear q0j); (try clear c33); (try clear c34); (try clear c35); (try clear c36); (try clear c37); (try clear c38); (try clear c39); (try clear c40); (try clear c43); (try clear qx); (try clear c53); (try clear q1g); (try clear c57); (try clear q03); (try clear q1h); (try clear c58); (try clear q1i); (try clear q1j); (try clear c59); (try clear q1k); (try clear q1l); (try clear c60); (try clear q1m); (try clear q1n); (try clear c61); (try clear q1o); (try clear q1p); (try clear c62); (try clear p64); (try clear c70); (try clear q0d); (try clear q1s); (try clear c71); (try clear q20); (try clear c85); (try clear c88); (try clear q0h); (try clear c98); (try clear q2z); (try clear c102); (try clear q0m); (try clear q31); (try clear c103); (try clear q32); (try clear q33); (try clear c104); (try clear q34); (try clear q35); (try clear c105); (try clear q36); (try clear q37); (try clear c106); (try clear q38); (try clear q39); (try clear c107); (try clear c115); (try clear q1q); (try clear q42); (try clear q0s q0t q0u); (try clear q0y q0z q10); (try clear q14 q15 q16); (try clear q1a q1b q1c); (try clear q2b q2c q2d); (try clear q2h q2i q2j); (try clear q2n q2o q2p); (try clear q2t q2u q2v); (try clear q0v q0w q0x); (try clear q11 q12 q13); (try clear q17 q18 q19); (try clear q1d q1e q1f); (try clear q2e q2f q2g); (try clear q2k q2l q2m); (try clear q2q q2r q2s); (try clear q2w q2x q2y); (try clear p2); (try clear p6); (try clear p64); obtain ⟨kq, q1t, q06, rfl, rfl, HA, HJ110, HO_319002, q1, HB⟩ := hcut
        cases kq with
        | zero => exact absurd HA.out (by simp [tillerref12_To.j7])
        | succ kj110 =>
         have H := HA.out; clear HA
         simp only [tillerref12_To.j7] at H
         by_cases c116 : q06 ≥ 8388608
         · rw [if_pos c116] at H
           have q4l : decide (8388608 ≤ q06) = true := decide_eq_true c116; clear c116; replace H := Option.bind_eq_some_iff.mp H; obtain ⟨q1w, q43, H⟩ := H; replace H : (some (q1w, q05)) = some (r1, r2) := H; have q4m := Aside0.mk q43; clear q43
           simp only [Option.some.injEq, Prod.mk.injEq] at H
           obtain ⟨rfl, rfl⟩ := H
           go_wp2_with (first | ((with_reducible refine gate_callee (f := 36) rfl ?_); refine goesL_ (some 115) rfl rfl Try.func36 (by kernel_rfl) rfl #[.int .u32 ((((wrap64 (q1t + 150)) % 4294967296) * 8388608 + q06 - 8388608) % 4294967296), .bool (decide (a0 ≥ 9223372036854775808))] rfl (by (try simp only [List.map_toArray, List.map_cons, List.map_nil]); first | done | rfl | (simp only [List.length_drop, List.length_take]; rfl) | (simp [go_sem]; done) | (simp [go_sem, wrap64]; omega)) ?_; (with_reducible refine (tillerref12_signed.calls ((((wrap64 (q1t + 150)) % 4294967296) * 8388608 + q06 - 8388608) % 4294967296) (decide (a0 ≥ 9223372036854775808)) q1w _ q4m.out).mono ?_); rintro e w' ⟨rfl, ⟨nd, rfl⟩⟩; refine ⟨_, rfl, ?_⟩))
           go_ret2
           exact ⟨by first | rfl | (simp [errW_none, errW_some] <;> rfl) | (simp [*, errW_none, errW_some] <;> rfl), kHs HB q9⟩
         rw [if_neg c116] at H
         have q4l : decide (8388608 ≤ q06) = false := decide_eq_false c116; clear c116; replace H := Option.bind_eq_some_iff.mp H; obtain ⟨q1x, q44, H⟩ := H; replace H : (some (q1x, q05)) = some (r1, r2) := H; have q4n := Aside0.mk q44; clear q44
         simp only [Option.some.injEq, Prod.mk.injEq] at H
         obtain ⟨rfl, rfl⟩ := H
         go_wp2_with (first | ((with_reducible refine gate_callee (f := 36) rfl ?_); refine goesL_ (some 119) rfl rfl Try.func36 (by kernel_rfl) rfl #[.int .u32 q06, .bool (decide (a0 ≥ 9223372036854775808))] rfl (by (try simp only [List.map_toArray, List.map_cons, List.map_nil]); first | done | rfl | (simp only [List.length_drop, List.length_take]; rfl) | (simp [go_sem]; done) | (simp [go_sem, wrap64]; omega)) ?_; (with_reducible refine (tillerref12_signed.calls q06 (decide (a0 ≥ 9223372036854775808)) q1x _ q4n.out).mono ?_); rintro e w' ⟨rfl, ⟨nd, rfl⟩⟩; refine ⟨_, rfl, ?_⟩))
         go_ret2
         exact ⟨by first | rfl | (simp [errW_none, errW_some] <;> rfl) | (simp [*, errW_none, errW_some] <;> rfl), kHs HB q9⟩
end Go.Proofs.Ytfnkmedajchbgaa.X
