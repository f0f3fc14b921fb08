-- printed by a turned print of this work's own (wip/mp.sh): Lean checks it
import Derived.Test.YtedjlpfggjcmfaaX0
namespace Go.Proofs.Ytedjlpfggjcmfaa.X
open Go.RowKit Go.Proofs.YtedjlpfggjcmfaaW.PrintWords Go.Proofs.YtedjlpfggjcmfaaW.PrintLast Go.Proofs.YtedjlpfggjcmfaaW.PrintMore
attribute [local go_sem] max2_int min2_int max_two min_two max_three min_three max_four min_four   -- for this text's walks alone
set_option linter.unusedVariables false
set_option linter.unusedSimpArgs false

/-! ### pat_Take: function 14 -/
def pat_Take.f (p : Int) : Option (Bool × Int × Int × Int) := if inU p = true then (some (pM p, pC p, pX p, pS p)) else none
theorem pat_Take.eq  (p : Int) (p0 : inU p = true) : pat_Take.f p = (some (pM p, pC p, pX p, pS p)) := by
 unfold pat_Take.f
 rw [if_pos (p0)]
set_option maxRecDepth 100000 in
theorem pat_Take.calls (p : Int) (r1 : Bool) (r2 : Int) (r3 : Int) (r4 : Int) (w : World) (h : pat_Take.f p = some (r1, r2, r3, r4)) :
 Calls Try.prog 14 #[.int .u64 p] w fun e w' => e = .returned (.agg #[.bool r1, .int .i64 r2, .int .i64 r3, .int .u64 r4]) ∧ Below w.heap.size w w' := by
 unfold pat_Take.f at h
 split at h
 case isFalse => exact absurd h (by simp)
 case isTrue hp =>
  have p0 := hp; clear hp
  simp only [Option.some.injEq, Prod.mk.injEq] at h
  obtain ⟨rfl, rfl, rfl, rfl⟩ := h
  refine Calls.mono (take p (inU_U p0) w) ?_
  rintro e w' ⟨he, hb⟩
  exact ⟨he, hb⟩

/-! ### pat_IsNaN: function 15 -/
def pat_IsNaN.f (p : Int) : Option (Bool) := if inU p = true then (some (decide (3 < pC p))) else none
theorem pat_IsNaN.eq  (p : Int) (p0 : inU p = true) : pat_IsNaN.f p = (some (decide (3 < pC p))) := by
 unfold pat_IsNaN.f
 rw [if_pos (p0)]
set_option maxRecDepth 100000 in
theorem pat_IsNaN.calls (p : Int) (r : Bool) (w : World) (h : pat_IsNaN.f p = some r) :
 Calls Try.prog 15 #[.int .u64 p] w fun e w' => e = .returned (.bool r) ∧ Below w.heap.size w w' := by
 unfold pat_IsNaN.f at h
 split at h
 case isFalse => exact absurd h (by simp)
 case isTrue hp =>
  have p0 := hp; clear hp
  simp only [Option.some.injEq] at h
  subst h
  refine Calls.mono (p_isnan p (inU_U p0) w) ?_
  rintro e w' ⟨he, hb⟩
  exact ⟨he, hb⟩

/-! ### quot_none: function 16 -/
def quot_none.f (a : Int) (b : Int) : Option (Int × Int) := if inU a = true ∧ inU b = true then (some ((qNone a b).1, (qNone a b).2)) else none
theorem quot_none.eq  (a : Int) (b : Int) (p0 : inU a = true) (p1 : inU b = true) : quot_none.f a b = (some ((qNone a b).1, (qNone a b).2)) := by
 unfold quot_none.f
 rw [if_pos ⟨p0, p1⟩]
set_option maxRecDepth 100000 in
theorem quot_none.calls (a : Int) (b : Int) (r1 : Int) (r2 : Int) (w : World) (h : quot_none.f a b = some (r1, r2)) :
 Calls Try.prog 16 #[.int .u64 a, .int .u64 b] w fun e w' => e = .returned (.tuple #[.int .u64 r1, .int .u8 r2]) ∧ Below w.heap.size w w' := by
 unfold quot_none.f at h
 split at h
 case isFalse => exact absurd h (by simp)
 case isTrue hp =>
  obtain ⟨p0, p1⟩ := hp
  skip
  simp only [Option.some.injEq, Prod.mk.injEq] at h
  obtain ⟨rfl, rfl⟩ := h
  refine Calls.mono (q_none a b (inU_U p0) (inU_U p1) w) ?_
  rintro e w' ⟨he, hb⟩
  exact ⟨he, hb⟩

/-! ### wide_DivMod: function 17 -/
def wide_DivMod.f (a0 a1 a2 a3 : Int) (b0 b1 b2 b3 : Int) : Option (Int × Int × Int × Int × Int × Int × Int × Int) := if okW a0 a1 a2 a3 = true ∧ okW b0 b1 b2 b3 = true ∧ (nW b0 b1 b2 b3) ≠ 0 then (some (l0 ((nW a0 a1 a2 a3) / (nW b0 b1 b2 b3)), l1 ((nW a0 a1 a2 a3) / (nW b0 b1 b2 b3)), l2 ((nW a0 a1 a2 a3) / (nW b0 b1 b2 b3)), l3 ((nW a0 a1 a2 a3) / (nW b0 b1 b2 b3)), l0 ((nW a0 a1 a2 a3) % (nW b0 b1 b2 b3)), l1 ((nW a0 a1 a2 a3) % (nW b0 b1 b2 b3)), l2 ((nW a0 a1 a2 a3) % (nW b0 b1 b2 b3)), l3 ((nW a0 a1 a2 a3) % (nW b0 b1 b2 b3)))) else none
theorem wide_DivMod.eq {a : Nat} (ha : a < T256) {b : Nat} (hb : b < T256)   (p0 : b ≠ 0) : wide_DivMod.f (l0 a) (l1 a) (l2 a) (l3 a) (l0 b) (l1 b) (l2 b) (l3 b) = (some (l0 (a / b), l1 (a / b), l2 (a / b), l3 (a / b), l0 (a % b), l1 (a % b), l2 (a % b), l3 (a % b))) := by
 unfold wide_DivMod.f
 rw [nW_l ha, nW_l hb]
 rw [if_pos (⟨okW_l ha, okW_l hb, p0⟩)]
set_option maxRecDepth 100000 in
theorem wide_DivMod.calls (a0 a1 a2 a3 : Int) (b0 b1 b2 b3 : Int) (r1 : Int) (r2 : Int) (r3 : Int) (r4 : Int) (r5 : Int) (r6 : Int) (r7 : Int) (r8 : Int) (w : World) (h : wide_DivMod.f a0 a1 a2 a3 b0 b1 b2 b3 = some (r1, r2, r3, r4, r5, r6, r7, r8)) :
 Calls Try.prog 17 #[.agg #[.int .u64 a0, .int .u64 a1, .int .u64 a2, .int .u64 a3], .agg #[.int .u64 b0, .int .u64 b1, .int .u64 b2, .int .u64 b3]] w fun e w' => e = .returned (.tuple #[.agg #[.int .u64 r1, .int .u64 r2, .int .u64 r3, .int .u64 r4], .agg #[.int .u64 r5, .int .u64 r6, .int .u64 r7, .int .u64 r8], .nilIface]) ∧ Below w.heap.size w w' := by
 unfold wide_DivMod.f at h
 split at h
 case isFalse => exact absurd h (by simp)
 case isTrue hp =>
  obtain ⟨ka, kb, p0⟩ := hp
  skip
  obtain ⟨a, ha, rfl, rfl, rfl, rfl⟩ := okW_ex ka
  simp only [nW_l ha] at h 
  obtain ⟨b, hb, rfl, rfl, rfl, rfl⟩ := okW_ex kb
  simp only [nW_l hb] at h p0
  simp only [Option.some.injEq, Prod.mk.injEq] at h
  obtain ⟨rfl, rfl, rfl, rfl, rfl, rfl, rfl, rfl⟩ := h
  refine Calls.mono (wdivmod a b ha hb p0 w) ?_
  rintro e w' ⟨he, hb⟩
  exact ⟨he, hb⟩

/-! ### wide_Shl: function 18 -/
def wide_Shl.f (a0 a1 a2 a3 : Int) (n : Int) : Option (Int × Int × Int × Int) := if okW a0 a1 a2 a3 = true then (some (l0 ((nW a0 a1 a2 a3) * 2 ^ n.toNat % T256), l1 ((nW a0 a1 a2 a3) * 2 ^ n.toNat % T256), l2 ((nW a0 a1 a2 a3) * 2 ^ n.toNat % T256), l3 ((nW a0 a1 a2 a3) * 2 ^ n.toNat % T256))) else none
theorem wide_Shl.eq {a : Nat} (ha : a < T256)  (n : Int)  : wide_Shl.f (l0 a) (l1 a) (l2 a) (l3 a) n = (some (l0 (a * 2 ^ n.toNat % T256), l1 (a * 2 ^ n.toNat % T256), l2 (a * 2 ^ n.toNat % T256), l3 (a * 2 ^ n.toNat % T256))) := by
 unfold wide_Shl.f
 rw [nW_l ha]
 rw [if_pos (okW_l ha)]
set_option maxRecDepth 100000 in
theorem wide_Shl.calls (a0 a1 a2 a3 : Int) (n : Int) (r1 : Int) (r2 : Int) (r3 : Int) (r4 : Int) (w : World) (h : wide_Shl.f a0 a1 a2 a3 n = some (r1, r2, r3, r4)) :
 Calls Try.prog 18 #[.agg #[.int .u64 a0, .int .u64 a1, .int .u64 a2, .int .u64 a3], .int .i64 n] w fun e w' => e = .returned (.agg #[.int .u64 r1, .int .u64 r2, .int .u64 r3, .int .u64 r4]) ∧ Below w.heap.size w w' := by
 unfold wide_Shl.f at h
 split at h
 case isFalse => exact absurd h (by simp)
 case isTrue hp =>
  have ka := hp; clear hp
  obtain ⟨a, ha, rfl, rfl, rfl, rfl⟩ := okW_ex ka
  simp only [nW_l ha] at h 
  simp only [Option.some.injEq, Prod.mk.injEq] at h
  obtain ⟨rfl, rfl, rfl, rfl⟩ := h
  refine Calls.mono (wshl a ha n w) ?_
  rintro e w' ⟨m, hm, he, hb⟩
  obtain rfl := hm.out; exact ⟨he, hb⟩

/-! ### wide_Of: function 19 -/
def wide_Of.f (n : Int) : Option (Int × Int × Int × Int) := if inU n = true then (some (l0 (n.toNat), l1 (n.toNat), l2 (n.toNat), l3 (n.toNat))) else none
theorem wide_Of.eq  (n : Int) (p0 : inU n = true) : wide_Of.f n = (some (l0 (n.toNat), l1 (n.toNat), l2 (n.toNat), l3 (n.toNat))) := by
 unfold wide_Of.f
 rw [if_pos (p0)]
set_option maxRecDepth 100000 in
theorem wide_Of.calls (n : Int) (r1 : Int) (r2 : Int) (r3 : Int) (r4 : Int) (w : World) (h : wide_Of.f n = some (r1, r2, r3, r4)) :
 Calls Try.prog 19 #[.int .u64 n] w fun e w' => e = .returned (.agg #[.int .u64 r1, .int .u64 r2, .int .u64 r3, .int .u64 r4]) ∧ Below w.heap.size w w' := by
 unfold wide_Of.f at h
 split at h
 case isFalse => exact absurd h (by simp)
 case isTrue hp =>
  have p0 := hp; clear hp
  simp only [Option.some.injEq, Prod.mk.injEq] at h
  obtain ⟨rfl, rfl, rfl, rfl⟩ := h
  refine Calls.mono (wof n (inU_U p0) w) ?_
  rintro e w' ⟨he, hb⟩
  exact ⟨he, hb⟩

/-! ### rnd_Round: function 20 -/
def rnd_Round.f (s_m : Bool) (s_x : Int) (s0 s1 s2 s3 : Int) (s_o : Bool) (m : Int) : Option (Int × Int) := if okW s0 s1 s2 s3 = true ∧ (nW s0 s1 s2 s3) < 2 ^ 254 ∧ -131072 ≤ s_x ∧ s_x ≤ 131072 then (some ((rRound s_m (rX s_o s_x) (rS s_o (nW s0 s1 s2 s3)) m).1, (rRound s_m (rX s_o s_x) (rS s_o (nW s0 s1 s2 s3)) m).2)) else none
theorem rnd_Round.eq {s : Nat} (hs : s < T256) (s_m : Bool) (s_x : Int) (s_o : Bool) (m : Int) (p0 : s < 2 ^ 254) (p1 : -131072 ≤ s_x) (p2 : s_x ≤ 131072) : rnd_Round.f s_m s_x (l0 s) (l1 s) (l2 s) (l3 s) s_o m = (some ((rRound s_m (rX s_o s_x) (rS s_o s) m).1, (rRound s_m (rX s_o s_x) (rS s_o s) m).2)) := by
 unfold rnd_Round.f
 rw [nW_l hs]
 rw [if_pos (⟨okW_l hs, p0, p1, p2⟩)]
set_option maxRecDepth 100000 in
theorem rnd_Round.calls (s_m : Bool) (s_x : Int) (s0 s1 s2 s3 : Int) (s_o : Bool) (m : Int) (r1 : Int) (r2 : Int) (w : World) (h : rnd_Round.f s_m s_x s0 s1 s2 s3 s_o m = some (r1, r2)) :
 Calls Try.prog 20 #[.agg #[.bool s_m, .int .i64 s_x, .int .u64 s0, .int .u64 s1, .int .u64 s2, .int .u64 s3, .bool s_o], .int .i64 m] w fun e w' => e = .returned (.tuple #[.int .u64 r1, .int .u8 r2]) ∧ Below w.heap.size w w' := by
 unfold rnd_Round.f at h
 split at h
 case isFalse => exact absurd h (by simp)
 case isTrue hp =>
  obtain ⟨ks, p0, p1, p2⟩ := hp
  skip
  obtain ⟨s, hs, rfl, rfl, rfl, rfl⟩ := okW_ex ks
  simp only [nW_l hs] at h p0
  simp only [Option.some.injEq, Prod.mk.injEq] at h
  obtain ⟨rfl, rfl⟩ := h
  refine Calls.mono (r_round s_m s_o s_x m s p0 p1 p2 w) ?_
  rintro e w' ⟨he, hb⟩
  exact ⟨he, hb⟩

/-! ### tillerref03_Take: function 21 -/
def tillerref03_Take.f (p : Int) : Option (Bool × Int × Int × Int) := if inU p = true then (some (pM p, pC p, pX p, pS p)) else none
theorem tillerref03_Take.eq  (p : Int) (p0 : inU p = true) : tillerref03_Take.f p = (some (pM p, pC p, pX p, pS p)) := by
 unfold tillerref03_Take.f
 rw [if_pos (p0)]
set_option maxRecDepth 100000 in
theorem tillerref03_Take.calls (p : Int) (r1 : Bool) (r2 : Int) (r3 : Int) (r4 : Int) (w : World) (h : tillerref03_Take.f p = some (r1, r2, r3, r4)) :
 Calls Try.prog 21 #[.int .u64 p] w fun e w' => e = .returned (.agg #[.bool r1, .int .i64 r2, .int .i64 r3, .int .u64 r4]) ∧ Below w.heap.size w w' := by
 unfold tillerref03_Take.f at h
 split at h
 case isFalse => exact absurd h (by simp)
 case isTrue hp =>
  have p0 := hp; clear hp
  simp only [Option.some.injEq, Prod.mk.injEq] at h
  obtain ⟨rfl, rfl, rfl, rfl⟩ := h
  refine Calls.mono (rtake p (inU_U p0) w) ?_
  rintro e w' ⟨he, hb⟩
  exact ⟨he, hb⟩

/-! ### tillerref03_NaN: function 22 -/
def tillerref03_NaN.f (p : Int) : Option (Bool) := if inU p = true then (some (decide (3 < pC p))) else none
theorem tillerref03_NaN.eq  (p : Int) (p0 : inU p = true) : tillerref03_NaN.f p = (some (decide (3 < pC p))) := by
 unfold tillerref03_NaN.f
 rw [if_pos (p0)]
set_option maxRecDepth 100000 in
theorem tillerref03_NaN.calls (p : Int) (r : Bool) (w : World) (h : tillerref03_NaN.f p = some r) :
 Calls Try.prog 22 #[.int .u64 p] w fun e w' => e = .returned (.bool r) ∧ Below w.heap.size w w' := by
 unfold tillerref03_NaN.f at h
 split at h
 case isFalse => exact absurd h (by simp)
 case isTrue hp =>
  have p0 := hp; clear hp
  simp only [Option.some.injEq] at h
  subst h
  refine Calls.mono (r_nan p (inU_U p0) w) ?_
  rintro e w' ⟨he, hb⟩
  exact ⟨he, hb⟩

/-! ### wide_Sqrt: function 30 -/
def wide_Sqrt.f (a0 a1 a2 a3 : Int) : Option (Int × Int × Int × Int × Int × Int × Int × Int) := if okW a0 a1 a2 a3 = true ∧ (nW a0 a1 a2 a3) ≠ 0 then (some (l0 (isq (nW a0 a1 a2 a3)), l1 (isq (nW a0 a1 a2 a3)), l2 (isq (nW a0 a1 a2 a3)), l3 (isq (nW a0 a1 a2 a3)), l0 ((nW a0 a1 a2 a3) - isq (nW a0 a1 a2 a3) * isq (nW a0 a1 a2 a3)), l1 ((nW a0 a1 a2 a3) - isq (nW a0 a1 a2 a3) * isq (nW a0 a1 a2 a3)), l2 ((nW a0 a1 a2 a3) - isq (nW a0 a1 a2 a3) * isq (nW a0 a1 a2 a3)), l3 ((nW a0 a1 a2 a3) - isq (nW a0 a1 a2 a3) * isq (nW a0 a1 a2 a3)))) else none
theorem wide_Sqrt.eq {a : Nat} (ha : a < T256)  (p0 : a ≠ 0) : wide_Sqrt.f (l0 a) (l1 a) (l2 a) (l3 a) = (some (l0 (isq a), l1 (isq a), l2 (isq a), l3 (isq a), l0 (a - isq a * isq a), l1 (a - isq a * isq a), l2 (a - isq a * isq a), l3 (a - isq a * isq a))) := by
 unfold wide_Sqrt.f
 rw [nW_l ha]
 rw [if_pos (⟨okW_l ha, p0⟩)]
set_option maxRecDepth 100000 in
theorem wide_Sqrt.calls (a0 a1 a2 a3 : Int) (r1 : Int) (r2 : Int) (r3 : Int) (r4 : Int) (r5 : Int) (r6 : Int) (r7 : Int) (r8 : Int) (w : World) (h : wide_Sqrt.f a0 a1 a2 a3 = some (r1, r2, r3, r4, r5, r6, r7, r8)) :
 Calls Try.prog 30 #[.agg #[.int .u64 a0, .int .u64 a1, .int .u64 a2, .int .u64 a3]] w fun e w' => e = .returned (.tuple #[.agg #[.int .u64 r1, .int .u64 r2, .int .u64 r3, .int .u64 r4], .agg #[.int .u64 r5, .int .u64 r6, .int .u64 r7, .int .u64 r8]]) ∧ Below w.heap.size w w' := by
 unfold wide_Sqrt.f at h
 split at h
 case isFalse => exact absurd h (by simp)
 case isTrue hp =>
  obtain ⟨ka, p0⟩ := hp
  skip
  obtain ⟨a, ha, rfl, rfl, rfl, rfl⟩ := okW_ex ka
  simp only [nW_l ha] at h p0
  simp only [Option.some.injEq, Prod.mk.injEq] at h
  obtain ⟨rfl, rfl, rfl, rfl, rfl, rfl, rfl, rfl⟩ := h
  refine Calls.mono (wsqrt a ha p0 w) ?_
  rintro e w' ⟨s, r, hd, he, hb⟩
  obtain ⟨h1, h2, h3, h4⟩ := hd.out; obtain rfl := isq_eq ha h1 h2; subst h3; exact ⟨he, hb⟩

/-! ### pat_Class: function 40 -/
def pat_Class.f (p : Int) : Option (Int) := if inU p = true then (some (pC p)) else none
theorem pat_Class.eq  (p : Int) (p0 : inU p = true) : pat_Class.f p = (some (pC p)) := by
 unfold pat_Class.f
 rw [if_pos (p0)]
set_option maxRecDepth 100000 in
theorem pat_Class.calls (p : Int) (r : Int) (w : World) (h : pat_Class.f p = some r) :
 Calls Try.prog 40 #[.int .u64 p] w fun e w' => e = .returned (.int .i64 r) ∧ Below w.heap.size w w' := by
 unfold pat_Class.f at h
 split at h
 case isFalse => exact absurd h (by simp)
 case isTrue hp =>
  have p0 := hp; clear hp
  simp only [Option.some.injEq] at h
  subst h
  refine Calls.mono (p_class p (inU_U p0) w) ?_
  rintro e w' ⟨he, hb⟩
  exact ⟨he, hb⟩

/-! ### pat_Abs: function 39 -/
def pat_Abs.f (p : Int) : Option (Int) := if inU p = true then (some (pA p)) else none
theorem pat_Abs.eq  (p : Int) (p0 : inU p = true) : pat_Abs.f p = (some (pA p)) := by
 unfold pat_Abs.f
 rw [if_pos (p0)]
set_option maxRecDepth 100000 in
theorem pat_Abs.calls (p : Int) (r : Int) (w : World) (h : pat_Abs.f p = some r) :
 Calls Try.prog 39 #[.int .u64 p] w fun e w' => e = .returned (.int .u64 r) ∧ Below w.heap.size w w' := by
 unfold pat_Abs.f at h
 split at h
 case isFalse => exact absurd h (by simp)
 case isTrue hp =>
  have p0 := hp; clear hp
  simp only [Option.some.injEq] at h
  subst h
  refine Calls.mono (p_abs p (inU_U p0) w) ?_
  rintro e w' ⟨he, hb⟩
  exact ⟨he, hb⟩

/-! ### pat_Finite: function 36 -/
def pat_Finite.f (p : Int) : Option (Bool) := if inU p = true then (some (decide (pC p < 3))) else none
theorem pat_Finite.eq  (p : Int) (p0 : inU p = true) : pat_Finite.f p = (some (decide (pC p < 3))) := by
 unfold pat_Finite.f
 rw [if_pos (p0)]
set_option maxRecDepth 100000 in
theorem pat_Finite.calls (p : Int) (r : Bool) (w : World) (h : pat_Finite.f p = some r) :
 Calls Try.prog 36 #[.int .u64 p] w fun e w' => e = .returned (.bool r) ∧ Below w.heap.size w w' := by
 unfold pat_Finite.f at h
 split at h
 case isFalse => exact absurd h (by simp)
 case isTrue hp =>
  have p0 := hp; clear hp
  simp only [Option.some.injEq] at h
  subst h
  refine Calls.mono (p_finite p (inU_U p0) w) ?_
  rintro e w' ⟨he, hb⟩
  exact ⟨he, hb⟩

/-! ### wide_Mul: function 60 -/
def wide_Mul.f (a0 a1 a2 a3 : Int) (b0 b1 b2 b3 : Int) : Option (Int × Int × Int × Int × Int × Int × Int × Int) := if okW a0 a1 a2 a3 = true ∧ okW b0 b1 b2 b3 = true ∧ (nW a0 a1 a2 a3) < 18446744073709551616 ∧ (nW b0 b1 b2 b3) < 18446744073709551616 then (some (l0 ((nW a0 a1 a2 a3) * (nW b0 b1 b2 b3)), l1 ((nW a0 a1 a2 a3) * (nW b0 b1 b2 b3)), l2 ((nW a0 a1 a2 a3) * (nW b0 b1 b2 b3)), l3 ((nW a0 a1 a2 a3) * (nW b0 b1 b2 b3)), l0 (0), l1 (0), l2 (0), l3 (0))) else none
theorem wide_Mul.eq {a : Nat} (ha : a < T256) {b : Nat} (hb : b < T256)   (p0 : a < 18446744073709551616) (p1 : b < 18446744073709551616) : wide_Mul.f (l0 a) (l1 a) (l2 a) (l3 a) (l0 b) (l1 b) (l2 b) (l3 b) = (some (l0 (a * b), l1 (a * b), l2 (a * b), l3 (a * b), l0 (0), l1 (0), l2 (0), l3 (0))) := by
 unfold wide_Mul.f
 rw [nW_l ha, nW_l hb]
 rw [if_pos (⟨okW_l ha, okW_l hb, p0, p1⟩)]
set_option maxRecDepth 100000 in
theorem wide_Mul.calls (a0 a1 a2 a3 : Int) (b0 b1 b2 b3 : Int) (r1 : Int) (r2 : Int) (r3 : Int) (r4 : Int) (r5 : Int) (r6 : Int) (r7 : Int) (r8 : Int) (w : World) (h : wide_Mul.f a0 a1 a2 a3 b0 b1 b2 b3 = some (r1, r2, r3, r4, r5, r6, r7, r8)) :
 Calls Try.prog 60 #[.agg #[.int .u64 a0, .int .u64 a1, .int .u64 a2, .int .u64 a3], .agg #[.int .u64 b0, .int .u64 b1, .int .u64 b2, .int .u64 b3]] w fun e w' => e = .returned (.tuple #[.agg #[.int .u64 r1, .int .u64 r2, .int .u64 r3, .int .u64 r4], .agg #[.int .u64 r5, .int .u64 r6, .int .u64 r7, .int .u64 r8]]) ∧ Below w.heap.size w w' := by
 unfold wide_Mul.f at h
 split at h
 case isFalse => exact absurd h (by simp)
 case isTrue hp =>
  obtain ⟨ka, kb, p0, p1⟩ := hp
  skip
  obtain ⟨a, ha, rfl, rfl, rfl, rfl⟩ := okW_ex ka
  simp only [nW_l ha] at h p0
  obtain ⟨b, hb, rfl, rfl, rfl, rfl⟩ := okW_ex kb
  simp only [nW_l hb] at h p1
  simp only [Option.some.injEq, Prod.mk.injEq] at h
  obtain ⟨rfl, rfl, rfl, rfl, rfl, rfl, rfl, rfl⟩ := h
  refine Calls.mono (wmul a b p0 p1 w) ?_
  rintro e w' ⟨he, hb⟩
  exact ⟨he, hb⟩

end Go.Proofs.Ytedjlpfggjcmfaa.X
