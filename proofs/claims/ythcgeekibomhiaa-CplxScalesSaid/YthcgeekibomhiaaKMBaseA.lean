import Derived.Below
import Derived.WalkKit
import Derived.Test.YthcgeekibomhiaaProg
import Derived.WalkSpells
import Derived.WalkLawsBesides
import Derived.LoopN
import Derived.Deep.QuietTactic
import Derived.BigQuiet
import Derived.Laws.Externs
import Derived.Lib.Hide
import Derived.BigRegion
import Derived.Shelf.Spec.BitsCarry
import Derived.Lib.Tables
import Derived.Laws.MathBits
import Derived.Laws.Bits64
import Derived.Laws.Bits64b
import Derived.Deep.RegionHeld3
import Derived.Deep.DeepCutAuto
import Derived.Lib.Mul64
namespace Go.Proofs.Ythcgeekibomhiaa
set_option linter.unusedVariables false
set_option linter.unusedSimpArgs false
open Go.RowKit
structure Hd (p : Prop) : Prop where mk :: (out : p)
def U (a : Int) : Prop := 0 ≤ a ∧ a ≤ 18446744073709551615
def T256 : Nat := 115792089237316195423570985008687907853269984665640564039457584007913129639936
def l0 (n : Nat) : Int := ((n % 18446744073709551616 : Nat) : Int)
def l1 (n : Nat) : Int := ((n / 18446744073709551616 % 18446744073709551616 : Nat) : Int)
def l2 (n : Nat) : Int := ((n / 340282366920938463463374607431768211456 % 18446744073709551616 : Nat) : Int)
def l3 (n : Nat) : Int := ((n / 6277101735386680763835789423207666416102355444464034512896 % 18446744073709551616 : Nat) : Int)
theorem U0 (n : Nat) : U (l0 n) := by unfold U l0; omega
theorem U1 (n : Nat) : U (l1 n) := by unfold U l1; omega
theorem U2 (n : Nat) : U (l2 n) := by unfold U l2; omega
theorem U3 (n : Nat) : U (l3 n) := by unfold U l3; omega
theorem lsum {n : Nat} (h : n < T256) : l0 n + l1 n * 18446744073709551616 + l2 n * 340282366920938463463374607431768211456 + l3 n * 6277101735386680763835789423207666416102355444464034512896 = (n : Int) := by
  unfold T256 at h; unfold l0 l1 l2 l3
  omega
theorem lof {s0 s1 s2 s3 : Int} {n : Nat} (h0 : U s0) (h1 : U s1) (h2 : U s2) (h3 : U s3)
    (h : s0 + s1 * 18446744073709551616 + s2 * 340282366920938463463374607431768211456 + s3 * 6277101735386680763835789423207666416102355444464034512896 = (n : Int)) :
    s0 = l0 n ∧ s1 = l1 n ∧ s2 = l2 n ∧ s3 = l3 n := by
  unfold U at h0 h1 h2 h3; unfold l0 l1 l2 l3
  omega
theorem l_nil : l0 0 = 0 ∧ l1 0 = 0 ∧ l2 0 = 0 ∧ l3 0 = 0 := by decide
theorem l_small {n : Nat} (h : n < 18446744073709551616) : l0 n = (n : Int) ∧ l1 n = 0 ∧ l2 n = 0 ∧ l3 n = 0 := by
  unfold l0 l1 l2 l3; omega
theorem l_eq_zero {n : Nat} (h : n < T256) : (l0 n = 0 ∧ l1 n = 0 ∧ l2 n = 0 ∧ l3 n = 0) ↔ n = 0 := by
  have := lsum h
  constructor
  · rintro ⟨h0, h1, h2, h3⟩; rw [h0, h1, h2, h3] at this; omega
  · rintro rfl; exact l_nil
theorem l_inj {m n : Nat} (hm : m < T256) (hn : n < T256) : (l0 m = l0 n ∧ l1 m = l1 n ∧ l2 m = l2 n ∧ l3 m = l3 n) ↔ m = n := by
  constructor
  · rintro ⟨h0, h1, h2, h3⟩
    have a := lsum hm; have b := lsum hn
    rw [h0, h1, h2, h3] at a
    omega
  · rintro rfl; exact ⟨rfl, rfl, rfl, rfl⟩
def blen (n : Nat) : Nat := if n = 0 then 0 else Nat.log2 n + 1
theorem blen_zero : blen 0 = 0 := rfl
theorem blen_lt (n : Nat) : n < 2 ^ blen n := by
  unfold blen
  split
  · subst n; decide
  · exact Nat.lt_log2_self
theorem blen_le {n : Nat} (h : n ≠ 0) : 2 ^ (blen n - 1) ≤ n := by
  unfold blen
  rw [if_neg h]; exact Nat.log2_self_le h
theorem blen_pos {n : Nat} (h : n ≠ 0) : 0 < blen n := by unfold blen; rw [if_neg h]; omega
theorem blen_le_iff {n k : Nat} : blen n ≤ k ↔ n < 2 ^ k := by
  constructor
  · intro h; exact Nat.lt_of_lt_of_le (blen_lt n) (Nat.pow_le_pow_right (by omega) h)
  · intro h
    by_cases h0 : n = 0
    · subst h0; rw [blen_zero]; omega
    · have := blen_le h0
      have hp := blen_pos h0
      have : 2 ^ (blen n - 1) < 2 ^ k := by omega
      have := (Nat.pow_lt_pow_iff_right (by omega : 1 < 2)).1 this
      omega
theorem blen_eq {n k : Nat} (h1 : 2 ^ k ≤ n) (h2 : n < 2 ^ (k + 1)) : blen n = k + 1 := by
  have a := blen_le_iff.2 h2
  have : ¬ blen n ≤ k := by rw [blen_le_iff]; omega
  omega
theorem T256_eq : T256 = 2 ^ 256 := rfl
end Go.Proofs.Ythcgeekibomhiaa
namespace Go.Proofs.Ythcgeekibomhiaa
set_option linter.unusedVariables false
set_option linter.unusedSimpArgs false
open Go.RowKit
theorem bal {w W : World} (h : Below w.heap.size w W) (o : Obj) : Below w.heap.size w (W.alloc o) := h.alloc h.size o
theorem bdr {B : Nat} {w W : World} (h : Below B w W) : Below B w W.drew := h.drew
theorem bdrN {B : Nat} {w W : World} (h : Below B w W) (n : Nat) : Below B w (W.drewN n) := ⟨h.os, h.tape, h.output, h.size, h.block⟩
theorem bset {w W : World} {g j : Nat} {v : Value} (h : Below w.heap.size w W) (hg : w.heap.size ≤ g) : Below w.heap.size w (W.setCell ⟨g, j, none⟩ v) := h.setCell hg _
theorem bthen {w W w2 : World} (h : Below w.heap.size w W) (k : Below W.heap.size W w2) : Below w.heap.size w w2 := h.trans (k.mono h.size)
theorem bcell {W w1 : World} (hb : Below W.heap.size W w1) : (∀ b o, b < W.heap.size → w1.cell? ⟨b, o, none⟩ = W.cell? ⟨b, o, none⟩) ∧ (∀ b o, b < W.heap.size → w1.frozen? ⟨b, o, none⟩ = W.frozen? ⟨b, o, none⟩) :=
  ⟨fun b o h => hb.cell (p := ⟨b, o, none⟩) h, fun b o h => hb.frozen (p := ⟨b, o, none⟩) h⟩
theorem wof (n : Int) (hn : U n) (w : World) : Calls Try.prog 66 #[.int .u64 n] w fun e w' => e = .returned (.agg #[.int .u64 (l0 (n.toNat)), .int .u64 (l1 (n.toNat)), .int .u64 (l2 (n.toNat)), .int .u64 (l3 (n.toNat))]) ∧ Below w.heap.size w w' := by
  obtain ⟨e0, e1, e2, e3⟩ := l_small (n := n.toNat) (by unfold U at hn; omega)
  have en : ((n.toNat : Nat) : Int) = n := by unfold U at hn; omega
  rw [e0, e1, e2, e3, en]; clear e0 e1 e2 e3 en
  go_enter Try.func66, Try.ntmps66
  go_wp2
  exact bodyPost_ret (v := .agg #[.int .u64 n, .int .u64 0, .int .u64 0, .int .u64 0]) (by simp [results, Try.results66, go_sem]) rfl ⟨rfl, bal (Below.refl _ _) _⟩
theorem adc (x y c : Int) (hx : U x) (hy : U y) (hc : 0 ≤ c) (hc1 : c ≤ 1) : ∃ s c' : Int, U s ∧ 0 ≤ c' ∧ c' ≤ 1 ∧ s + c' * 18446744073709551616 = x + y + c ∧ ∀ w,
    (callFunc 105 #[.int .u64 x, .int .u64 y, .int .u64 c]).run Try.prog w =
      .ok (.value (.tuple #[.int .u64 s, .int .u64 c'])) w := by
  unfold U at hx hy
  refine ⟨(x + y + c) % 18446744073709551616, (x + y + c) / 18446744073709551616, by unfold U; omega, by omega, by omega, by omega, fun w => ?_⟩; rw [run_callFunc_extern Try.func105 (by kernel_rfl) (by kernel_rfl) (by kernel_rfl) (e := add64Entry) (by kernel_rfl), run_add64 x y c (by omega) (by omega) (by omega) (by omega)]
  simp only [Result.andThen]
theorem sbb (x y c : Int) (hx : U x) (hy : U y) (hc : 0 ≤ c) (hc1 : c ≤ 1) : ∃ s c' : Int, U s ∧ 0 ≤ c' ∧ c' ≤ 1 ∧ s = x - y - c + c' * 18446744073709551616 ∧ ∀ w,
    (callFunc 109 #[.int .u64 x, .int .u64 y, .int .u64 c]).run Try.prog w =
      .ok (.value (.tuple #[.int .u64 s, .int .u64 c'])) w := by
  unfold U at hx hy
  obtain ⟨x, rfl⟩ := Int.eq_ofNat_of_zero_le hx.1; obtain ⟨y, rfl⟩ := Int.eq_ofNat_of_zero_le hy.1; obtain ⟨c, rfl⟩ := Int.eq_ofNat_of_zero_le hc; refine ⟨(((x + 18446744073709551616 - y - c) % 18446744073709551616 : Nat) : Int), ((if x < y + c then 1 else 0 : Nat) : Int), ?_, ?_, ?_, ?_, fun w => ?_⟩
  case refine_5 =>
    rw [run_callFunc_extern Try.func109 (by kernel_rfl) (by kernel_rfl) (by kernel_rfl) (e := sub64Entry) (by kernel_rfl), run_sub64 x y c (by omega)]
    simp only [Result.andThen]
  · unfold U; omega
  · omega
  · split <;> omega
  · split <;> omega
set_option maxHeartbeats 400000 in
theorem wadd_walk (a0 a1 a2 a3 b0 b1 b2 b3 s0 s1 s2 s3 c1 c2 c3 c4 : Int) (w : World)
   (h0 : ∀ w, (callFunc 105 #[.int .u64 a0, .int .u64 b0, .int .u64 0]).run Try.prog w = .ok (.value (.tuple #[.int .u64 s0, .int .u64 c1])) w)
   (h1 : ∀ w, (callFunc 105 #[.int .u64 a1, .int .u64 b1, .int .u64 c1]).run Try.prog w = .ok (.value (.tuple #[.int .u64 s1, .int .u64 c2])) w)
   (h2 : ∀ w, (callFunc 105 #[.int .u64 a2, .int .u64 b2, .int .u64 c2]).run Try.prog w = .ok (.value (.tuple #[.int .u64 s2, .int .u64 c3])) w)
   (h3 : ∀ w, (callFunc 105 #[.int .u64 a3, .int .u64 b3, .int .u64 c3]).run Try.prog w = .ok (.value (.tuple #[.int .u64 s3, .int .u64 c4])) w) :
    Calls Try.prog 100 #[.agg #[.int .u64 a0, .int .u64 a1, .int .u64 a2, .int .u64 a3], .agg #[.int .u64 b0, .int .u64 b1, .int .u64 b2, .int .u64 b3]] w fun e w' =>
      e = .returned (.tuple #[.agg #[.int .u64 s0, .int .u64 s1, .int .u64 s2, .int .u64 s3], .bool (c4 != 0)]) ∧ Below w.heap.size w w' := by
  go_enter Try.func100, Try.ntmps100
  go_wp2
  refine wp_loop_rounds 5 ?_
  rw [rounds_succ]; go_wp2; go_region; go_wp2
  rw [rounds_succ]; go_wp2; go_region; go_wp2
  rw [rounds_succ]; go_wp2; go_region; go_wp2
  rw [rounds_succ]; go_wp2; go_region; go_wp2
  rw [rounds_succ]; go_wp2
  exact bodyPost_ret (v := .tuple #[.agg #[.int .u64 s0, .int .u64 s1, .int .u64 s2, .int .u64 s3], .bool (c4 != 0)]) (by simp [results, Try.results100, go_sem]) rfl ⟨rfl, by repeat (first | exact Below.refl _ _ | apply bdr | apply bal)⟩
set_option maxHeartbeats 400000 in
theorem wsub_walk (a0 a1 a2 a3 b0 b1 b2 b3 s0 s1 s2 s3 c1 c2 c3 c4 : Int) (w : World)
   (h0 : ∀ w, (callFunc 109 #[.int .u64 a0, .int .u64 b0, .int .u64 0]).run Try.prog w = .ok (.value (.tuple #[.int .u64 s0, .int .u64 c1])) w)
   (h1 : ∀ w, (callFunc 109 #[.int .u64 a1, .int .u64 b1, .int .u64 c1]).run Try.prog w = .ok (.value (.tuple #[.int .u64 s1, .int .u64 c2])) w)
   (h2 : ∀ w, (callFunc 109 #[.int .u64 a2, .int .u64 b2, .int .u64 c2]).run Try.prog w = .ok (.value (.tuple #[.int .u64 s2, .int .u64 c3])) w)
   (h3 : ∀ w, (callFunc 109 #[.int .u64 a3, .int .u64 b3, .int .u64 c3]).run Try.prog w = .ok (.value (.tuple #[.int .u64 s3, .int .u64 c4])) w) :
    Calls Try.prog 96 #[.agg #[.int .u64 a0, .int .u64 a1, .int .u64 a2, .int .u64 a3], .agg #[.int .u64 b0, .int .u64 b1, .int .u64 b2, .int .u64 b3]] w fun e w' =>
      e = .returned (.tuple #[.agg #[.int .u64 s0, .int .u64 s1, .int .u64 s2, .int .u64 s3], .bool (c4 != 0)]) ∧ Below w.heap.size w w' := by
  go_enter Try.func96, Try.ntmps96
  go_wp2
  refine wp_loop_rounds 5 ?_
  rw [rounds_succ]; go_wp2; go_region; go_wp2
  rw [rounds_succ]; go_wp2; go_region; go_wp2
  rw [rounds_succ]; go_wp2; go_region; go_wp2
  rw [rounds_succ]; go_wp2; go_region; go_wp2
  rw [rounds_succ]; go_wp2
  exact bodyPost_ret (v := .tuple #[.agg #[.int .u64 s0, .int .u64 s1, .int .u64 s2, .int .u64 s3], .bool (c4 != 0)]) (by simp [results, Try.results96, go_sem]) rfl ⟨rfl, by repeat (first | exact Below.refl _ _ | apply bdr | apply bal)⟩
theorem wadd (a b : Nat) (ha : a < T256) (hb : b < T256) (w : World) : Calls Try.prog 100 #[.agg #[.int .u64 (l0 a), .int .u64 (l1 a), .int .u64 (l2 a), .int .u64 (l3 a)], .agg #[.int .u64 (l0 b), .int .u64 (l1 b), .int .u64 (l2 b), .int .u64 (l3 b)]] w fun e w' =>
    ∃ n : Nat, ∃ o : Bool, Hd (n = (a + b) % T256 ∧ o = decide (T256 ≤ a + b)) ∧ e = .returned (.tuple #[.agg #[.int .u64 (l0 n), .int .u64 (l1 n), .int .u64 (l2 n), .int .u64 (l3 n)], .bool o]) ∧ Below w.heap.size w w' := by
  have ea := lsum ha; have eb := lsum hb; have A0 := U0 a; have A1 := U1 a; have A2 := U2 a; have A3 := U3 a; have B0 := U0 b; have B1 := U1 b; have B2 := U2 b; have B3 := U3 b
  generalize l0 a = a0 at *; generalize l1 a = a1 at *; generalize l2 a = a2 at *; generalize l3 a = a3 at *
  generalize l0 b = b0 at *; generalize l1 b = b1 at *; generalize l2 b = b2 at *; generalize l3 b = b3 at *
  obtain ⟨s0, c1, S0, _, _, E0, R0⟩ := adc a0 b0 0 A0 B0 (by omega) (by omega); obtain ⟨s1, c2, S1, _, _, E1, R1⟩ := adc a1 b1 c1 A1 B1 (by omega) (by omega); obtain ⟨s2, c3, S2, _, _, E2, R2⟩ := adc a2 b2 c2 A2 B2 (by omega) (by omega); obtain ⟨s3, c4, S3, _, _, E3, R3⟩ := adc a3 b3 c3 A3 B3 (by omega) (by omega)
  have hs : s0 + s1 * 18446744073709551616 + s2 * 340282366920938463463374607431768211456 + s3 * 6277101735386680763835789423207666416102355444464034512896 = (((a + b) % T256 : Nat) : Int) ∧ (c4 != 0) = decide (T256 ≤ a + b) := by
    have hc : c4 = 0 ∨ c4 = 1 := by omega
    unfold U at S0 S1 S2 S3; unfold T256
    rcases hc with rfl | rfl
    · constructor
      · omega
      · rw [decide_eq_false (by omega)]; rfl
    · constructor
      · omega
      · rw [decide_eq_true (by omega)]; rfl
  obtain ⟨f0, f1, f2, f3⟩ := lof S0 S1 S2 S3 hs.1; refine (wadd_walk _ _ _ _ _ _ _ _ _ _ _ _ _ _ _ _ w R0 R1 R2 R3).mono ?_; rintro e w' ⟨rfl, hw⟩; refine ⟨_, _, ⟨rfl, rfl⟩, ?_, hw⟩; rw [f0, f1, f2, f3, hs.2]
theorem wsub (a b : Nat) (ha : a < T256) (hb : b < T256) (w : World) : Calls Try.prog 96 #[.agg #[.int .u64 (l0 a), .int .u64 (l1 a), .int .u64 (l2 a), .int .u64 (l3 a)], .agg #[.int .u64 (l0 b), .int .u64 (l1 b), .int .u64 (l2 b), .int .u64 (l3 b)]] w fun e w' =>
    ∃ n : Nat, ∃ o : Bool, Hd (n = (a + T256 - b) % T256 ∧ o = decide (a < b)) ∧ e = .returned (.tuple #[.agg #[.int .u64 (l0 n), .int .u64 (l1 n), .int .u64 (l2 n), .int .u64 (l3 n)], .bool o]) ∧ Below w.heap.size w w' := by
  have ea := lsum ha; have eb := lsum hb; have A0 := U0 a; have A1 := U1 a; have A2 := U2 a; have A3 := U3 a; have B0 := U0 b; have B1 := U1 b; have B2 := U2 b; have B3 := U3 b
  generalize l0 a = a0 at *; generalize l1 a = a1 at *; generalize l2 a = a2 at *; generalize l3 a = a3 at *
  generalize l0 b = b0 at *; generalize l1 b = b1 at *; generalize l2 b = b2 at *; generalize l3 b = b3 at *
  obtain ⟨s0, c1, S0, _, _, E0, R0⟩ := sbb a0 b0 0 A0 B0 (by omega) (by omega); obtain ⟨s1, c2, S1, _, _, E1, R1⟩ := sbb a1 b1 c1 A1 B1 (by omega) (by omega); obtain ⟨s2, c3, S2, _, _, E2, R2⟩ := sbb a2 b2 c2 A2 B2 (by omega) (by omega); obtain ⟨s3, c4, S3, _, _, E3, R3⟩ := sbb a3 b3 c3 A3 B3 (by omega) (by omega)
  have hs : s0 + s1 * 18446744073709551616 + s2 * 340282366920938463463374607431768211456 + s3 * 6277101735386680763835789423207666416102355444464034512896 = (((a + T256 - b) % T256 : Nat) : Int) ∧ (c4 != 0) = decide (a < b) := by
    have hc : c4 = 0 ∨ c4 = 1 := by omega
    unfold U at S0 S1 S2 S3; unfold T256 at *
    rcases hc with rfl | rfl
    · constructor
      · omega
      · rw [decide_eq_false (by omega)]; rfl
    · constructor
      · omega
      · rw [decide_eq_true (by omega)]; rfl
  obtain ⟨f0, f1, f2, f3⟩ := lof S0 S1 S2 S3 hs.1; refine (wsub_walk _ _ _ _ _ _ _ _ _ _ _ _ _ _ _ _ w R0 R1 R2 R3).mono ?_; rintro e w' ⟨rfl, hw⟩; refine ⟨_, _, ⟨rfl, rfl⟩, ?_, hw⟩; rw [f0, f1, f2, f3, hs.2]
end Go.Proofs.Ythcgeekibomhiaa
namespace Go.Proofs.Ythcgeekibomhiaa
set_option linter.unusedVariables false
set_option linter.unusedSimpArgs false
open Go.RowKit
def cmpI (a b : Nat) : Int := if a < b then -1 else if b < a then 1 else 0
set_option maxHeartbeats 800000 in
theorem wcmp_walk (a0 a1 a2 a3 b0 b1 b2 b3 : Int) (r : Int) (w : World)
    (h : (a3 < b3 ∧ r = -1) ∨ (b3 < a3 ∧ r = 1) ∨ (a3 = b3 ∧ ((a2 < b2 ∧ r = -1) ∨ (b2 < a2 ∧ r = 1) ∨ (a2 = b2 ∧ ((a1 < b1 ∧ r = -1) ∨ (b1 < a1 ∧ r = 1) ∨ (a1 = b1 ∧ ((a0 < b0 ∧ r = -1) ∨ (b0 < a0 ∧ r = 1) ∨ (a0 = b0 ∧ r = 0)))))))) :
    Calls Try.prog 108 #[.agg #[.int .u64 a0, .int .u64 a1, .int .u64 a2, .int .u64 a3], .agg #[.int .u64 b0, .int .u64 b1, .int .u64 b2, .int .u64 b3]] w fun e w' =>
      e = .returned (.int .i64 r) ∧ Below w.heap.size w w' := by
  rcases h with ⟨h, rfl⟩ | ⟨h, rfl⟩ | ⟨rfl, ⟨h, rfl⟩ | ⟨h, rfl⟩ | ⟨rfl, ⟨h, rfl⟩ | ⟨h, rfl⟩ | ⟨rfl, ⟨h, rfl⟩ | ⟨h, rfl⟩ | ⟨rfl, rfl⟩⟩⟩⟩
  · go_enter Try.func108, Try.ntmps108
    go_wp2
    refine wp_loop_rounds 5 ?_
    rw [rounds_succ]; go_wp2; go_quiet (fail); go_wp2
    go_ret
    exact ⟨rfl, by repeat (first | exact Below.refl _ _ | apply bdrN | apply bdr | apply bal)⟩
  · have h' : ¬ a3 < b3 := by omega
    go_enter Try.func108, Try.ntmps108
    go_wp2
    refine wp_loop_rounds 5 ?_
    rw [rounds_succ]; go_wp2; go_quiet (fail); go_wp2; go_quiet (fail); go_wp2
    go_ret
    exact ⟨rfl, by repeat (first | exact Below.refl _ _ | apply bdrN | apply bdr | apply bal)⟩
  · go_enter Try.func108, Try.ntmps108
    go_wp2
    refine wp_loop_rounds 5 ?_
    rw [rounds_succ]; go_wp2; go_quiet (fail); go_wp2; go_quiet (fail); go_wp2
    rw [rounds_succ]; go_wp2; go_quiet (fail); go_wp2
    go_ret
    exact ⟨rfl, by repeat (first | exact Below.refl _ _ | apply bdrN | apply bdr | apply bal)⟩
  · have h' : ¬ a2 < b2 := by omega
    go_enter Try.func108, Try.ntmps108
    go_wp2
    refine wp_loop_rounds 5 ?_
    rw [rounds_succ]; go_wp2; go_quiet (fail); go_wp2; go_quiet (fail); go_wp2
    rw [rounds_succ]; go_wp2; go_quiet (fail); go_wp2; go_quiet (fail); go_wp2
    go_ret
    exact ⟨rfl, by repeat (first | exact Below.refl _ _ | apply bdrN | apply bdr | apply bal)⟩
  · go_enter Try.func108, Try.ntmps108
    go_wp2
    refine wp_loop_rounds 5 ?_
    rw [rounds_succ]; go_wp2; go_quiet (fail); go_wp2; go_quiet (fail); go_wp2
    rw [rounds_succ]; go_wp2; go_quiet (fail); go_wp2; go_quiet (fail); go_wp2
    rw [rounds_succ]; go_wp2; go_quiet (fail); go_wp2
    go_ret
    exact ⟨rfl, by repeat (first | exact Below.refl _ _ | apply bdrN | apply bdr | apply bal)⟩
  · have h' : ¬ a1 < b1 := by omega
    go_enter Try.func108, Try.ntmps108
    go_wp2
    refine wp_loop_rounds 5 ?_
    rw [rounds_succ]; go_wp2; go_quiet (fail); go_wp2; go_quiet (fail); go_wp2
    rw [rounds_succ]; go_wp2; go_quiet (fail); go_wp2; go_quiet (fail); go_wp2
    rw [rounds_succ]; go_wp2; go_quiet (fail); go_wp2; go_quiet (fail); go_wp2
    go_ret
    exact ⟨rfl, by repeat (first | exact Below.refl _ _ | apply bdrN | apply bdr | apply bal)⟩
  · go_enter Try.func108, Try.ntmps108
    go_wp2
    refine wp_loop_rounds 5 ?_
    rw [rounds_succ]; go_wp2; go_quiet (fail); go_wp2; go_quiet (fail); go_wp2
    rw [rounds_succ]; go_wp2; go_quiet (fail); go_wp2; go_quiet (fail); go_wp2
    rw [rounds_succ]; go_wp2; go_quiet (fail); go_wp2; go_quiet (fail); go_wp2
    rw [rounds_succ]; go_wp2; go_quiet (fail); go_wp2
    go_ret
    exact ⟨rfl, by repeat (first | exact Below.refl _ _ | apply bdrN | apply bdr | apply bal)⟩
  · have h' : ¬ a0 < b0 := by omega
    go_enter Try.func108, Try.ntmps108
    go_wp2
    refine wp_loop_rounds 5 ?_
    rw [rounds_succ]; go_wp2; go_quiet (fail); go_wp2; go_quiet (fail); go_wp2
    rw [rounds_succ]; go_wp2; go_quiet (fail); go_wp2; go_quiet (fail); go_wp2
    rw [rounds_succ]; go_wp2; go_quiet (fail); go_wp2; go_quiet (fail); go_wp2
    rw [rounds_succ]; go_wp2; go_quiet (fail); go_wp2; go_quiet (fail); go_wp2
    go_ret
    exact ⟨rfl, by repeat (first | exact Below.refl _ _ | apply bdrN | apply bdr | apply bal)⟩
  · go_enter Try.func108, Try.ntmps108
    go_wp2
    refine wp_loop_rounds 5 ?_
    rw [rounds_succ]; go_wp2; go_quiet (fail); go_wp2; go_quiet (fail); go_wp2
    rw [rounds_succ]; go_wp2; go_quiet (fail); go_wp2; go_quiet (fail); go_wp2
    rw [rounds_succ]; go_wp2; go_quiet (fail); go_wp2; go_quiet (fail); go_wp2
    rw [rounds_succ]; go_wp2; go_quiet (fail); go_wp2; go_quiet (fail); go_wp2
    rw [rounds_succ]; go_wp2
    go_ret
    exact ⟨rfl, by repeat (first | exact Below.refl _ _ | apply bdrN | apply bdr | apply bal)⟩
theorem wcmp (a b : Nat) (ha : a < T256) (hb : b < T256) (w : World) : Calls Try.prog 108 #[.agg #[.int .u64 (l0 a), .int .u64 (l1 a), .int .u64 (l2 a), .int .u64 (l3 a)], .agg #[.int .u64 (l0 b), .int .u64 (l1 b), .int .u64 (l2 b), .int .u64 (l3 b)]] w fun e w' =>
    e = .returned (.int .i64 (cmpI a b)) ∧ Below w.heap.size w w' := by
  have ea := lsum ha; have eb := lsum hb; have A0 := U0 a; have A1 := U1 a; have A2 := U2 a; have A3 := U3 a; have B0 := U0 b; have B1 := U1 b; have B2 := U2 b; have B3 := U3 b; apply wcmp_walk
  unfold U at *
  unfold cmpI
  split
  · omega
  · split <;> omega
end Go.Proofs.Ythcgeekibomhiaa
namespace Go.Proofs.Ythcgeekibomhiaa
set_option linter.unusedVariables false
set_option linter.unusedSimpArgs false
open Go.RowKit
theorem len8_blen (i : Int) (h0 : 0 ≤ i) (h1 : i ≤ 255) : Lib.len8 i = (blen i.toNat : Int) := by
  obtain ⟨n, rfl⟩ := Int.eq_ofNat_of_zero_le h0
  have hn : n < 256 := by omega
  have all : ∀ j : Fin 256, Lib.len8 ((j.val : Nat) : Int) = (blen j.val : Int) := by decide +kernel
  exact all ⟨n, hn⟩
theorem blen_shift (x b : Nat) (h : x / 2 ^ b ≠ 0) : blen x = b + blen (x / 2 ^ b) := bitLen_shift x b h
theorem blen_le8 (i : Nat) (h : i < 256) : blen i ≤ 8 := bitLen_le8 i h
set_option maxHeartbeats 800000 in
set_option maxRecDepth 1000000 in
theorem len64_111 (x : Int) (hx0 : 0 ≤ x) (hx1 : x ≤ 18446744073709551615) (c1 : 4294967296 ≤ x) (c2 : 65536 ≤ x / 4294967296) (c3 : 256 ≤ x / 4294967296 / 65536) (w : World) : Calls Try.prog 101 #[.int .u64 x] w fun e w' =>
    e = .returned (.int .i64 (56 + (blen (x / 4294967296 / 65536 / 256).toNat : Int))) ∧ Below w.heap.size w w' := by
  have i0 : 0 ≤ x / 4294967296 / 65536 / 256 := by omega
  have i1 : x / 4294967296 / 65536 / 256 ≤ 255 := by omega
  have hl := len8_blen (x / 4294967296 / 65536 / 256) i0 i1; have hb := blen_le8 (x / 4294967296 / 65536 / 256).toNat (by omega)
  have hw : wrap64 (wrap64 (Lib.len8 (x / 4294967296 / 65536 / 256))) = (blen (x / 4294967296 / 65536 / 256).toNat : Int) ∧ wrap64 (56 + wrap64 (Lib.len8 (x / 4294967296 / 65536 / 256))) = 56 + (blen (x / 4294967296 / 65536 / 256).toNat : Int) := by
    rw [hl]; unfold wrap64; omega
  have HW := Hd.mk hw; clear hl hb hw
  go_enter Try.func101, Try.ntmps101
  go_wp2
  go_ret
  refine ⟨?_, by repeat (first | exact Below.refl _ _ | apply bdrN | apply bdr | apply bal)⟩
  first | (rw [← HW.out.2]; done) | (rw [← HW.out.2]; rfl) | (rw [Int.zero_add, ← HW.out.1]; unfold wrap64; congr 2; omega) | (rw [Int.zero_add, ← HW.out.1]; rfl)
set_option maxHeartbeats 800000 in
set_option maxRecDepth 1000000 in
theorem len64_110 (x : Int) (hx0 : 0 ≤ x) (hx1 : x ≤ 18446744073709551615) (c1 : 4294967296 ≤ x) (c2 : 65536 ≤ x / 4294967296) (c3 : x / 4294967296 / 65536 < 256) (w : World) : Calls Try.prog 101 #[.int .u64 x] w fun e w' =>
    e = .returned (.int .i64 (48 + (blen (x / 4294967296 / 65536).toNat : Int))) ∧ Below w.heap.size w w' := by
  have i0 : 0 ≤ x / 4294967296 / 65536 := by omega
  have i1 : x / 4294967296 / 65536 ≤ 255 := by omega
  have hl := len8_blen (x / 4294967296 / 65536) i0 i1; have hb := blen_le8 (x / 4294967296 / 65536).toNat (by omega)
  have hw : wrap64 (wrap64 (Lib.len8 (x / 4294967296 / 65536))) = (blen (x / 4294967296 / 65536).toNat : Int) ∧ wrap64 (48 + wrap64 (Lib.len8 (x / 4294967296 / 65536))) = 48 + (blen (x / 4294967296 / 65536).toNat : Int) := by
    rw [hl]; unfold wrap64; omega
  have HW := Hd.mk hw; clear hl hb hw
  go_enter Try.func101, Try.ntmps101
  go_wp2
  go_ret
  refine ⟨?_, by repeat (first | exact Below.refl _ _ | apply bdrN | apply bdr | apply bal)⟩
  first | (rw [← HW.out.2]; done) | (rw [← HW.out.2]; rfl) | (rw [Int.zero_add, ← HW.out.1]; unfold wrap64; congr 2; omega) | (rw [Int.zero_add, ← HW.out.1]; rfl)
set_option maxHeartbeats 800000 in
set_option maxRecDepth 1000000 in
theorem len64_101 (x : Int) (hx0 : 0 ≤ x) (hx1 : x ≤ 18446744073709551615) (c1 : 4294967296 ≤ x) (c2 : x / 4294967296 < 65536) (c3 : 256 ≤ x / 4294967296) (w : World) : Calls Try.prog 101 #[.int .u64 x] w fun e w' =>
    e = .returned (.int .i64 (40 + (blen (x / 4294967296 / 256).toNat : Int))) ∧ Below w.heap.size w w' := by
  have i0 : 0 ≤ x / 4294967296 / 256 := by omega
  have i1 : x / 4294967296 / 256 ≤ 255 := by omega
  have hl := len8_blen (x / 4294967296 / 256) i0 i1; have hb := blen_le8 (x / 4294967296 / 256).toNat (by omega)
  have hw : wrap64 (wrap64 (Lib.len8 (x / 4294967296 / 256))) = (blen (x / 4294967296 / 256).toNat : Int) ∧ wrap64 (40 + wrap64 (Lib.len8 (x / 4294967296 / 256))) = 40 + (blen (x / 4294967296 / 256).toNat : Int) := by
    rw [hl]; unfold wrap64; omega
  have HW := Hd.mk hw; clear hl hb hw
  go_enter Try.func101, Try.ntmps101
  go_wp2
  go_ret
  refine ⟨?_, by repeat (first | exact Below.refl _ _ | apply bdrN | apply bdr | apply bal)⟩
  first | (rw [← HW.out.2]; done) | (rw [← HW.out.2]; rfl) | (rw [Int.zero_add, ← HW.out.1]; unfold wrap64; congr 2; omega) | (rw [Int.zero_add, ← HW.out.1]; rfl)
set_option maxHeartbeats 800000 in
set_option maxRecDepth 1000000 in
theorem len64_100 (x : Int) (hx0 : 0 ≤ x) (hx1 : x ≤ 18446744073709551615) (c1 : 4294967296 ≤ x) (c2 : x / 4294967296 < 65536) (c3 : x / 4294967296 < 256) (w : World) : Calls Try.prog 101 #[.int .u64 x] w fun e w' =>
    e = .returned (.int .i64 (32 + (blen (x / 4294967296).toNat : Int))) ∧ Below w.heap.size w w' := by
  have i0 : 0 ≤ x / 4294967296 := by omega
  have i1 : x / 4294967296 ≤ 255 := by omega
  have hl := len8_blen (x / 4294967296) i0 i1; have hb := blen_le8 (x / 4294967296).toNat (by omega)
  have hw : wrap64 (wrap64 (Lib.len8 (x / 4294967296))) = (blen (x / 4294967296).toNat : Int) ∧ wrap64 (32 + wrap64 (Lib.len8 (x / 4294967296))) = 32 + (blen (x / 4294967296).toNat : Int) := by
    rw [hl]; unfold wrap64; omega
  have HW := Hd.mk hw; clear hl hb hw
  go_enter Try.func101, Try.ntmps101
  go_wp2
  go_ret
  refine ⟨?_, by repeat (first | exact Below.refl _ _ | apply bdrN | apply bdr | apply bal)⟩
  first | (rw [← HW.out.2]; done) | (rw [← HW.out.2]; rfl) | (rw [Int.zero_add, ← HW.out.1]; unfold wrap64; congr 2; omega) | (rw [Int.zero_add, ← HW.out.1]; rfl)
set_option maxHeartbeats 800000 in
set_option maxRecDepth 1000000 in
theorem len64_011 (x : Int) (hx0 : 0 ≤ x) (hx1 : x ≤ 18446744073709551615) (c1 : x < 4294967296) (c2 : 65536 ≤ x) (c3 : 256 ≤ x / 65536) (w : World) : Calls Try.prog 101 #[.int .u64 x] w fun e w' =>
    e = .returned (.int .i64 (24 + (blen (x / 65536 / 256).toNat : Int))) ∧ Below w.heap.size w w' := by
  have i0 : 0 ≤ x / 65536 / 256 := by omega
  have i1 : x / 65536 / 256 ≤ 255 := by omega
  have hl := len8_blen (x / 65536 / 256) i0 i1; have hb := blen_le8 (x / 65536 / 256).toNat (by omega)
  have hw : wrap64 (wrap64 (Lib.len8 (x / 65536 / 256))) = (blen (x / 65536 / 256).toNat : Int) ∧ wrap64 (24 + wrap64 (Lib.len8 (x / 65536 / 256))) = 24 + (blen (x / 65536 / 256).toNat : Int) := by
    rw [hl]; unfold wrap64; omega
  have HW := Hd.mk hw; clear hl hb hw
  go_enter Try.func101, Try.ntmps101
  go_wp2
  go_ret
  refine ⟨?_, by repeat (first | exact Below.refl _ _ | apply bdrN | apply bdr | apply bal)⟩
  first | (rw [← HW.out.2]; done) | (rw [← HW.out.2]; rfl) | (rw [Int.zero_add, ← HW.out.1]; unfold wrap64; congr 2; omega) | (rw [Int.zero_add, ← HW.out.1]; rfl)
set_option maxHeartbeats 800000 in
set_option maxRecDepth 1000000 in
theorem len64_010 (x : Int) (hx0 : 0 ≤ x) (hx1 : x ≤ 18446744073709551615) (c1 : x < 4294967296) (c2 : 65536 ≤ x) (c3 : x / 65536 < 256) (w : World) : Calls Try.prog 101 #[.int .u64 x] w fun e w' =>
    e = .returned (.int .i64 (16 + (blen (x / 65536).toNat : Int))) ∧ Below w.heap.size w w' := by
  have i0 : 0 ≤ x / 65536 := by omega
  have i1 : x / 65536 ≤ 255 := by omega
  have hl := len8_blen (x / 65536) i0 i1; have hb := blen_le8 (x / 65536).toNat (by omega)
  have hw : wrap64 (wrap64 (Lib.len8 (x / 65536))) = (blen (x / 65536).toNat : Int) ∧ wrap64 (16 + wrap64 (Lib.len8 (x / 65536))) = 16 + (blen (x / 65536).toNat : Int) := by
    rw [hl]; unfold wrap64; omega
  have HW := Hd.mk hw; clear hl hb hw
  go_enter Try.func101, Try.ntmps101
  go_wp2
  go_ret
  refine ⟨?_, by repeat (first | exact Below.refl _ _ | apply bdrN | apply bdr | apply bal)⟩
  first | (rw [← HW.out.2]; done) | (rw [← HW.out.2]; rfl) | (rw [Int.zero_add, ← HW.out.1]; unfold wrap64; congr 2; omega) | (rw [Int.zero_add, ← HW.out.1]; rfl)
set_option maxHeartbeats 800000 in
set_option maxRecDepth 1000000 in
theorem len64_001 (x : Int) (hx0 : 0 ≤ x) (hx1 : x ≤ 18446744073709551615) (c1 : x < 4294967296) (c2 : x < 65536) (c3 : 256 ≤ x) (w : World) : Calls Try.prog 101 #[.int .u64 x] w fun e w' =>
    e = .returned (.int .i64 (8 + (blen (x / 256).toNat : Int))) ∧ Below w.heap.size w w' := by
  have i0 : 0 ≤ x / 256 := by omega
  have i1 : x / 256 ≤ 255 := by omega
  have hl := len8_blen (x / 256) i0 i1; have hb := blen_le8 (x / 256).toNat (by omega)
  have hw : wrap64 (wrap64 (Lib.len8 (x / 256))) = (blen (x / 256).toNat : Int) ∧ wrap64 (8 + wrap64 (Lib.len8 (x / 256))) = 8 + (blen (x / 256).toNat : Int) := by
    rw [hl]; unfold wrap64; omega
  have HW := Hd.mk hw; clear hl hb hw
  go_enter Try.func101, Try.ntmps101
  go_wp2
  go_ret
  refine ⟨?_, by repeat (first | exact Below.refl _ _ | apply bdrN | apply bdr | apply bal)⟩
  first | (rw [← HW.out.2]; done) | (rw [← HW.out.2]; rfl) | (rw [Int.zero_add, ← HW.out.1]; unfold wrap64; congr 2; omega) | (rw [Int.zero_add, ← HW.out.1]; rfl)
set_option maxHeartbeats 800000 in
set_option maxRecDepth 1000000 in
theorem len64_000 (x : Int) (hx0 : 0 ≤ x) (hx1 : x ≤ 18446744073709551615) (c1 : x < 4294967296) (c2 : x < 65536) (c3 : x < 256) (w : World) : Calls Try.prog 101 #[.int .u64 x] w fun e w' =>
    e = .returned (.int .i64 (0 + (blen (x).toNat : Int))) ∧ Below w.heap.size w w' := by
  have i0 : 0 ≤ x := by omega
  have i1 : x ≤ 255 := by omega
  have hl := len8_blen (x) i0 i1; have hb := blen_le8 (x).toNat (by omega)
  have hw : wrap64 (wrap64 (Lib.len8 (x))) = (blen (x).toNat : Int) ∧ wrap64 (0 + wrap64 (Lib.len8 (x))) = 0 + (blen (x).toNat : Int) := by
    rw [hl]; unfold wrap64; omega
  have HW := Hd.mk hw; clear hl hb hw
  go_enter Try.func101, Try.ntmps101
  go_wp2
  go_ret
  refine ⟨?_, by repeat (first | exact Below.refl _ _ | apply bdrN | apply bdr | apply bal)⟩
  first | (rw [← HW.out.2]; done) | (rw [← HW.out.2]; rfl) | (rw [Int.zero_add, ← HW.out.1]; unfold wrap64; congr 2; omega) | (rw [Int.zero_add, ← HW.out.1]; rfl)
theorem len64 (x : Int) (hx : U x) (w : World) : Calls Try.prog 101 #[.int .u64 x] w fun e w' =>
    e = .returned (.int .i64 (blen x.toNat : Int)) ∧ Below w.heap.size w w' := by
  obtain ⟨h0, h1⟩ := hx
  by_cases c1 : 4294967296 ≤ x
  · by_cases c2 : 65536 ≤ x / 4294967296
    · by_cases c3 : 256 ≤ x / 4294967296 / 65536
      · have e1 : (x / 4294967296 / 65536 / 256).toNat = x.toNat / 2 ^ 56 := by omega
        have e2 := blen_shift x.toNat 56 (by omega)
        have := (len64_111 x h0 h1 c1 c2 c3 w)
        rw [e1] at this
        rw [e2]
        simpa using this
      · have e1 : (x / 4294967296 / 65536).toNat = x.toNat / 2 ^ 48 := by omega
        have e2 := blen_shift x.toNat 48 (by omega)
        have := (len64_110 x h0 h1 c1 c2 (by omega) w)
        rw [e1] at this
        rw [e2]
        simpa using this
    · by_cases c3 : 256 ≤ x / 4294967296
      · have e1 : (x / 4294967296 / 256).toNat = x.toNat / 2 ^ 40 := by omega
        have e2 := blen_shift x.toNat 40 (by omega)
        have := (len64_101 x h0 h1 c1 (by omega) c3 w)
        rw [e1] at this
        rw [e2]
        simpa using this
      · have e1 : (x / 4294967296).toNat = x.toNat / 2 ^ 32 := by omega
        have e2 := blen_shift x.toNat 32 (by omega)
        have := (len64_100 x h0 h1 c1 (by omega) (by omega) w)
        rw [e1] at this
        rw [e2]
        simpa using this
  · by_cases c2 : 65536 ≤ x
    · by_cases c3 : 256 ≤ x / 65536
      · have e1 : (x / 65536 / 256).toNat = x.toNat / 2 ^ 24 := by omega
        have e2 := blen_shift x.toNat 24 (by omega)
        have := (len64_011 x h0 h1 (by omega) c2 c3 w)
        rw [e1] at this
        rw [e2]
        simpa using this
      · have e1 : (x / 65536).toNat = x.toNat / 2 ^ 16 := by omega
        have e2 := blen_shift x.toNat 16 (by omega)
        have := (len64_010 x h0 h1 (by omega) c2 (by omega) w)
        rw [e1] at this
        rw [e2]
        simpa using this
    · by_cases c3 : 256 ≤ x
      · have e1 : (x / 256).toNat = x.toNat / 2 ^ 8 := by omega
        have e2 := blen_shift x.toNat 8 (by omega)
        have := (len64_001 x h0 h1 (by omega) (by omega) c3 w)
        rw [e1] at this
        rw [e2]
        simpa using this
      · have := (len64_000 x h0 h1 (by omega) (by omega) (by omega) w)
        simpa using this
theorem wlen_at (a k : Nat) (v : Int) (hv : ((a / 2 ^ k : Nat) : Int) = v) (h : v ≠ 0) : blen a = k + blen v.toNat := by
  subst hv; rw [blen_shift a k (by omega)]
  rfl
set_option maxHeartbeats 400000 in
theorem wlen_3 (a0 a1 a2 a3 : Int) (hu : U a3) (hn : a3 ≠ 0)  (w : World) : Calls Try.prog 78 #[.agg #[.int .u64 a0, .int .u64 a1, .int .u64 a2, .int .u64 a3]] w fun e w' =>
    e = .returned (.int .i64 (192 + (blen a3.toNat : Int))) ∧ Below w.heap.size w w' := by
  have HU := Hd.mk hu
  have hb : blen a3.toNat ≤ 64 := by rw [blen_le_iff]; unfold U at hu; omega
  have HB := Hd.mk hb
  have hn1 : (a3 != 0) = true := by simpa using hn
  clear hn hu hb
  go_enter Try.func78, Try.ntmps78
  go_wp2
  refine wp_loop_rounds 5 ?_
  rw [rounds_succ]; go_wp2_with (go_at_call 101; refine (len64 a3 HU.out _).mono ?_; rintro e w1 ⟨rfl, hb⟩; have g0 := HB.out)
  go_ret
  refine ⟨?_, ?_⟩
  · first | rfl | (simp; done) | (unfold wrap64; congr 2; omega)
  · repeat (first | exact Below.refl _ _ | apply bdrN | apply bdr | apply bal | refine bthen ?_ hb)
set_option maxHeartbeats 400000 in
theorem wlen_2 (a0 a1 a2 a3 : Int) (hu : U a2) (hn : a2 ≠ 0) (h3 : a3 = 0) (w : World) : Calls Try.prog 78 #[.agg #[.int .u64 a0, .int .u64 a1, .int .u64 a2, .int .u64 a3]] w fun e w' =>
    e = .returned (.int .i64 (128 + (blen a2.toNat : Int))) ∧ Below w.heap.size w w' := by
  have HU := Hd.mk hu
  have hb : blen a2.toNat ≤ 64 := by rw [blen_le_iff]; unfold U at hu; omega
  have HB := Hd.mk hb
  have hn1 : (a2 != 0) = true := by simpa using hn
  clear hn hu hb; subst h3
  go_enter Try.func78, Try.ntmps78
  go_wp2
  refine wp_loop_rounds 5 ?_
  rw [rounds_succ]; go_wp2
  rw [rounds_succ]; go_wp2_with (go_at_call 101; refine (len64 a2 HU.out _).mono ?_; rintro e w1 ⟨rfl, hb⟩; have g0 := HB.out)
  go_ret
  refine ⟨?_, ?_⟩
  · first | rfl | (simp; done) | (unfold wrap64; congr 2; omega)
  · repeat (first | exact Below.refl _ _ | apply bdrN | apply bdr | apply bal | refine bthen ?_ hb)
set_option maxHeartbeats 400000 in
theorem wlen_1 (a0 a1 a2 a3 : Int) (hu : U a1) (hn : a1 ≠ 0) (h3 : a3 = 0) (h2 : a2 = 0) (w : World) : Calls Try.prog 78 #[.agg #[.int .u64 a0, .int .u64 a1, .int .u64 a2, .int .u64 a3]] w fun e w' =>
    e = .returned (.int .i64 (64 + (blen a1.toNat : Int))) ∧ Below w.heap.size w w' := by
  have HU := Hd.mk hu
  have hb : blen a1.toNat ≤ 64 := by rw [blen_le_iff]; unfold U at hu; omega
  have HB := Hd.mk hb
  have hn1 : (a1 != 0) = true := by simpa using hn
  clear hn hu hb; subst h3; subst h2
  go_enter Try.func78, Try.ntmps78
  go_wp2
  refine wp_loop_rounds 5 ?_
  rw [rounds_succ]; go_wp2
  rw [rounds_succ]; go_wp2
  rw [rounds_succ]; go_wp2_with (go_at_call 101; refine (len64 a1 HU.out _).mono ?_; rintro e w1 ⟨rfl, hb⟩; have g0 := HB.out)
  go_ret
  refine ⟨?_, ?_⟩
  · first | rfl | (simp; done) | (unfold wrap64; congr 2; omega)
  · repeat (first | exact Below.refl _ _ | apply bdrN | apply bdr | apply bal | refine bthen ?_ hb)
set_option maxHeartbeats 400000 in
theorem wlen_0 (a0 a1 a2 a3 : Int) (hu : U a0) (hn : a0 ≠ 0) (h3 : a3 = 0) (h2 : a2 = 0) (h1 : a1 = 0) (w : World) : Calls Try.prog 78 #[.agg #[.int .u64 a0, .int .u64 a1, .int .u64 a2, .int .u64 a3]] w fun e w' =>
    e = .returned (.int .i64 (0 + (blen a0.toNat : Int))) ∧ Below w.heap.size w w' := by
  have HU := Hd.mk hu
  have hb : blen a0.toNat ≤ 64 := by rw [blen_le_iff]; unfold U at hu; omega
  have HB := Hd.mk hb
  have hn1 : (a0 != 0) = true := by simpa using hn
  clear hn hu hb; subst h3; subst h2; subst h1
  go_enter Try.func78, Try.ntmps78
  go_wp2
  refine wp_loop_rounds 5 ?_
  rw [rounds_succ]; go_wp2
  rw [rounds_succ]; go_wp2
  rw [rounds_succ]; go_wp2
  rw [rounds_succ]; go_wp2_with (go_at_call 101; refine (len64 a0 HU.out _).mono ?_; rintro e w1 ⟨rfl, hb⟩; have g0 := HB.out)
  go_ret
  refine ⟨?_, ?_⟩
  · first | rfl | (simp; done) | (unfold wrap64; congr 2; omega)
  · repeat (first | exact Below.refl _ _ | apply bdrN | apply bdr | apply bal | refine bthen ?_ hb)
theorem wlen (a : Nat) (ha : a < T256) (w : World) : Calls Try.prog 78 #[.agg #[.int .u64 (l0 a), .int .u64 (l1 a), .int .u64 (l2 a), .int .u64 (l3 a)]] w fun e w' =>
    e = .returned (.int .i64 (blen a : Int)) ∧ Below w.heap.size w w' := by
  have ea := lsum ha; have A0 := U0 a; have A1 := U1 a; have A2 := U2 a; have A3 := U3 a
  have q3 : l3 a = ((a / 2 ^ 192 : Nat) : Int) := by unfold T256 at ha; unfold l3; omega
  have q2 : l3 a = 0 → l2 a = ((a / 2 ^ 128 : Nat) : Int) := by unfold l3 l2; unfold T256 at ha; omega
  have q1 : l3 a = 0 → l2 a = 0 → l1 a = ((a / 2 ^ 64 : Nat) : Int) := by unfold l3 l2 l1; unfold T256 at ha; omega
  have q0 : l3 a = 0 → l2 a = 0 → l1 a = 0 → l0 a = ((a / 2 ^ 0 : Nat) : Int) := by unfold l3 l2 l1 l0; unfold T256 at ha; omega
  by_cases h3 : l3 a = 0
  · by_cases h2 : l2 a = 0
    · by_cases h1 : l1 a = 0
      · by_cases h0 : l0 a = 0
        · have : a = 0 := by omega
          subst this; rw [l_nil.1, l_nil.2.1, l_nil.2.2.1, l_nil.2.2.2, blen_zero]; clear ea A0 A1 A2 A3 q3 q2 q1 q0 h0 h1 h2 h3
          go_enter Try.func78, Try.ntmps78
          go_wp2
          refine wp_loop_rounds 5 ?_
          rw [rounds_succ]; go_wp2; rw [rounds_succ]; go_wp2; rw [rounds_succ]; go_wp2; rw [rounds_succ]; go_wp2; rw [rounds_succ]; go_wp2
          go_ret
          exact ⟨rfl, by repeat (first | exact Below.refl _ _ | apply bdrN | apply bdr | apply bal)⟩
        · rw [wlen_at a 0 _ (q0 h3 h2 h1).symm h0]; exact wlen_0 _ _ _ _ A0 h0 h3 h2 h1 w
      · rw [wlen_at a 64 _ (q1 h3 h2).symm h1]; exact wlen_1 _ _ _ _ A1 h1 h3 h2 w
    · rw [wlen_at a 128 _ (q2 h3).symm h2]; exact wlen_2 _ _ _ _ A2 h2 h3 w
  · rw [wlen_at a 192 _ q3.symm h3]; exact wlen_3 _ _ _ _ A3 h3 w
end Go.Proofs.Ythcgeekibomhiaa
namespace Go.Proofs.Ythcgeekibomhiaa
set_option linter.unusedVariables false
set_option linter.unusedSimpArgs false
open Go.RowKit
theorem pow_split {r : Nat} (hr : r ≤ 64) : 2 ^ r * 2 ^ (64 - r) = 18446744073709551616 := by
  rw [← Nat.pow_add, show r + (64 - r) = 64 by omega]
theorem word_low (x r : Nat) (hr : r ≤ 64) : x * 2 ^ r % 18446744073709551616 = x * 2 ^ r - 18446744073709551616 * (x / 2 ^ (64 - r)) ∧ 18446744073709551616 * (x / 2 ^ (64 - r)) ≤ x * 2 ^ r := by
  have h : x * 2 ^ r / 18446744073709551616 = x / 2 ^ (64 - r) := by
    rw [← pow_split hr, Nat.mul_comm x, Nat.mul_div_mul_left _ _ (Nat.two_pow_pos r)]
  have := Nat.div_add_mod (x * 2 ^ r) 18446744073709551616
  rw [h] at this
  omega
theorem word_high (y r : Nat) (hr : r ≤ 64) (hy : y < 18446744073709551616) : y / 2 ^ (64 - r) < 2 ^ r := by
  apply Nat.div_lt_of_lt_mul; rw [Nat.mul_comm, pow_split hr]; exact hy
theorem word_or (x y r : Nat) (hr : r ≤ 64) (hy : y < 18446744073709551616) :
    (x * 2 ^ r % 18446744073709551616) ||| (y / 2 ^ (64 - r)) = x * 2 ^ r % 18446744073709551616 + y / 2 ^ (64 - r) := by
  have h : x * 2 ^ r % 18446744073709551616 = (x % 2 ^ (64 - r)) * 2 ^ r := by
    rw [← pow_split hr, Nat.mul_comm x, Nat.mul_mod_mul_left, Nat.mul_comm]
  rw [h, ← Nat.shiftLeft_eq]; exact (Nat.shiftLeft_add_eq_or_of_lt (word_high y r hr hy) _).symm
theorem word_lt (x y r : Nat) (hr : r ≤ 64) (hy : y < 18446744073709551616) : x * 2 ^ r % 18446744073709551616 + y / 2 ^ (64 - r) < 18446744073709551616 := by
  rw [← word_or x y r hr hy]; apply Nat.or_lt_two_pow (n := 64)
  · omega
  · exact Nat.lt_of_le_of_lt (Nat.div_le_self _ _) hy
theorem w_up (x : Int) (r : Nat) (hx : U x) : IntKind.u64.wrap (x * 2 ^ r) = ((x.toNat * 2 ^ r % 18446744073709551616 : Nat) : Int) := by
  obtain ⟨n, rfl⟩ := Int.eq_ofNat_of_zero_le hx.1; rw [IntKind.wrap_u64]
  simp
theorem w_down (y : Int) (r : Nat) (hy : U y) : y / 2 ^ r = ((y.toNat / 2 ^ r : Nat) : Int) := by
  obtain ⟨n, rfl⟩ := Int.eq_ofNat_of_zero_le hy.1
  simp
theorem w_or (x y : Int) (r : Nat) (hr : r ≤ 64) (hx : U x) (hy : U y) :
    bits .or .u64 (IntKind.u64.wrap (x * 2 ^ r)) (y / 2 ^ (64 - r)) = ((x.toNat * 2 ^ r % 18446744073709551616 + y.toNat / 2 ^ (64 - r) : Nat) : Int) := by
  rw [w_up x r hx, w_down y _ hy]
  have hyn : y.toNat < 18446744073709551616 := by unfold U at hy; omega
  rw [bits_or_u64_nat _ _ (Nat.mod_lt _ (by omega)) (Nat.lt_of_le_of_lt (Nat.div_le_self _ _) hyn), word_or _ _ _ hr hyn]
theorem w_or' (x y : Int) (r : Nat) (hr : r ≤ 64) (hx : U x) (hy : U y) :
    bits .or .u64 (y / 2 ^ r) (IntKind.u64.wrap (x * 2 ^ (64 - r))) = ((x.toNat * 2 ^ (64 - r) % 18446744073709551616 + y.toNat / 2 ^ r : Nat) : Int) := by
  have e : r = 64 - (64 - r) := by omega
  rw [w_up x _ hx, w_down y _ hy]
  have hyn : y.toNat < 18446744073709551616 := by unfold U at hy; omega
  rw [bits_or_u64_nat _ _ (Nat.lt_of_le_of_lt (Nat.div_le_self _ _) hyn) (Nat.mod_lt _ (by omega)), Nat.or_comm]
  have := word_or x.toNat y.toNat (64 - r) (by omega) hyn
  rw [← e] at this
  rw [this]
theorem toNat_sub64 (r : Int) (h0 : 0 ≤ r) (h1 : r ≤ 63) : (64 - r).toNat = 64 - r.toNat := by omega
structure Four (a : Nat) (a0 a1 a2 a3 : Int) : Prop where
  u0 : U a0
  u1 : U a1
  u2 : U a2
  u3 : U a3
  sum : a = a0.toNat + a1.toNat * 18446744073709551616 + a2.toNat * 340282366920938463463374607431768211456 + a3.toNat * 6277101735386680763835789423207666416102355444464034512896
theorem four {a : Nat} (h : a < T256) : Four a (l0 a) (l1 a) (l2 a) (l3 a) := by
  have := lsum h
  have A0 := U0 a; have A1 := U1 a; have A2 := U2 a; have A3 := U3 a; exact ⟨A0, A1, A2, A3, by unfold U at *; omega⟩
theorem Four.of {a : Nat} {a0 a1 a2 a3 : Int} (h : Four a a0 a1 a2 a3) : a0 = l0 a ∧ a1 = l1 a ∧ a2 = l2 a ∧ a3 = l3 a := by
  obtain ⟨A0, A1, A2, A3, h⟩ := h; exact lof A0 A1 A2 A3 (by unfold U at *; omega)
theorem U_nat {n : Nat} (h : n < 18446744073709551616) : U (n : Int) := by unfold U; omega
theorem U_zero : U 0 := by unfold U; omega
section
variable {a : Nat} {a0 a1 a2 a3 : Int} {r : Nat}
theorem four_mul (h : Four a a0 a1 a2 a3) (r : Nat) : a * 2 ^ r = a0.toNat * 2 ^ r + a1.toNat * 2 ^ r * 18446744073709551616 + a2.toNat * 2 ^ r * 340282366920938463463374607431768211456 + a3.toNat * 2 ^ r * 6277101735386680763835789423207666416102355444464034512896 := by
  rw [h.sum]
  simp only [Nat.add_mul]
  rw [Nat.mul_right_comm a1.toNat, Nat.mul_right_comm a2.toNat, Nat.mul_right_comm a3.toNat]
theorem toNat_lt {x : Int} (h : U x) : x.toNat < 18446744073709551616 := by unfold U at h; omega
theorem pow_by1 (r : Nat) : (2 : Nat) ^ (64 + r) = 2 ^ r * 18446744073709551616 := by rw [Nat.pow_add, Nat.mul_comm]
theorem pow_by2 (r : Nat) : (2 : Nat) ^ (128 + r) = 2 ^ r * 340282366920938463463374607431768211456 := by rw [Nat.pow_add, Nat.mul_comm]
theorem pow_by3 (r : Nat) : (2 : Nat) ^ (192 + r) = 2 ^ r * 6277101735386680763835789423207666416102355444464034512896 := by rw [Nat.pow_add, Nat.mul_comm]
theorem shl_0 (h : Four a a0 a1 a2 a3) (hr : r ≤ 63) : Four (a * 2 ^ r % T256)
    (IntKind.u64.wrap (a0 * 2 ^ r)) (bits .or .u64 (IntKind.u64.wrap (a1 * 2 ^ r)) (a0 / 2 ^ (64 - r))) (bits .or .u64 (IntKind.u64.wrap (a2 * 2 ^ r)) (a1 / 2 ^ (64 - r))) (bits .or .u64 (IntKind.u64.wrap (a3 * 2 ^ r)) (a2 / 2 ^ (64 - r))) := by
  have hm := four_mul h r; obtain ⟨A0, A1, A2, A3, _⟩ := h; rw [w_up _ _ A0, w_or _ _ _ (by omega) A1 A0, w_or _ _ _ (by omega) A2 A1, w_or _ _ _ (by omega) A3 A2]; have L1 := word_lt a1.toNat a0.toNat r (by omega) (toNat_lt A0); have L2 := word_lt a2.toNat a1.toNat r (by omega) (toNat_lt A1); have L3 := word_lt a3.toNat a2.toNat r (by omega) (toNat_lt A2); have q0 := word_low a0.toNat r (by omega); have q1 := word_low a1.toNat r (by omega); have q2 := word_low a2.toNat r (by omega); have q3 := word_low a3.toNat r (by omega); refine ⟨U_nat (by omega), U_nat L1, U_nat L2, U_nat L3, ?_⟩
  simp only [Int.toNat_natCast]
  unfold T256
  generalize a * 2 ^ r = M at *
  generalize a0.toNat * 2 ^ r = p0 at *; generalize a1.toNat * 2 ^ r = p1 at *; generalize a2.toNat * 2 ^ r = p2 at *; generalize a3.toNat * 2 ^ r = p3 at *
  generalize a0.toNat / 2 ^ (64 - r) = d0 at *; generalize a1.toNat / 2 ^ (64 - r) = d1 at *; generalize a2.toNat / 2 ^ (64 - r) = d2 at *; generalize a3.toNat / 2 ^ (64 - r) = d3 at *
  omega
theorem shl_1 (h : Four a a0 a1 a2 a3) (hr : r ≤ 63) : Four (a * 2 ^ (64 + r) % T256)
    0 (IntKind.u64.wrap (a0 * 2 ^ r)) (bits .or .u64 (IntKind.u64.wrap (a1 * 2 ^ r)) (a0 / 2 ^ (64 - r))) (bits .or .u64 (IntKind.u64.wrap (a2 * 2 ^ r)) (a1 / 2 ^ (64 - r))) := by
  have hm := four_mul h r; obtain ⟨A0, A1, A2, A3, _⟩ := h; rw [pow_by1, ← Nat.mul_assoc, w_up _ _ A0, w_or _ _ _ (by omega) A1 A0, w_or _ _ _ (by omega) A2 A1]; have L1 := word_lt a1.toNat a0.toNat r (by omega) (toNat_lt A0); have L2 := word_lt a2.toNat a1.toNat r (by omega) (toNat_lt A1); have q0 := word_low a0.toNat r (by omega); have q1 := word_low a1.toNat r (by omega); have q2 := word_low a2.toNat r (by omega); refine ⟨U_zero, U_nat (by omega), U_nat L1, U_nat L2, ?_⟩
  simp only [Int.toNat_natCast]
  unfold T256
  generalize a * 2 ^ r = M at *
  generalize a0.toNat * 2 ^ r = p0 at *; generalize a1.toNat * 2 ^ r = p1 at *; generalize a2.toNat * 2 ^ r = p2 at *; generalize a3.toNat * 2 ^ r = p3 at *
  generalize a0.toNat / 2 ^ (64 - r) = d0 at *; generalize a1.toNat / 2 ^ (64 - r) = d1 at *; generalize a2.toNat / 2 ^ (64 - r) = d2 at *
  omega
theorem shl_2 (h : Four a a0 a1 a2 a3) (hr : r ≤ 63) : Four (a * 2 ^ (128 + r) % T256)
    0 0 (IntKind.u64.wrap (a0 * 2 ^ r)) (bits .or .u64 (IntKind.u64.wrap (a1 * 2 ^ r)) (a0 / 2 ^ (64 - r))) := by
  have hm := four_mul h r; obtain ⟨A0, A1, A2, A3, _⟩ := h; rw [pow_by2, ← Nat.mul_assoc, w_up _ _ A0, w_or _ _ _ (by omega) A1 A0]; have L1 := word_lt a1.toNat a0.toNat r (by omega) (toNat_lt A0); have q0 := word_low a0.toNat r (by omega); have q1 := word_low a1.toNat r (by omega); refine ⟨U_zero, U_zero, U_nat (by omega), U_nat L1, ?_⟩
  simp only [Int.toNat_natCast]
  unfold T256
  generalize a * 2 ^ r = M at *
  generalize a0.toNat * 2 ^ r = p0 at *; generalize a1.toNat * 2 ^ r = p1 at *; generalize a2.toNat * 2 ^ r = p2 at *; generalize a3.toNat * 2 ^ r = p3 at *
  generalize a0.toNat / 2 ^ (64 - r) = d0 at *; generalize a1.toNat / 2 ^ (64 - r) = d1 at *
  omega
theorem shl_3 (h : Four a a0 a1 a2 a3) (hr : r ≤ 63) : Four (a * 2 ^ (192 + r) % T256) 0 0 0 (IntKind.u64.wrap (a0 * 2 ^ r)) := by
  have hm := four_mul h r; obtain ⟨A0, A1, A2, A3, _⟩ := h; rw [pow_by3, ← Nat.mul_assoc, w_up _ _ A0]; refine ⟨U_zero, U_zero, U_zero, U_nat (by omega), ?_⟩
  simp only [Int.toNat_natCast]
  unfold T256
  generalize a * 2 ^ r = M at *
  generalize a0.toNat * 2 ^ r = p0 at *; generalize a1.toNat * 2 ^ r = p1 at *; generalize a2.toNat * 2 ^ r = p2 at *; generalize a3.toNat * 2 ^ r = p3 at *
  omega
theorem shl_far (a n : Nat) (h : 256 ≤ n) : a * 2 ^ n % T256 = 0 := by
  rw [show n = 256 + (n - 256) by omega, Nat.pow_add, T256_eq, ← Nat.mul_assoc, Nat.mul_comm a, Nat.mul_assoc]; exact Nat.mul_mod_right _ _
theorem word_rest (x r : Nat) (hr : r ≤ 64) : (x * 2 ^ (64 - r) % 18446744073709551616) * 2 ^ r = (x % 2 ^ r) * 18446744073709551616 := by
  have e : x * 2 ^ (64 - r) % 18446744073709551616 = (x % 2 ^ r) * 2 ^ (64 - r) := by
    rw [← pow_split hr, Nat.mul_mod_mul_right]
  rw [e, Nat.mul_assoc, Nat.mul_comm (2 ^ (64 - r)), pow_split hr]
theorem div_unique {a d q r : Nat} (h : a = d * q + r) (hr : r < d) : a / d = q := by
  rw [h, Nat.mul_add_div (by omega), Nat.div_eq_of_lt hr, Nat.add_zero]
theorem word_back (x y r : Nat) (hr : r ≤ 64) : (x * 2 ^ (64 - r) % 18446744073709551616 + y / 2 ^ r) * 2 ^ r + y % 2 ^ r = (x % 2 ^ r) * 18446744073709551616 + y := by
  rw [Nat.add_mul, word_rest x r hr, Nat.add_assoc, Nat.div_add_mod']
theorem words_mul (e0 e1 e2 e3 R : Nat) : R * (e0 + e1 * 18446744073709551616 + e2 * 340282366920938463463374607431768211456 + e3 * 6277101735386680763835789423207666416102355444464034512896) =
    e0 * R + e1 * R * 18446744073709551616 + e2 * R * 340282366920938463463374607431768211456 + e3 * R * 6277101735386680763835789423207666416102355444464034512896 := by
  rw [Nat.mul_comm]
  simp only [Nat.add_mul]
  rw [Nat.mul_right_comm e1, Nat.mul_right_comm e2, Nat.mul_right_comm e3]
theorem shr_sum (n0 n1 n2 n3 r a e0 e1 e2 e3 : Nat) (ha : a = n0 + n1 * 18446744073709551616 + n2 * 340282366920938463463374607431768211456 + n3 * 6277101735386680763835789423207666416102355444464034512896)
    (f0 : e0 * 2 ^ r + n0 % 2 ^ r = (n1 % 2 ^ r) * 18446744073709551616 + n0) (f1 : e1 * 2 ^ r + n1 % 2 ^ r = (n2 % 2 ^ r) * 18446744073709551616 + n1)
    (f2 : e2 * 2 ^ r + n2 % 2 ^ r = (n3 % 2 ^ r) * 18446744073709551616 + n2) (f3 : e3 * 2 ^ r + n3 % 2 ^ r = n3) :
    a / 2 ^ r = e0 + e1 * 18446744073709551616 + e2 * 340282366920938463463374607431768211456 + e3 * 6277101735386680763835789423207666416102355444464034512896 := by
  apply div_unique (r := n0 % 2 ^ r) _ (Nat.mod_lt _ (Nat.two_pow_pos r)); rw [words_mul, ha]
  generalize e0 * 2 ^ r = g0 at *; generalize e1 * 2 ^ r = g1 at *; generalize e2 * 2 ^ r = g2 at *; generalize e3 * 2 ^ r = g3 at *
  generalize n0 % 2 ^ r = t0 at *; generalize n1 % 2 ^ r = t1 at *; generalize n2 % 2 ^ r = t2 at *; generalize n3 % 2 ^ r = t3 at *
  omega
theorem shr_0 (h : Four a a0 a1 a2 a3) (hr : r ≤ 63) : Four (a / 2 ^ r)
    (bits .or .u64 (a0 / 2 ^ r) (IntKind.u64.wrap (a1 * 2 ^ (64 - r)))) (bits .or .u64 (a1 / 2 ^ r) (IntKind.u64.wrap (a2 * 2 ^ (64 - r)))) (bits .or .u64 (a2 / 2 ^ r) (IntKind.u64.wrap (a3 * 2 ^ (64 - r)))) (a3 / 2 ^ r) := by
  have hm := h.sum; obtain ⟨A0, A1, A2, A3, _⟩ := h; rw [w_or' _ _ _ (by omega) A1 A0, w_or' _ _ _ (by omega) A2 A1, w_or' _ _ _ (by omega) A3 A2, w_down _ _ A3]; have L0 := word_lt a1.toNat a0.toNat (64 - r) (by omega) (toNat_lt A0); have L1 := word_lt a2.toNat a1.toNat (64 - r) (by omega) (toNat_lt A1); have L2 := word_lt a3.toNat a2.toNat (64 - r) (by omega) (toNat_lt A2)
  rw [show 64 - (64 - r) = r by omega] at L0 L1 L2
  refine ⟨U_nat L0, U_nat L1, U_nat L2, U_nat (Nat.lt_of_le_of_lt (Nat.div_le_self _ _) (toNat_lt A3)), ?_⟩
  simp only [Int.toNat_natCast]
  exact shr_sum _ _ _ _ r a _ _ _ _ hm (word_back _ _ r (by omega)) (word_back _ _ r (by omega)) (word_back _ _ r (by omega)) (Nat.div_add_mod' _ _)
theorem or_zero64 (x : Int) (h : U x) (y : Int) (hy : y = 0) : bits .or .u64 x y = x := by
  subst hy; obtain ⟨n, rfl⟩ := Int.eq_ofNat_of_zero_le h.1
  have := bits_or_u64_nat n 0 (by unfold U at h; omega) (by omega)
  simpa using this
theorem wrap_zero (z : Int) : IntKind.u64.wrap (0 * z) = 0 := by rw [Int.zero_mul, IntKind.wrap_u64]; rfl
theorem U_div {x : Int} (h : U x) (r : Nat) : U (x / 2 ^ r) := by
  rw [w_down _ _ h]; exact U_nat (Nat.lt_of_le_of_lt (Nat.div_le_self _ _) (toNat_lt h))
theorem four_1 (h : Four a a0 a1 a2 a3) : Four (a / 18446744073709551616) a1 a2 a3 0 := by
  obtain ⟨A0, A1, A2, A3, h⟩ := h
  have := toNat_lt A0
  exact ⟨A1, A2, A3, U_zero, by subst h; simp only [Int.toNat_zero]; omega⟩
theorem four_2 (h : Four a a0 a1 a2 a3) : Four (a / 340282366920938463463374607431768211456) a2 a3 0 0 := by
  have := four_1 (four_1 h)
  rwa [Nat.div_div_eq_div_mul] at this
theorem four_3 (h : Four a a0 a1 a2 a3) : Four (a / 6277101735386680763835789423207666416102355444464034512896) a3 0 0 0 := by
  have := four_1 (four_2 h)
  rwa [Nat.div_div_eq_div_mul] at this
theorem zero_down (r : Nat) : (0 : Int) / 2 ^ r = 0 := Int.zero_ediv _
theorem shr_1 (h : Four a a0 a1 a2 a3) (hr : r ≤ 63) : Four (a / 2 ^ (64 + r))
    (bits .or .u64 (a1 / 2 ^ r) (IntKind.u64.wrap (a2 * 2 ^ (64 - r)))) (bits .or .u64 (a2 / 2 ^ r) (IntKind.u64.wrap (a3 * 2 ^ (64 - r)))) (a3 / 2 ^ r) 0 := by
  have := shr_0 (four_1 h) hr
  rw [or_zero64 _ (U_div h.u3 _) _ (wrap_zero _), zero_down, Nat.div_div_eq_div_mul] at this
  rwa [pow_by1, Nat.mul_comm (2 ^ r)]
theorem shr_2 (h : Four a a0 a1 a2 a3) (hr : r ≤ 63) : Four (a / 2 ^ (128 + r))
    (bits .or .u64 (a2 / 2 ^ r) (IntKind.u64.wrap (a3 * 2 ^ (64 - r)))) (a3 / 2 ^ r) 0 0 := by
  have := shr_0 (four_2 h) hr
  rw [or_zero64 _ (U_div h.u3 _) _ (wrap_zero _), or_zero64 _ (U_div U_zero _) _ (wrap_zero _), zero_down, Nat.div_div_eq_div_mul] at this
  rwa [pow_by2, Nat.mul_comm (2 ^ r)]
theorem shr_3 (h : Four a a0 a1 a2 a3) (hr : r ≤ 63) : Four (a / 2 ^ (192 + r)) (a3 / 2 ^ r) 0 0 0 := by
  have := shr_0 (four_3 h) hr
  rw [or_zero64 _ (U_div h.u3 _) _ (wrap_zero _), or_zero64 _ (U_div U_zero _) _ (wrap_zero _), zero_down, Nat.div_div_eq_div_mul] at this
  rwa [pow_by3, Nat.mul_comm (2 ^ r)]
theorem shr_far (a n : Nat) (ha : a < T256) (h : 256 ≤ n) : a / 2 ^ n = 0 := by
  have hp : 2 ^ 256 ≤ 2 ^ n := Nat.pow_le_pow_right (by decide) h
  rw [← T256_eq] at hp
  exact Nat.div_eq_of_lt (Nat.lt_of_lt_of_le ha hp)
theorem shr_back (a n : Nat) (ha : a < T256) : a / 2 ^ n * 2 ^ n % T256 = a ↔ a % 2 ^ n = 0 := by
  have h1 := Nat.div_add_mod' a (2 ^ n); rw [Nat.mod_eq_of_lt (by omega)]
  omega
end
end Go.Proofs.Ythcgeekibomhiaa
namespace Go.Proofs.Ythcgeekibomhiaa
set_option linter.unusedVariables false
set_option linter.unusedSimpArgs false
open Go.RowKit
set_option linter.unusedSimpArgs false
theorem eq_words (w : World) (a0 a1 a2 a3 b0 b1 b2 b3 : Int) :
    (Op.equalIn 10000 62 (.agg #[.int .u64 a0, .int .u64 a1, .int .u64 a2, .int .u64 a3]) (.agg #[.int .u64 b0, .int .u64 b1, .int .u64 b2, .int .u64 b3])).run Try.prog w = .ok (a0 == b0 && (a1 == b1 && (a2 == b2 && a3 == b3))) w := by
  have hs : ∀ w, (sizeOf 22).run Try.prog w = .ok 1 w := fun w => by kernel_rfl
  have h1 : ∀ (x y : Int) w, (Op.equalIn 9999 22 (.int .u64 x) (.int .u64 y)).run Try.prog w = .ok (x == y) w := fun x y w => run_equalIn_int w 9998 22 .u64 .u64 x y Try.underlying22
  have p0 : ∀ (a0 a1 a2 a3 : Int) (w : World), (part 22 #[.int .u64 a0, .int .u64 a1, .int .u64 a2, .int .u64 a3] 0).run Try.prog w = .ok (.int .u64 a0) w := fun _ _ _ _ w => by kernel_rfl
  have p1 : ∀ (a0 a1 a2 a3 : Int) (w : World), (part 22 #[.int .u64 a0, .int .u64 a1, .int .u64 a2, .int .u64 a3] 1).run Try.prog w = .ok (.int .u64 a1) w := fun _ _ _ _ w => by kernel_rfl
  have p2 : ∀ (a0 a1 a2 a3 : Int) (w : World), (part 22 #[.int .u64 a0, .int .u64 a1, .int .u64 a2, .int .u64 a3] 2).run Try.prog w = .ok (.int .u64 a2) w := fun _ _ _ _ w => by kernel_rfl
  have p3 : ∀ (a0 a1 a2 a3 : Int) (w : World), (part 22 #[.int .u64 a0, .int .u64 a1, .int .u64 a2, .int .u64 a3] 3).run Try.prog w = .ok (.int .u64 a3) w := fun _ _ _ _ w => by kernel_rfl
  have hr : List.range' 0 4 1 = [0, 1, 2, 3] := rfl; have hd : (10000 : Nat) = 9999 + 1 := rfl; rw [hd]
  unfold Op.equalIn
  simp only [Sem.run_bind, run_underlying Try.underlying62, Result.andThen_ok, hs, Std.Legacy.Range.forIn_eq_forIn_range', Std.Legacy.Range.size, List.forIn_cons, List.forIn_nil, hr, Nat.sub_zero, Nat.add_sub_cancel, Nat.div_one, Nat.mul_one, Nat.zero_mul, p0, p1, p2, p3, h1, Sem.run_ite, Sem.run_pure]
  cases hx0 : (a0 == b0) <;> simp only [Result.andThen_ok, Bool.not_true, Bool.not_false, Bool.false_eq_true, if_true, if_false, Sem.run_pure, Bool.false_and, Bool.true_and, Sem.run_bind, p1, p2, p3, h1]
  cases hx1 : (a1 == b1) <;> simp only [Result.andThen_ok, Bool.not_true, Bool.not_false, Bool.false_eq_true, if_true, if_false, Sem.run_pure, Bool.false_and, Bool.true_and, Sem.run_bind, p1, p2, p3, h1, Sem.run_ite]
  cases hx2 : (a2 == b2) <;> simp only [Result.andThen_ok, Bool.not_true, Bool.not_false, Bool.false_eq_true, if_true, if_false, Sem.run_pure, Bool.false_and, Bool.true_and, Sem.run_bind, p1, p2, p3, h1, Sem.run_ite]
  cases hx3 : (a3 == b3) <;> simp only [Result.andThen_ok, Bool.not_true, Bool.not_false, Bool.false_eq_true, if_true, if_false, Sem.run_pure, Bool.false_and, Bool.true_and, Sem.run_bind, p1, p2, p3, h1, Sem.run_ite]
theorem eq_nums (w : World) (p a : Nat) (hp : p < T256) (ha : a < T256) :
    (Op.equalIn 10000 62 (.agg #[.int .u64 (l0 p), .int .u64 (l1 p), .int .u64 (l2 p), .int .u64 (l3 p)]) (.agg #[.int .u64 (l0 a), .int .u64 (l1 a), .int .u64 (l2 a), .int .u64 (l3 a)])).run Try.prog w = .ok (decide (p = a)) w := by
  rw [eq_words]
  congr 1
  rw [Bool.eq_iff_iff]
  simp only [Bool.and_eq_true, beq_iff_eq, decide_eq_true_eq]
  exact l_inj hp ha
theorem eq_nil (w : World) (p : Nat) (hp : p < T256) :
    (Op.equalIn 10000 62 (.agg #[.int .u64 (l0 p), .int .u64 (l1 p), .int .u64 (l2 p), .int .u64 (l3 p)]) (.agg #[.int .u64 0, .int .u64 0, .int .u64 0, .int .u64 0])).run Try.prog w = .ok (decide (p = 0)) w := by
  have := eq_nums w p 0 hp (by unfold T256; omega)
  rwa [l_nil.1, l_nil.2.1, l_nil.2.2.1, l_nil.2.2.2] at this
end Go.Proofs.Ythcgeekibomhiaa
namespace Go.Proofs.Ythcgeekibomhiaa
set_option linter.unusedVariables false
set_option linter.unusedSimpArgs false
open Go.RowKit
set_option maxHeartbeats 800000 in
theorem wshl_0 (a0 a1 a2 a3 r : Int) (w : World) (h0 : 0 ≤ r) (h1 : r ≤ 63) (h3 : 1 ≤ r) (hq : r / 64 = 0) (hm : r % 64 = r) :
    Calls Try.prog 65 #[.agg #[.int .u64 a0, .int .u64 a1, .int .u64 a2, .int .u64 a3], .int .i64 r] w fun e w' =>
      e = .returned (.agg #[.int .u64 (IntKind.u64.wrap (a0 * 2 ^ r.toNat)), .int .u64 (bits .or .u64 (IntKind.u64.wrap (a1 * 2 ^ r.toNat)) (a0 / 2 ^ (64 - r).toNat)), .int .u64 (bits .or .u64 (IntKind.u64.wrap (a2 * 2 ^ r.toNat)) (a1 / 2 ^ (64 - r).toNat)), .int .u64 (bits .or .u64 (IntKind.u64.wrap (a3 * 2 ^ r.toNat)) (a2 / 2 ^ (64 - r).toNat))]) ∧ Below w.heap.size w w' := by
  go_enter Try.func65, Try.ntmps65
  go_wp2
  refine wp_loop_rounds 5 ?_
  rw [rounds_succ]; go_wp2; go_region; go_wp2
  rw [rounds_succ]; go_wp2; go_region; go_wp2
  rw [rounds_succ]; go_wp2; go_region; go_wp2
  rw [rounds_succ]; go_wp2
  rw [rounds_succ]; go_wp2
  exact bodyPost_ret (v := .agg #[.int .u64 (IntKind.u64.wrap (a0 * 2 ^ r.toNat)), .int .u64 (bits .or .u64 (IntKind.u64.wrap (a1 * 2 ^ r.toNat)) (a0 / 2 ^ (64 - r).toNat)), .int .u64 (bits .or .u64 (IntKind.u64.wrap (a2 * 2 ^ r.toNat)) (a1 / 2 ^ (64 - r).toNat)), .int .u64 (bits .or .u64 (IntKind.u64.wrap (a3 * 2 ^ r.toNat)) (a2 / 2 ^ (64 - r).toNat))]) (by simp [results, Try.results65, go_sem]) rfl ⟨rfl, by repeat (first | exact Below.refl _ _ | apply bdrN | apply bdr | apply bal)⟩
set_option maxHeartbeats 800000 in
theorem wshl_1 (a0 a1 a2 a3 r : Int) (w : World) (h0 : 0 ≤ r) (h1 : r ≤ 63) (h3 : 1 ≤ 64 + r) (hq : (64 + r) / 64 = 1) (hm : (64 + r) % 64 = r) :
    Calls Try.prog 65 #[.agg #[.int .u64 a0, .int .u64 a1, .int .u64 a2, .int .u64 a3], .int .i64 (64 + r)] w fun e w' =>
      e = .returned (.agg #[.int .u64 (0), .int .u64 (IntKind.u64.wrap (a0 * 2 ^ r.toNat)), .int .u64 (bits .or .u64 (IntKind.u64.wrap (a1 * 2 ^ r.toNat)) (a0 / 2 ^ (64 - r).toNat)), .int .u64 (bits .or .u64 (IntKind.u64.wrap (a2 * 2 ^ r.toNat)) (a1 / 2 ^ (64 - r).toNat))]) ∧ Below w.heap.size w w' := by
  go_enter Try.func65, Try.ntmps65
  go_wp2
  refine wp_loop_rounds 5 ?_
  rw [rounds_succ]; go_wp2; go_region; go_wp2
  rw [rounds_succ]; go_wp2; go_region; go_wp2
  rw [rounds_succ]; go_wp2
  rw [rounds_succ]; go_wp2
  exact bodyPost_ret (v := .agg #[.int .u64 (0), .int .u64 (IntKind.u64.wrap (a0 * 2 ^ r.toNat)), .int .u64 (bits .or .u64 (IntKind.u64.wrap (a1 * 2 ^ r.toNat)) (a0 / 2 ^ (64 - r).toNat)), .int .u64 (bits .or .u64 (IntKind.u64.wrap (a2 * 2 ^ r.toNat)) (a1 / 2 ^ (64 - r).toNat))]) (by simp [results, Try.results65, go_sem]) rfl ⟨rfl, by repeat (first | exact Below.refl _ _ | apply bdrN | apply bdr | apply bal)⟩
set_option maxHeartbeats 800000 in
theorem wshl_2 (a0 a1 a2 a3 r : Int) (w : World) (h0 : 0 ≤ r) (h1 : r ≤ 63) (h3 : 1 ≤ 128 + r) (hq : (128 + r) / 64 = 2) (hm : (128 + r) % 64 = r) :
    Calls Try.prog 65 #[.agg #[.int .u64 a0, .int .u64 a1, .int .u64 a2, .int .u64 a3], .int .i64 (128 + r)] w fun e w' =>
      e = .returned (.agg #[.int .u64 (0), .int .u64 (0), .int .u64 (IntKind.u64.wrap (a0 * 2 ^ r.toNat)), .int .u64 (bits .or .u64 (IntKind.u64.wrap (a1 * 2 ^ r.toNat)) (a0 / 2 ^ (64 - r).toNat))]) ∧ Below w.heap.size w w' := by
  go_enter Try.func65, Try.ntmps65
  go_wp2
  refine wp_loop_rounds 5 ?_
  rw [rounds_succ]; go_wp2; go_region; go_wp2
  rw [rounds_succ]; go_wp2
  rw [rounds_succ]; go_wp2
  exact bodyPost_ret (v := .agg #[.int .u64 (0), .int .u64 (0), .int .u64 (IntKind.u64.wrap (a0 * 2 ^ r.toNat)), .int .u64 (bits .or .u64 (IntKind.u64.wrap (a1 * 2 ^ r.toNat)) (a0 / 2 ^ (64 - r).toNat))]) (by simp [results, Try.results65, go_sem]) rfl ⟨rfl, by repeat (first | exact Below.refl _ _ | apply bdrN | apply bdr | apply bal)⟩
set_option maxHeartbeats 800000 in
theorem wshl_3 (a0 a1 a2 a3 r : Int) (w : World) (h0 : 0 ≤ r) (h1 : r ≤ 63) (h3 : 1 ≤ 192 + r) (hq : (192 + r) / 64 = 3) (hm : (192 + r) % 64 = r) :
    Calls Try.prog 65 #[.agg #[.int .u64 a0, .int .u64 a1, .int .u64 a2, .int .u64 a3], .int .i64 (192 + r)] w fun e w' =>
      e = .returned (.agg #[.int .u64 (0), .int .u64 (0), .int .u64 (0), .int .u64 (IntKind.u64.wrap (a0 * 2 ^ r.toNat))]) ∧ Below w.heap.size w w' := by
  go_enter Try.func65, Try.ntmps65
  go_wp2
  refine wp_loop_rounds 5 ?_
  rw [rounds_succ]; go_wp2
  rw [rounds_succ]; go_wp2
  exact bodyPost_ret (v := .agg #[.int .u64 (0), .int .u64 (0), .int .u64 (0), .int .u64 (IntKind.u64.wrap (a0 * 2 ^ r.toNat))]) (by simp [results, Try.results65, go_sem]) rfl ⟨rfl, by repeat (first | exact Below.refl _ _ | apply bdrN | apply bdr | apply bal)⟩
theorem wshl (a : Nat) (ha : a < T256) (n : Int) (w : World) : Calls Try.prog 65 #[.agg #[.int .u64 (l0 a), .int .u64 (l1 a), .int .u64 (l2 a), .int .u64 (l3 a)], .int .i64 n] w fun e w' =>
    ∃ m : Nat, Hd (m = a * 2 ^ n.toNat % T256) ∧ e = .returned (.agg #[.int .u64 (l0 m), .int .u64 (l1 m), .int .u64 (l2 m), .int .u64 (l3 m)]) ∧ Below w.heap.size w w' := by
  have f := four ha; have A0 := U0 a; have A1 := U1 a; have A2 := U2 a; have A3 := U3 a; refine Calls.mono (R := fun e w' => e = .returned (.agg #[.int .u64 (l0 (a * 2 ^ n.toNat % T256)), .int .u64 (l1 (a * 2 ^ n.toNat % T256)), .int .u64 (l2 (a * 2 ^ n.toNat % T256)), .int .u64 (l3 (a * 2 ^ n.toNat % T256))]) ∧ Below w.heap.size w w') ?_ (fun e w' h => ⟨_, ⟨rfl⟩, h.1, h.2⟩)
  by_cases h1 : n < 1
  · have e0 : n.toNat = 0 := by omega
    rw [e0, Nat.pow_zero, Nat.mul_one, Nat.mod_eq_of_lt ha]; clear f A0 A1 A2 A3 ha e0
    go_enter Try.func65, Try.ntmps65
    go_wp2
    exact bodyPost_ret (v := .agg #[.int .u64 (l0 a), .int .u64 (l1 a), .int .u64 (l2 a), .int .u64 (l3 a)]) (by simp [results, Try.results65, go_sem]) rfl ⟨rfl, by repeat (first | exact Below.refl _ _ | apply bdrN | apply bdr | apply bal)⟩
  · by_cases h2 : 256 ≤ n
    · rw [shl_far _ _ (by omega : 256 ≤ n.toNat), l_nil.1, l_nil.2.1, l_nil.2.2.1, l_nil.2.2.2]
      clear f A0 A1 A2 A3 ha
      go_enter Try.func65, Try.ntmps65
      go_wp2
      exact bodyPost_ret (v := .agg #[.int .u64 0, .int .u64 0, .int .u64 0, .int .u64 0]) (by simp [results, Try.results65, go_sem]) rfl ⟨rfl, by repeat (first | exact Below.refl _ _ | apply bdrN | apply bdr | apply bal)⟩
    · obtain ⟨r, q, hr, hr63, hn, hq⟩ : ∃ r q : Int, 0 ≤ r ∧ r ≤ 63 ∧ n = 64 * q + r ∧ (q = 0 ∨ q = 1 ∨ q = 2 ∨ q = 3) := ⟨n % 64, n / 64, by omega, by omega, by omega, by omega⟩
      rcases hq with rfl | rfl | rfl | rfl
      · obtain ⟨e1, en⟩ : r = n ∧ n.toNat = r.toNat := by omega
        rw [en]; subst e1; have es := toNat_sub64 r hr hr63; obtain ⟨g0, g1, g2, g3⟩ := (shl_0 f (r := r.toNat) (by omega)).of
        rw [← g0, ← g1, ← g2, ← g3]; try rw [← es]
        exact wshl_0 _ _ _ _ r w hr hr63 (by omega) (by omega) (by omega)
      · obtain ⟨e1, en⟩ : 64 + r = n ∧ n.toNat = 64 + r.toNat := by omega
        rw [en]; subst e1; have es := toNat_sub64 r hr hr63; obtain ⟨g0, g1, g2, g3⟩ := (shl_1 f (r := r.toNat) (by omega)).of
        rw [← g0, ← g1, ← g2, ← g3]; try rw [← es]
        exact wshl_1 _ _ _ _ r w hr hr63 (by omega) (by omega) (by omega)
      · obtain ⟨e1, en⟩ : 128 + r = n ∧ n.toNat = 128 + r.toNat := by omega
        rw [en]; subst e1; have es := toNat_sub64 r hr hr63; obtain ⟨g0, g1, g2, g3⟩ := (shl_2 f (r := r.toNat) (by omega)).of
        rw [← g0, ← g1, ← g2, ← g3]; try rw [← es]
        exact wshl_2 _ _ _ _ r w hr hr63 (by omega) (by omega) (by omega)
      · obtain ⟨e1, en⟩ : 192 + r = n ∧ n.toNat = 192 + r.toNat := by omega
        rw [en]; subst e1; have es := toNat_sub64 r hr hr63; obtain ⟨g0, g1, g2, g3⟩ := (shl_3 f (r := r.toNat) (by omega)).of
        rw [← g0, ← g1, ← g2, ← g3]; try rw [← es]
        exact wshl_3 _ _ _ _ r w hr hr63 (by omega) (by omega) (by omega)
set_option maxHeartbeats 1000000 in
set_option maxRecDepth 100000 in
theorem wshr_0 (a m : Nat) (r : Int) (w : World) (h0 : 0 ≤ r) (h1 : r ≤ 63) (h3 : 1 ≤ r) (hq : r / 64 = 0) (hm : r % 64 = r)
    (g0 : bits .or .u64 (l0 a / 2 ^ r.toNat) (IntKind.u64.wrap (l1 a * 2 ^ (64 - r).toNat)) = l0 m) (g1 : bits .or .u64 (l1 a / 2 ^ r.toNat) (IntKind.u64.wrap (l2 a * 2 ^ (64 - r).toNat)) = l1 m) (g2 : bits .or .u64 (l2 a / 2 ^ r.toNat) (IntKind.u64.wrap (l3 a * 2 ^ (64 - r).toNat)) = l2 m) (g3 : l3 a / 2 ^ r.toNat = l3 m) (ha : a < T256) (hT : m < T256) :
    Calls Try.prog 81 #[.agg #[.int .u64 (l0 a), .int .u64 (l1 a), .int .u64 (l2 a), .int .u64 (l3 a)], .int .i64 r] w fun e w' =>
      e = .returned (.tuple #[.agg #[.int .u64 (l0 m), .int .u64 (l1 m), .int .u64 (l2 m), .int .u64 (l3 m)], .bool (decide (m * 2 ^ r.toNat % T256 ≠ a))]) ∧ Below w.heap.size w w' := by
  have ws := wshl m hT; have WS := Hd.mk ws; clear ws; have HT := Hd.mk hT; have HA := Hd.mk ha; have G := Hd.mk (And.intro g0 (And.intro g1 (And.intro g2 (And.intro g3 (trivial))))); clear g0 g1 g2 g3 hT ha
  go_enter Try.func81, Try.ntmps81
  go_wp2
  refine wp_loop_rounds 5 ?_
  rw [rounds_succ]; go_wp2; go_region; go_wp2
  rw [rounds_succ]; go_wp2; go_region; go_wp2
  rw [rounds_succ]; go_wp2; go_region; go_wp2
  rw [rounds_succ]; go_wp2
  rw [rounds_succ]; go_wp2_with fail
  obtain ⟨g0, g1, g2, g3, _⟩ := G.out
  simp only [g0, g1, g2, g3]
  clear g0 g1 g2 g3; clear G
  go_region_held3 (fun w' => (w'.cell? ⟨w.heap.size, 0, none⟩ = some (.int .u64 (l0 a)) ∧ w'.cell? ⟨w.heap.size, 1, none⟩ = some (.int .u64 (l1 a)) ∧ w'.cell? ⟨w.heap.size, 2, none⟩ = some (.int .u64 (l2 a)) ∧ w'.cell? ⟨w.heap.size, 3, none⟩ = some (.int .u64 (l3 a))) ∧ (w'.cell? ⟨w.heap.size + 1 + 1, 0, none⟩ = some (.int .u64 (l0 m)) ∧ w'.cell? ⟨w.heap.size + 1 + 1, 1, none⟩ = some (.int .u64 (l1 m)) ∧ w'.cell? ⟨w.heap.size + 1 + 1, 2, none⟩ = some (.int .u64 (l2 m)) ∧ w'.cell? ⟨w.heap.size + 1 + 1, 3, none⟩ = some (.int .u64 (l3 m)))) (simp [go_sem, World.cell?_alloc_past, *]) (first | (go_at_call 65; refine (WS.out _ _).mono ?_; rintro e w1 ⟨p, hp, rfl, hb⟩; obtain ⟨hc, hf⟩ := bcell hb; have hE := fun w => eq_nums w p a (by rw [hp.out]; exact Nat.mod_lt _ (by decide)) HA.out))
  go_wp2
  refine bodyPost_ret (v := .tuple #[.agg #[.int .u64 (l0 m), .int .u64 (l1 m), .int .u64 (l2 m), .int .u64 (l3 m)], .bool (!decide (p = a))]) (by simp [results, Try.results81, go_sem, hc, World.cell?_alloc_past]) rfl ⟨?_, ?_⟩
  · have e := hp.out
    subst e
    simp
  · repeat (first | exact Below.refl _ _ | apply bdrN | apply bdr | apply bal | apply bset _ (by simp) | refine bthen ?_ hb)
set_option maxHeartbeats 1000000 in
set_option maxRecDepth 100000 in
theorem wshr_1 (a m : Nat) (r : Int) (w : World) (h0 : 0 ≤ r) (h1 : r ≤ 63) (h3 : 1 ≤ 64 + r) (hq : (64 + r) / 64 = 1) (hm : (64 + r) % 64 = r)
    (g0 : bits .or .u64 (l1 a / 2 ^ r.toNat) (IntKind.u64.wrap (l2 a * 2 ^ (64 - r).toNat)) = l0 m) (g1 : bits .or .u64 (l2 a / 2 ^ r.toNat) (IntKind.u64.wrap (l3 a * 2 ^ (64 - r).toNat)) = l1 m) (g2 : l3 a / 2 ^ r.toNat = l2 m) (g3 : 0 = l3 m) (ha : a < T256) (hT : m < T256) :
    Calls Try.prog 81 #[.agg #[.int .u64 (l0 a), .int .u64 (l1 a), .int .u64 (l2 a), .int .u64 (l3 a)], .int .i64 (64 + r)] w fun e w' =>
      e = .returned (.tuple #[.agg #[.int .u64 (l0 m), .int .u64 (l1 m), .int .u64 (l2 m), .int .u64 (l3 m)], .bool (decide (m * 2 ^ (64 + r).toNat % T256 ≠ a))]) ∧ Below w.heap.size w w' := by
  have ws := wshl m hT
  rw [← g3] at ws
  rw [← g3]; clear g3; have WS := Hd.mk ws; clear ws; have HT := Hd.mk hT; have HA := Hd.mk ha; have G := Hd.mk (And.intro g0 (And.intro g1 (And.intro g2 (trivial)))); clear g0 g1 g2 hT ha
  go_enter Try.func81, Try.ntmps81
  go_wp2
  refine wp_loop_rounds 5 ?_
  rw [rounds_succ]; go_wp2; go_region; go_wp2
  rw [rounds_succ]; go_wp2; go_region; go_wp2
  rw [rounds_succ]; go_wp2
  rw [rounds_succ]; go_wp2_with fail
  obtain ⟨g0, g1, g2, _⟩ := G.out
  simp only [g0, g1, g2]
  clear g0 g1 g2; clear G
  go_region_held3 (fun w' => (w'.cell? ⟨w.heap.size, 0, none⟩ = some (.int .u64 (l0 a)) ∧ w'.cell? ⟨w.heap.size, 1, none⟩ = some (.int .u64 (l1 a)) ∧ w'.cell? ⟨w.heap.size, 2, none⟩ = some (.int .u64 (l2 a)) ∧ w'.cell? ⟨w.heap.size, 3, none⟩ = some (.int .u64 (l3 a))) ∧ (w'.cell? ⟨w.heap.size + 1 + 1, 0, none⟩ = some (.int .u64 (l0 m)) ∧ w'.cell? ⟨w.heap.size + 1 + 1, 1, none⟩ = some (.int .u64 (l1 m)) ∧ w'.cell? ⟨w.heap.size + 1 + 1, 2, none⟩ = some (.int .u64 (l2 m)) ∧ w'.cell? ⟨w.heap.size + 1 + 1, 3, none⟩ = some (.int .u64 0))) (simp [go_sem, World.cell?_alloc_past, *]) (first | (go_at_call 65; refine (WS.out _ _).mono ?_; rintro e w1 ⟨p, hp, rfl, hb⟩; obtain ⟨hc, hf⟩ := bcell hb; have hE := fun w => eq_nums w p a (by rw [hp.out]; exact Nat.mod_lt _ (by decide)) HA.out))
  go_wp2
  refine bodyPost_ret (v := .tuple #[.agg #[.int .u64 (l0 m), .int .u64 (l1 m), .int .u64 (l2 m), .int .u64 0], .bool (!decide (p = a))]) (by simp [results, Try.results81, go_sem, hc, World.cell?_alloc_past]) rfl ⟨?_, ?_⟩
  · have e := hp.out
    subst e
    simp
  · repeat (first | exact Below.refl _ _ | apply bdrN | apply bdr | apply bal | apply bset _ (by simp) | refine bthen ?_ hb)
set_option maxHeartbeats 1000000 in
set_option maxRecDepth 100000 in
theorem wshr_2 (a m : Nat) (r : Int) (w : World) (h0 : 0 ≤ r) (h1 : r ≤ 63) (h3 : 1 ≤ 128 + r) (hq : (128 + r) / 64 = 2) (hm : (128 + r) % 64 = r)
    (g0 : bits .or .u64 (l2 a / 2 ^ r.toNat) (IntKind.u64.wrap (l3 a * 2 ^ (64 - r).toNat)) = l0 m) (g1 : l3 a / 2 ^ r.toNat = l1 m) (g2 : 0 = l2 m) (g3 : 0 = l3 m) (ha : a < T256) (hT : m < T256) :
    Calls Try.prog 81 #[.agg #[.int .u64 (l0 a), .int .u64 (l1 a), .int .u64 (l2 a), .int .u64 (l3 a)], .int .i64 (128 + r)] w fun e w' =>
      e = .returned (.tuple #[.agg #[.int .u64 (l0 m), .int .u64 (l1 m), .int .u64 (l2 m), .int .u64 (l3 m)], .bool (decide (m * 2 ^ (128 + r).toNat % T256 ≠ a))]) ∧ Below w.heap.size w w' := by
  have ws := wshl m hT
  rw [← g2, ← g3] at ws
  rw [← g2, ← g3]; clear g2 g3; have WS := Hd.mk ws; clear ws; have HT := Hd.mk hT; have HA := Hd.mk ha; have G := Hd.mk (And.intro g0 (And.intro g1 (trivial))); clear g0 g1 hT ha
  go_enter Try.func81, Try.ntmps81
  go_wp2
  refine wp_loop_rounds 5 ?_
  rw [rounds_succ]; go_wp2; go_region; go_wp2
  rw [rounds_succ]; go_wp2
  rw [rounds_succ]; go_wp2_with fail
  obtain ⟨g0, g1, _⟩ := G.out
  simp only [g0, g1]
  clear g0 g1; clear G
  go_region_held3 (fun w' => (w'.cell? ⟨w.heap.size, 0, none⟩ = some (.int .u64 (l0 a)) ∧ w'.cell? ⟨w.heap.size, 1, none⟩ = some (.int .u64 (l1 a)) ∧ w'.cell? ⟨w.heap.size, 2, none⟩ = some (.int .u64 (l2 a)) ∧ w'.cell? ⟨w.heap.size, 3, none⟩ = some (.int .u64 (l3 a))) ∧ (w'.cell? ⟨w.heap.size + 1 + 1, 0, none⟩ = some (.int .u64 (l0 m)) ∧ w'.cell? ⟨w.heap.size + 1 + 1, 1, none⟩ = some (.int .u64 (l1 m)) ∧ w'.cell? ⟨w.heap.size + 1 + 1, 2, none⟩ = some (.int .u64 0) ∧ w'.cell? ⟨w.heap.size + 1 + 1, 3, none⟩ = some (.int .u64 0))) (simp [go_sem, World.cell?_alloc_past, *]) (first | (go_at_call 65; refine (WS.out _ _).mono ?_; rintro e w1 ⟨p, hp, rfl, hb⟩; obtain ⟨hc, hf⟩ := bcell hb; have hE := fun w => eq_nums w p a (by rw [hp.out]; exact Nat.mod_lt _ (by decide)) HA.out))
  go_wp2
  refine bodyPost_ret (v := .tuple #[.agg #[.int .u64 (l0 m), .int .u64 (l1 m), .int .u64 0, .int .u64 0], .bool (!decide (p = a))]) (by simp [results, Try.results81, go_sem, hc, World.cell?_alloc_past]) rfl ⟨?_, ?_⟩
  · have e := hp.out
    subst e
    simp
  · repeat (first | exact Below.refl _ _ | apply bdrN | apply bdr | apply bal | apply bset _ (by simp) | refine bthen ?_ hb)
set_option maxHeartbeats 1000000 in
set_option maxRecDepth 100000 in
theorem wshr_3 (a m : Nat) (r : Int) (w : World) (h0 : 0 ≤ r) (h1 : r ≤ 63) (h3 : 1 ≤ 192 + r) (hq : (192 + r) / 64 = 3) (hm : (192 + r) % 64 = r)
    (g0 : l3 a / 2 ^ r.toNat = l0 m) (g1 : 0 = l1 m) (g2 : 0 = l2 m) (g3 : 0 = l3 m) (ha : a < T256) (hT : m < T256) :
    Calls Try.prog 81 #[.agg #[.int .u64 (l0 a), .int .u64 (l1 a), .int .u64 (l2 a), .int .u64 (l3 a)], .int .i64 (192 + r)] w fun e w' =>
      e = .returned (.tuple #[.agg #[.int .u64 (l0 m), .int .u64 (l1 m), .int .u64 (l2 m), .int .u64 (l3 m)], .bool (decide (m * 2 ^ (192 + r).toNat % T256 ≠ a))]) ∧ Below w.heap.size w w' := by
  have ws := wshl m hT
  rw [← g1, ← g2, ← g3] at ws
  rw [← g1, ← g2, ← g3]; clear g1 g2 g3; have WS := Hd.mk ws; clear ws; have HT := Hd.mk hT; have HA := Hd.mk ha; have G := Hd.mk (And.intro g0 (trivial)); clear g0 hT ha
  go_enter Try.func81, Try.ntmps81
  go_wp2
  refine wp_loop_rounds 5 ?_
  rw [rounds_succ]; go_wp2
  rw [rounds_succ]; go_wp2_with fail
  obtain ⟨g0, _⟩ := G.out
  simp only [g0]
  clear g0; clear G
  go_region_held3 (fun w' => (w'.cell? ⟨w.heap.size, 0, none⟩ = some (.int .u64 (l0 a)) ∧ w'.cell? ⟨w.heap.size, 1, none⟩ = some (.int .u64 (l1 a)) ∧ w'.cell? ⟨w.heap.size, 2, none⟩ = some (.int .u64 (l2 a)) ∧ w'.cell? ⟨w.heap.size, 3, none⟩ = some (.int .u64 (l3 a))) ∧ (w'.cell? ⟨w.heap.size + 1 + 1, 0, none⟩ = some (.int .u64 (l0 m)) ∧ w'.cell? ⟨w.heap.size + 1 + 1, 1, none⟩ = some (.int .u64 0) ∧ w'.cell? ⟨w.heap.size + 1 + 1, 2, none⟩ = some (.int .u64 0) ∧ w'.cell? ⟨w.heap.size + 1 + 1, 3, none⟩ = some (.int .u64 0))) (simp [go_sem, World.cell?_alloc_past, *]) (first | (go_at_call 65; refine (WS.out _ _).mono ?_; rintro e w1 ⟨p, hp, rfl, hb⟩; obtain ⟨hc, hf⟩ := bcell hb; have hE := fun w => eq_nums w p a (by rw [hp.out]; exact Nat.mod_lt _ (by decide)) HA.out))
  go_wp2
  refine bodyPost_ret (v := .tuple #[.agg #[.int .u64 (l0 m), .int .u64 0, .int .u64 0, .int .u64 0], .bool (!decide (p = a))]) (by simp [results, Try.results81, go_sem, hc, World.cell?_alloc_past]) rfl ⟨?_, ?_⟩
  · have e := hp.out
    subst e
    simp
  · repeat (first | exact Below.refl _ _ | apply bdrN | apply bdr | apply bal | apply bset _ (by simp) | refine bthen ?_ hb)
theorem wshr (a : Nat) (ha : a < T256) (n : Int) (w : World) : Calls Try.prog 81 #[.agg #[.int .u64 (l0 a), .int .u64 (l1 a), .int .u64 (l2 a), .int .u64 (l3 a)], .int .i64 n] w fun e w' =>
    ∃ m : Nat, ∃ o : Bool, Hd (m = a / 2 ^ n.toNat ∧ o = decide (a % 2 ^ n.toNat ≠ 0)) ∧ e = .returned (.tuple #[.agg #[.int .u64 (l0 m), .int .u64 (l1 m), .int .u64 (l2 m), .int .u64 (l3 m)], .bool o]) ∧ Below w.heap.size w w' := by
  have f := four ha; have A0 := U0 a; have A1 := U1 a; have A2 := U2 a; have A3 := U3 a; refine Calls.mono (R := fun e w' => e = .returned (.tuple #[.agg #[.int .u64 (l0 (a / 2 ^ n.toNat)), .int .u64 (l1 (a / 2 ^ n.toNat)), .int .u64 (l2 (a / 2 ^ n.toNat)), .int .u64 (l3 (a / 2 ^ n.toNat))], .bool (decide (a % 2 ^ n.toNat ≠ 0))]) ∧ Below w.heap.size w w') ?_ (fun e w' h => ⟨_, _, ⟨rfl, rfl⟩, h.1, h.2⟩)
  by_cases h1 : n < 1
  · have e0 : n.toNat = 0 := by omega
    have e1 : decide (a % 2 ^ 0 ≠ 0) = false := by simp [Nat.mod_one]
    rw [e0, e1, Nat.pow_zero, Nat.div_one]; clear f A0 A1 A2 A3 ha e0 e1
    go_enter Try.func81, Try.ntmps81
    go_wp2
    exact bodyPost_ret (v := .tuple #[.agg #[.int .u64 (l0 a), .int .u64 (l1 a), .int .u64 (l2 a), .int .u64 (l3 a)], .bool false]) (by simp [results, Try.results81, go_sem]) rfl ⟨rfl, by repeat (first | exact Below.refl _ _ | apply bdrN | apply bdr | apply bal)⟩
  · by_cases h2 : 256 ≤ n
    · have hp : a < 2 ^ n.toNat := by
        have hp : 2 ^ 256 ≤ 2 ^ n.toNat := Nat.pow_le_pow_right (by decide) (by omega)
        rw [← T256_eq] at hp
        exact Nat.lt_of_lt_of_le ha hp
      have e1 : decide (a % 2 ^ n.toNat ≠ 0) = !decide (a = 0) := by rw [Nat.mod_eq_of_lt hp]; simp
      rw [shr_far _ _ ha (by omega : 256 ≤ n.toNat), l_nil.1, l_nil.2.1, l_nil.2.2.1, l_nil.2.2.2, e1]
      have hE := fun w => eq_nil w a ha
      clear f A0 A1 A2 A3 hp e1 ha
      go_enter Try.func81, Try.ntmps81
      go_wp2
      go_region
      go_wp2
      exact bodyPost_ret (v := .tuple #[.agg #[.int .u64 0, .int .u64 0, .int .u64 0, .int .u64 0], .bool (!decide (a = 0))]) (by simp [results, Try.results81, go_sem]) rfl ⟨rfl, by repeat (first | exact Below.refl _ _ | apply bdrN | apply bdr | apply bal)⟩
    · have hm : ∀ k, a / 2 ^ k < T256 := fun k => Nat.lt_of_le_of_lt (Nat.div_le_self _ _) ha
      obtain ⟨r, q, hr, hr63, hn, hq⟩ : ∃ r q : Int, 0 ≤ r ∧ r ≤ 63 ∧ n = 64 * q + r ∧ (q = 0 ∨ q = 1 ∨ q = 2 ∨ q = 3) := ⟨n % 64, n / 64, by omega, by omega, by omega, by omega⟩
      have hb : ∀ k, decide (a % 2 ^ k ≠ 0) = decide (a / 2 ^ k * 2 ^ k % T256 ≠ a) := fun k => by
        rw [Bool.eq_iff_iff]
        simp only [decide_eq_true_eq, Ne, shr_back a k ha]
      rcases hq with rfl | rfl | rfl | rfl
      · obtain ⟨e1, en⟩ : r = n ∧ n.toNat = r.toNat := by omega
        have es := toNat_sub64 r hr hr63; obtain ⟨g0, g1, g2, g3⟩ := (shr_0 f (r := r.toNat) (by omega)).of
        try rw [← es] at g0
        try rw [← es] at g1
        try rw [← es] at g2
        rw [← en] at g0 g1 g2 g3
        rw [hb]; subst e1; exact wshr_0 a _ r w hr hr63 (by omega) (by omega) (by omega) g0 g1 g2 g3 ha (hm _)
      · obtain ⟨e1, en⟩ : 64 + r = n ∧ n.toNat = 64 + r.toNat := by omega
        have es := toNat_sub64 r hr hr63; obtain ⟨g0, g1, g2, g3⟩ := (shr_1 f (r := r.toNat) (by omega)).of
        try rw [← es] at g0
        try rw [← es] at g1
        try rw [← es] at g2
        rw [← en] at g0 g1 g2 g3
        rw [hb]; subst e1; exact wshr_1 a _ r w hr hr63 (by omega) (by omega) (by omega) g0 g1 g2 g3 ha (hm _)
      · obtain ⟨e1, en⟩ : 128 + r = n ∧ n.toNat = 128 + r.toNat := by omega
        have es := toNat_sub64 r hr hr63; obtain ⟨g0, g1, g2, g3⟩ := (shr_2 f (r := r.toNat) (by omega)).of
        try rw [← es] at g0
        try rw [← es] at g1
        try rw [← es] at g2
        rw [← en] at g0 g1 g2 g3
        rw [hb]; subst e1; exact wshr_2 a _ r w hr hr63 (by omega) (by omega) (by omega) g0 g1 g2 g3 ha (hm _)
      · obtain ⟨e1, en⟩ : 192 + r = n ∧ n.toNat = 192 + r.toNat := by omega
        have es := toNat_sub64 r hr hr63; obtain ⟨g0, g1, g2, g3⟩ := (shr_3 f (r := r.toNat) (by omega)).of
        try rw [← es] at g0
        try rw [← es] at g1
        try rw [← es] at g2
        rw [← en] at g0 g1 g2 g3
        rw [hb]; subst e1; exact wshr_3 a _ r w hr hr63 (by omega) (by omega) (by omega) g0 g1 g2 g3 ha (hm _)
set_option maxHeartbeats 400000 in
theorem wbit_at (a0 a1 a2 a3 v r n : Int) (w : World) (h0 : 0 ≤ r) (h1 : r ≤ 63) (hn : 0 ≤ n) (hn2 : n < 256) (hm : n % 64 = r)
    (hv : (n / 64 = 0 ∧ v = a0) ∨ (n / 64 = 1 ∧ v = a1) ∨ (n / 64 = 2 ∧ v = a2) ∨ (n / 64 = 3 ∧ v = a3)) :
    Calls Try.prog 110 #[.agg #[.int .u64 a0, .int .u64 a1, .int .u64 a2, .int .u64 a3], .int .i64 n] w fun e w' =>
      e = .returned (.int .u64 (bits .and .u64 (v / 2 ^ r.toNat) 1)) ∧ Below w.heap.size w w' := by
  have hd1 : decide (n < 0) = false := decide_eq_false (by omega); have hd2 : decide (256 ≤ n) = false := decide_eq_false (by omega)
  rcases hv with ⟨hv, rfl⟩ | ⟨hv, rfl⟩ | ⟨hv, rfl⟩ | ⟨hv, rfl⟩
  all_goals
    go_enter Try.func110, Try.ntmps110
    go_wp2
    go_ret
    exact ⟨rfl, by repeat (first | exact Below.refl _ _ | apply bdrN | apply bdr | apply bal)⟩
end Go.Proofs.Ythcgeekibomhiaa
namespace Go.Proofs.Ythcgeekibomhiaa
set_option linter.unusedVariables false
set_option linter.unusedSimpArgs false
open Go.RowKit
def Blk (w : World) (g : Nat) (t : TypeId) (cs : Array Value) : Prop := w.heap[g]? = some (.cells cs t (0, 0))
section
variable {w w' : World} {g : Nat} {t : TypeId} {cs : Array Value}
theorem Blk.lt (h : Blk w g t cs) : g < w.heap.size := by
  rcases Nat.lt_or_ge g w.heap.size with hlt | hge
  · exact hlt
  · unfold Blk at h; rw [Array.getElem?_eq_none hge] at h; cases h
theorem Blk.cell (h : Blk w g t cs) (i : Nat) : w.cell? ⟨g, i, none⟩ = cs[i]? := cell_of_row w g i cs t (0, 0) h
theorem Blk.free (h : Blk w g t cs) (i : Nat) : w.frozen? ⟨g, i, none⟩ = false := by
  unfold Blk at h
  simp [World.frozen?, h]
theorem Blk.new (w : World) (t : TypeId) (cs : Array Value) : Blk (w.alloc (.cells cs t)) w.heap.size t cs := heap_alloc_new w _
theorem Blk.at {w : World} {g : Nat} {t : TypeId} {cs : Array Value} (h : g = w.heap.size) : Blk (w.alloc (.cells cs t)) g t cs := by subst h; exact Blk.new w t cs
theorem Blk.drew (h : Blk w g t cs) : Blk w.drew g t cs := h
theorem Blk.drewN (h : Blk w g t cs) (n : Nat) : Blk (w.drewN n) g t cs := h
theorem Blk.alloc (h : Blk w g t cs) (o : Obj) : Blk (w.alloc o) g t cs := (Below.heap_alloc w o g h.lt).trans h
theorem Blk.put (h : Blk w g t cs) (i : Nat) (u : Value) : Blk (w.setCell ⟨g, i, none⟩ u) g t (cs.setIfInBounds i u) := by
  unfold Blk at h ⊢
  simp [World.setCell, Array.getElem?_modify, h]
theorem Blk.far (h : Blk w g t cs) {p i : Nat} (hp : g ≠ p) (u : Value) : Blk (w.setCell ⟨p, i, none⟩ u) g t cs := (Below.heap_setCell w ⟨p, i, none⟩ u g hp).trans h
theorem Blk.below {B : Nat} (h : Blk w g t cs) (hb : Below B w w') (hg : g < B) : Blk w' g t cs := (hb.block g hg).trans h
theorem Blk.after (h : Blk w g t cs) (hb : Below w.heap.size w w') : Blk w' g t cs := h.below hb h.lt
theorem Blk.aft (hb : Below w.heap.size w w') (h : Blk w g t cs) : Blk w' g t cs := h.after hb
theorem Blk.fr {p i : Nat} {u : Value} (hp : g ≠ p) (h : Blk w g t cs) : Blk (w.setCell ⟨p, i, none⟩ u) g t cs := h.far hp u
theorem bst {w W : World} {g j : Nat} {v : Value} (hg : w.heap.size ≤ g) (h : Below w.heap.size w W) : Below w.heap.size w (W.setCell ⟨g, j, none⟩ v) := bset h hg
theorem BLKq {P : Prop} (p : P := by repeat (first | (with_reducible assumption) | ((with_reducible refine Blk.at ?_); first | (with_reducible rfl) | (simp; done)) | (with_reducible apply Blk.put) | (with_reducible apply Blk.drew) | (with_reducible apply Blk.alloc) | ((with_reducible apply Blk.fr); omega) | ((with_reducible apply Blk.aft); with_reducible assumption))) : P := p
theorem BELq {Q P : Prop} (h : Hd Q) (p : Q → P := by intro h_; repeat (first | (with_reducible exact h_) | (with_reducible exact Below.refl _ _) | (with_reducible apply bdrN) | (with_reducible apply bdr) | (with_reducible apply bal) | ((with_reducible apply bst); omega))) : P := p h.out
theorem BELz {P : Prop} (p : P := by repeat (first | (with_reducible exact Below.refl _ _) | (with_reducible apply bdrN) | (with_reducible apply bdr) | (with_reducible apply bal))) : P := p
theorem Blk.four {a b c d : Value} (h : Blk w g t #[a, b, c, d]) : (w.cell? ⟨g, 0, none⟩ = some a ∧ w.cell? ⟨g, 1, none⟩ = some b ∧ w.cell? ⟨g, 2, none⟩ = some c ∧ w.cell? ⟨g, 3, none⟩ = some d) ∧
    (w.frozen? ⟨g, 0, none⟩ = false ∧ w.frozen? ⟨g, 1, none⟩ = false ∧ w.frozen? ⟨g, 2, none⟩ = false ∧ w.frozen? ⟨g, 3, none⟩ = false) :=
  ⟨⟨h.cell 0, h.cell 1, h.cell 2, h.cell 3⟩, h.free 0, h.free 1, h.free 2, h.free 3⟩
theorem wp_named {P : Program} {c : Code} {Q : Exit → Act → World → Prop} {a : Act} {W : World} (h : ∀ W0, W0 = W → c.wp P Q a W0) : c.wp P Q a W := h W rfl
theorem Blk.same {cs' : Array Value} (h : Blk w g t cs) (e : cs = cs') : Blk w g t cs' := e ▸ h
end
end Go.Proofs.Ythcgeekibomhiaa
namespace Go.Proofs.Ythcgeekibomhiaa
set_option linter.unusedVariables false
set_option linter.unusedSimpArgs false
open Go.RowKit
structure DInv (a b cur q : Nat) (n : Int) : Prop where
  lt : cur < T256
  ql : q < T256
  nb : 0 ≤ n → b * 2 ^ n.toNat < T256
  sum : a = q * b + cur
  small : cur < b * 2 ^ (n + 1).toNat
  low : q % 2 ^ (n + 1).toNat = 0
theorem dinv_start {a b : Nat} (ha : a < T256) (h0 : b ≠ 0) : DInv a b a 0 ((blen a : Int) - (blen b : Int)) := by
  have la := blen_lt a; have lb := blen_le h0; have pb := blen_pos h0; refine ⟨ha, by unfold T256; omega, fun hn => ?_, by omega, ?_, by simp⟩
  · have h1 := blen_lt b
    have e : ((blen a : Int) - (blen b : Int)).toNat + blen b = blen a := by omega
    have h2 : b * 2 ^ ((blen a : Int) - (blen b : Int)).toNat < 2 ^ blen b * 2 ^ ((blen a : Int) - (blen b : Int)).toNat := Nat.mul_lt_mul_of_pos_right h1 (Nat.two_pow_pos _)
    rw [← Nat.pow_add, Nat.add_comm, e] at h2
    have h3 : blen a ≤ 256 := blen_le_iff.2 ha; have h4 : 2 ^ blen a ≤ 2 ^ 256 := Nat.pow_le_pow_right (by decide) h3; rw [T256_eq]
    omega
  · by_cases hn : (blen a : Int) - (blen b : Int) + 1 ≤ 0
    · have e : ((blen a : Int) - (blen b : Int) + 1).toNat = 0 := by omega
      rw [e]; have h4 : 2 ^ blen a ≤ 2 ^ (blen b - 1) := Nat.pow_le_pow_right (by decide) (by omega)
      omega
    · have e : blen a = (blen b - 1) + ((blen a : Int) - (blen b : Int) + 1).toNat := by omega
      have h4 : 2 ^ blen a = 2 ^ (blen b - 1) * 2 ^ ((blen a : Int) - (blen b : Int) + 1).toNat := by rw [← Nat.pow_add, ← e]
      have h5 := Nat.mul_le_mul_right (2 ^ ((blen a : Int) - (blen b : Int) + 1).toNat) lb
      omega
theorem pow_step {n : Int} (h : 0 ≤ n) : 2 ^ (n + 1).toNat = 2 * 2 ^ n.toNat := by
  rw [show (n + 1).toNat = n.toNat + 1 by omega, Nat.pow_succ, Nat.mul_comm]
theorem step_back (n : Int) : n - 1 + 1 = n := by omega
theorem dinv_no {a b cur q : Nat} {n : Int} (h : DInv a b cur q n) (hn : 0 ≤ n) (hlt : cur < b * 2 ^ n.toNat) : DInv a b cur q (n - 1) := by
  refine ⟨h.lt, h.ql, fun hn' => ?_, h.sum, by rw [step_back]; exact hlt, ?_⟩
  · have : 2 ^ (n - 1).toNat ≤ 2 ^ n.toNat := Nat.pow_le_pow_right (by decide) (by omega)
    exact Nat.lt_of_le_of_lt (Nat.mul_le_mul_left _ this) (h.nb hn)
  · rw [step_back]
    have hl := h.low
    rw [pow_step hn] at hl
    exact Nat.mod_eq_zero_of_dvd (Nat.dvd_trans (Nat.dvd_mul_left _ _) (Nat.dvd_of_mod_eq_zero hl))
theorem dinv_yes {a b cur q : Nat} {n : Int} (h : DInv a b cur q n) (h0 : b ≠ 0) (ha : a < T256) (hn : 0 ≤ n) (hle : b * 2 ^ n.toNat ≤ cur) : DInv a b (cur - b * 2 ^ n.toNat) (q + 2 ^ n.toNat) (n - 1) := by
  have hs := h.sum
  have hq : a = (q + 2 ^ n.toNat) * b + (cur - b * 2 ^ n.toNat) := by
    rw [Nat.add_mul, Nat.mul_comm (2 ^ n.toNat)]
    omega
  have hk : q + 2 ^ n.toNat ≤ (q + 2 ^ n.toNat) * b := Nat.le_mul_of_pos_right _ (by omega); refine ⟨by have := h.lt; omega, by omega, fun hn' => ?_, hq, ?_, ?_⟩
  · have : 2 ^ (n - 1).toNat ≤ 2 ^ n.toNat := Nat.pow_le_pow_right (by decide) (by omega)
    exact Nat.lt_of_le_of_lt (Nat.mul_le_mul_left _ this) (h.nb hn)
  · rw [step_back]
    have hc := h.small
    rw [pow_step hn, Nat.mul_left_comm] at hc
    omega
  · rw [step_back]
    have hl := h.low
    rw [pow_step hn] at hl
    exact Nat.mod_eq_zero_of_dvd (Nat.dvd_add (Nat.dvd_trans (Nat.dvd_mul_left _ _) (Nat.dvd_of_mod_eq_zero hl)) (Nat.dvd_refl _))
theorem dinv_end {a b cur q : Nat} {n : Int} (h : DInv a b cur q n) (hn : n < 0) : q = a / b ∧ cur = a % b := by
  have hc := h.small
  rw [show (n + 1).toNat = 0 by omega, Nat.pow_zero, Nat.mul_one] at hc
  have hs := h.sum
  have e : a / b = q := by
    rw [hs, Nat.mul_comm, Nat.mul_add_div (by omega), Nat.div_eq_of_lt hc, Nat.add_zero]
  have em : a % b = cur := by
    rw [hs, Nat.mul_comm, Nat.mul_add_mod, Nat.mod_eq_of_lt hc]
  exact ⟨e.symm, em.symm⟩
theorem bit_bound {b : Nat} {n : Int} (h0 : b ≠ 0) (h : b * 2 ^ n.toNat < T256) : n < 256 := by
  have h1 : 2 ^ n.toNat ≤ b * 2 ^ n.toNat := Nat.le_mul_of_pos_left _ (by omega)
  rw [T256_eq] at h
  have h2 : 2 ^ n.toNat < 2 ^ 256 := by omega
  have := (Nat.pow_lt_pow_iff_right (by omega : 1 < 2)).1 h2
  omega
theorem word_bit (x r : Nat) (h : x % 2 ^ (r + 1) = 0) : x ||| 2 ^ r = x + 2 ^ r := by
  have e : x = (x / 2 ^ (r + 1)) <<< (r + 1) := by
    rw [Nat.shiftLeft_eq]
    have := Nat.div_add_mod' x (2 ^ (r + 1))
    omega
  rw [e]; exact (Nat.shiftLeft_add_eq_or_of_lt (Nat.pow_lt_pow_right (by decide) (by omega)) _).symm
theorem w_bit (x : Int) (r : Nat) (hr : r ≤ 63) (hx : U x) (h : x.toNat % 2 ^ (r + 1) = 0) :
    bits .or .u64 x (IntKind.u64.wrap (2 ^ r)) = ((x.toNat + 2 ^ r : Nat) : Int) ∧ x.toNat + 2 ^ r < 18446744073709551616 := by
  have hp : 2 ^ r < 2 ^ 64 := Nat.pow_lt_pow_right (by decide) (by omega); have hxn : x.toNat < 18446744073709551616 := toNat_lt hx
  have e : IntKind.u64.wrap (2 ^ r) = ((2 ^ r : Nat) : Int) := by
    rw [IntKind.wrap_u64, show ((2 : Int) ^ r) = ((2 ^ r : Nat) : Int) by simp, Int.emod_eq_of_lt (by omega) (by omega)]
  have ex : x = ((x.toNat : Nat) : Int) := by unfold U at hx; omega
  constructor
  · rw [e]
    conv => lhs; rw [ex]
    rw [bits_or_u64_nat _ _ hxn hp, word_bit _ _ h]
  · have : x.toNat ||| 2 ^ r < 2 ^ 64 := Nat.or_lt_two_pow (by omega) (by omega)
    rw [word_bit _ _ h] at this
    omega
theorem low_word (q k r : Nat) (hr : r ≤ 63) (h : q % 2 ^ (k + (r + 1)) = 0) : q / 2 ^ k % 18446744073709551616 % 2 ^ (r + 1) = 0 := by
  have hd : 2 ^ (r + 1) ∣ 18446744073709551616 := Nat.pow_dvd_pow (n := 64) 2 (by omega); rw [Nat.mod_mod_of_dvd _ hd, ← Nat.mod_mul_right_div_self, ← Nat.pow_add, h, Nat.zero_div]
section
variable {q r : Nat}
theorem setbit_0 (hr : r ≤ 63) (hq : q < T256) (low : q % 2 ^ (r + 1) = 0) : Four (q + 2 ^ r) (bits .or .u64 (l0 q) (IntKind.u64.wrap (2 ^ r))) (l1 q) (l2 q) (l3 q) := by
  have f := four hq; have h := low_word q 0 r hr (by rw [Nat.zero_add]; exact low); obtain ⟨e, hl⟩ := w_bit (l0 q) r hr f.u0 (by rw [show (l0 q).toNat = q / 2 ^ 0 % 18446744073709551616 by unfold l0; omega]; exact h); rw [e]; have hs := f.sum; refine ⟨U_nat hl, f.u1, f.u2, f.u3, ?_⟩
  simp only [Int.toNat_natCast]
  omega
theorem setbit_1 (hr : r ≤ 63) (hq : q < T256) (low : q % 2 ^ (64 + r + 1) = 0) : Four (q + 2 ^ (64 + r)) (l0 q) (bits .or .u64 (l1 q) (IntKind.u64.wrap (2 ^ r))) (l2 q) (l3 q) := by
  have f := four hq; have h := low_word q 64 r hr (by rw [← Nat.add_assoc]; exact low); obtain ⟨e, hl⟩ := w_bit (l1 q) r hr f.u1 (by rw [show (l1 q).toNat = q / 2 ^ 64 % 18446744073709551616 by unfold l1; omega]; exact h); rw [e, pow_by1]; have hs := f.sum; refine ⟨f.u0, U_nat hl, f.u2, f.u3, ?_⟩
  simp only [Int.toNat_natCast]
  omega
theorem setbit_2 (hr : r ≤ 63) (hq : q < T256) (low : q % 2 ^ (128 + r + 1) = 0) : Four (q + 2 ^ (128 + r)) (l0 q) (l1 q) (bits .or .u64 (l2 q) (IntKind.u64.wrap (2 ^ r))) (l3 q) := by
  have f := four hq; have h := low_word q 128 r hr (by rw [← Nat.add_assoc]; exact low); obtain ⟨e, hl⟩ := w_bit (l2 q) r hr f.u2 (by rw [show (l2 q).toNat = q / 2 ^ 128 % 18446744073709551616 by unfold l2; omega]; exact h); rw [e, pow_by2]; have hs := f.sum; refine ⟨f.u0, f.u1, U_nat hl, f.u3, ?_⟩
  simp only [Int.toNat_natCast]
  omega
theorem setbit_3 (hr : r ≤ 63) (hq : q < T256) (low : q % 2 ^ (192 + r + 1) = 0) : Four (q + 2 ^ (192 + r)) (l0 q) (l1 q) (l2 q) (bits .or .u64 (l3 q) (IntKind.u64.wrap (2 ^ r))) := by
  have f := four hq; have h := low_word q 192 r hr (by rw [← Nat.add_assoc]; exact low); obtain ⟨e, hl⟩ := w_bit (l3 q) r hr f.u3 (by rw [show (l3 q).toNat = q / 2 ^ 192 % 18446744073709551616 by unfold l3; omega]; exact h); rw [e, pow_by3]; have hs := f.sum; refine ⟨f.u0, f.u1, f.u2, U_nat hl, ?_⟩
  simp only [Int.toNat_natCast]
  omega
end
end Go.Proofs.Ythcgeekibomhiaa
namespace Go.Proofs.Ythcgeekibomhiaa
set_option linter.unusedVariables false
set_option linter.unusedSimpArgs false
open Go.RowKit
set_option maxHeartbeats 2000000 in
set_option maxRecDepth 100000 in
theorem wdivmod (a b : Nat) (ha : a < T256) (hb : b < T256) (h0 : b ≠ 0) (w : World) : Calls Try.prog 64 #[.agg #[.int .u64 (l0 a), .int .u64 (l1 a), .int .u64 (l2 a), .int .u64 (l3 a)], .agg #[.int .u64 (l0 b), .int .u64 (l1 b), .int .u64 (l2 b), .int .u64 (l3 b)]] w fun e w' =>
    e = .returned (.tuple #[.agg #[.int .u64 (l0 (a / b)), .int .u64 (l1 (a / b)), .int .u64 (l2 (a / b)), .int .u64 (l3 (a / b))], .agg #[.int .u64 (l0 (a % b)), .int .u64 (l1 (a % b)), .int .u64 (l2 (a % b)), .int .u64 (l3 (a % b))], .nilIface]) ∧ Below w.heap.size w w' := by
  have hE := fun w => eq_nil (w := w) b hb
  have hz : decide (b = 0) = false := decide_eq_false h0; have la := blen_le_iff.2 (show a < 2 ^ 256 from ha); have lb := blen_le_iff.2 (show b < 2 ^ 256 from hb)
  have ew : IntKind.i64.wrap ((blen a : Int) - (blen b : Int)) = (blen a : Int) - (blen b : Int) := by rw [IntKind.wrap_i64]; omega
  have DS := Hd.mk (show DInv a b a 0 (IntKind.i64.wrap ((blen a : Int) - (blen b : Int))) by rw [ew]; exact dinv_start ha h0); have HA := Hd.mk ha; have HBB := Hd.mk hb; have H0 := Hd.mk h0; clear ha hb h0 la lb ew
  go_enter Try.func64, Try.ntmps64
  go_wp2_with fail
  refine wp_named ?_; intro W0 hW0
  have k0 : Blk W0 w.heap.size 62 #[.int .u64 (l0 a), .int .u64 (l1 a), .int .u64 (l2 a), .int .u64 (l3 a)] := by rw [hW0]; repeat (first | ((with_reducible refine Blk.at ?_); simp; done) | (with_reducible apply Blk.alloc))
  have k1 : Blk W0 (w.heap.size + 1) 62 #[.int .u64 (l0 b), .int .u64 (l1 b), .int .u64 (l2 b), .int .u64 (l3 b)] := by rw [hW0]; repeat (first | ((with_reducible refine Blk.at ?_); simp; done) | (with_reducible apply Blk.alloc))
  have k2 : Blk W0 (w.heap.size + 1 + 1) 62 #[.int .u64 0, .int .u64 0, .int .u64 0, .int .u64 0] := by rw [hW0]; repeat (first | ((with_reducible refine Blk.at ?_); simp; done) | (with_reducible apply Blk.alloc))
  have k3 : Blk W0 (w.heap.size + 1 + 1 + 1) 62 #[.int .u64 0, .int .u64 0, .int .u64 0, .int .u64 0] := by rw [hW0]; repeat (first | ((with_reducible refine Blk.at ?_); simp; done) | (with_reducible apply Blk.alloc))
  have k4 : Blk W0 (w.heap.size + 1 + 1 + 1 + 1) 62 #[.int .u64 0, .int .u64 0, .int .u64 0, .int .u64 0] := by rw [hW0]; repeat (first | ((with_reducible refine Blk.at ?_); simp; done) | (with_reducible apply Blk.alloc))
  have hs0 : w.heap.size + 5 ≤ W0.heap.size := by rw [hW0]; simp
  have hB0 : Below w.heap.size w W0 := by rw [hW0]; exact BELz
  clear hW0 hE hz; have c0 := k0.four.1; have c1 := k1.four.1; have HB := Hd.mk (Below.refl W0.heap.size W0); have K := Hd.mk (And.intro k0 (And.intro k1 (And.intro k2 (And.intro k3 k4)))); have KB := Hd.mk hB0; clear k0 k1 k2 k3 k4 hB0
  go_region_held3 (fun w' => (w'.cell? ⟨w.heap.size, 0, none⟩ = some (.int .u64 (l0 a)) ∧ w'.cell? ⟨w.heap.size, 1, none⟩ = some (.int .u64 (l1 a)) ∧ w'.cell? ⟨w.heap.size, 2, none⟩ = some (.int .u64 (l2 a)) ∧ w'.cell? ⟨w.heap.size, 3, none⟩ = some (.int .u64 (l3 a))) ∧ (w'.cell? ⟨w.heap.size + 1, 0, none⟩ = some (.int .u64 (l0 b)) ∧ w'.cell? ⟨w.heap.size + 1, 1, none⟩ = some (.int .u64 (l1 b)) ∧ w'.cell? ⟨w.heap.size + 1, 2, none⟩ = some (.int .u64 (l2 b)) ∧ w'.cell? ⟨w.heap.size + 1, 3, none⟩ = some (.int .u64 (l3 b)))) (first | (simp [go_sem, World.cell?_alloc_past, *]; done) | (simp (disch := first | omega | (simp; done) | (simp; omega)) [go_sem, World.cell?_alloc_past, *]; done)) (first | (go_at_call 78; refine (wlen _ (by first | exact HA.out | exact HBB.out) _).mono ?_; rintro e w1 ⟨rfl, hb⟩; obtain ⟨hc, hf⟩ := bcell hb; have hz := hb.size; (try simp at hz); (try (have hz2 := Nat.lt_of_succ_le hz)); have n0 := Hd.mk (bthen (by repeat (first | (with_reducible exact HB.out) | (with_reducible apply bdrN) | (with_reducible apply bdr) | (with_reducible apply bal))) hb); clear HB; have HB := n0; clear n0))
  go_wp2_with fail
  refine wp_named ?_; intro W1 hW1
  have hB1 : Below W0.heap.size W0 W1 := by rw [hW1]; exact BELq HB
  clear hW1
  go_loopw [8] (fun v8 wr => ∃ (n : Int) (cur q : Nat), v8 = .int .i64 n ∧ Hd (DInv a b cur q n) ∧ Hd (Blk wr (w.heap.size) 62 #[.int .u64 (l0 cur), .int .u64 (l1 cur), .int .u64 (l2 cur), .int .u64 (l3 cur)] ∧ Blk wr (w.heap.size + 1) 62 #[.int .u64 (l0 b), .int .u64 (l1 b), .int .u64 (l2 b), .int .u64 (l3 b)] ∧ Blk wr (w.heap.size + 1 + 1) 62 #[.int .u64 0, .int .u64 0, .int .u64 0, .int .u64 0] ∧ Blk wr (w.heap.size + 1 + 1 + 1) 62 #[.int .u64 0, .int .u64 0, .int .u64 0, .int .u64 0] ∧ Blk wr (w.heap.size + 1 + 1 + 1 + 1) 62 #[.int .u64 (l0 q), .int .u64 (l1 q), .int .u64 (l2 q), .int .u64 (l3 q)]) ∧ Hd (Below w.heap.size w wr)) (fun v8 _ => (intOf v8 + 1).toNat)
  case atStart =>
    obtain ⟨k0, k1, k2, k3, k4⟩ := K.out; refine ⟨_, a, 0, rfl, DS, ⟨k0.after hB1, k1.after hB1, k2.after hB1, k3.after hB1, ?_⟩, ⟨bthen KB.out hB1⟩⟩; rw [l_nil.1, l_nil.2.1, l_nil.2.2.1, l_nil.2.2.2]; exact k4.after hB1
  case round =>
    obtain ⟨n, cur, q, rfl, DI, K, KB⟩ := hrel; obtain ⟨k0, k1, k2, k3, k4⟩ := K.out; have c0 := k0.four.1; have c1 := k1.four.1
    have hs0 : w.heap.size + 5 ≤ wr.heap.size := by have := k4.lt; omega
    have HB := Hd.mk (Below.refl wr.heap.size wr)
    by_cases hn : 0 ≤ n
    · have hn2 : n ≤ 255 := by have := bit_bound H0.out (DI.out.nb hn); omega
      clear k0 k1 k2 k3 k4
      go_upto_region 7 with (fail)
      go_cut [9, 10] (fun v9 v10 wc => ∃ (g s : Nat) (o : Bool), v9 = .pointer (some ⟨g, 0, none⟩) ∧ v10 = .bool o ∧ Hd (s = (cur + T256 - b * 2 ^ n.toNat % T256) % T256 ∧ o = decide (cur < b * 2 ^ n.toNat % T256)) ∧ Hd (Blk wc g 62 #[.int .u64 (l0 s), .int .u64 (l1 s), .int .u64 (l2 s), .int .u64 (l3 s)]) ∧ Hd (wr.heap.size ≤ g) ∧ Hd (Below wr.heap.size wr wc))
      case first =>
        go_region_held3 (fun w' => (w'.cell? ⟨w.heap.size, 0, none⟩ = some (.int .u64 (l0 cur)) ∧ w'.cell? ⟨w.heap.size, 1, none⟩ = some (.int .u64 (l1 cur)) ∧ w'.cell? ⟨w.heap.size, 2, none⟩ = some (.int .u64 (l2 cur)) ∧ w'.cell? ⟨w.heap.size, 3, none⟩ = some (.int .u64 (l3 cur))) ∧ (w'.cell? ⟨w.heap.size + 1, 0, none⟩ = some (.int .u64 (l0 b)) ∧ w'.cell? ⟨w.heap.size + 1, 1, none⟩ = some (.int .u64 (l1 b)) ∧ w'.cell? ⟨w.heap.size + 1, 2, none⟩ = some (.int .u64 (l2 b)) ∧ w'.cell? ⟨w.heap.size + 1, 3, none⟩ = some (.int .u64 (l3 b)))) (first | (simp [go_sem, World.cell?_alloc_past, *]; done) | (simp (disch := first | omega | (simp; done) | (simp; omega)) [go_sem, World.cell?_alloc_past, *]; done)) (first | (go_at_call 65; refine (wshl b HBB.out n _).mono ?_; rintro e w1 ⟨m, hm, rfl, hb⟩; obtain ⟨hc, hf⟩ := bcell hb; have hz := hb.size; (try simp at hz); (try (have hz2 := Nat.lt_of_succ_le hz)); have n0 := Hd.mk (bthen (by repeat (first | (with_reducible exact HB.out) | (with_reducible apply bdrN) | (with_reducible apply bdr) | (with_reducible apply bal))) hb); clear HB; have HB := n0; clear n0) | (go_at_call 96; refine (wsub cur m DI.out.lt (by rw [hm.out]; exact Nat.mod_lt _ (by decide)) _).mono ?_; rintro e w1 ⟨s, o, hs, rfl, hb⟩; obtain ⟨hc, hf⟩ := bcell hb; have hz := hb.size; (try simp at hz); (try (have hz2 := Nat.lt_of_succ_le hz)); have n0 := Hd.mk (bthen (by repeat (first | (with_reducible exact HB.out) | (with_reducible apply bdrN) | (with_reducible apply bdr) | (with_reducible apply bal))) hb); clear HB; have HB := n0; clear n0))
        all_goals
          go_wp2_with fail
          go_meet
          case rel =>
            refine ⟨_, s, o, rfl, rfl, ⟨by rw [← hm.out]; exact hs.out⟩, ⟨?_⟩, ⟨?_⟩, ⟨?_⟩⟩
            · apply Blk.same
              · exact BLKq
              · rfl
            · omega
            · exact BELq HB
      case rest =>
        obtain ⟨g, s, o, rfl, rfl, hs, kL, hg, HBc⟩ := hcut; obtain ⟨k0, k1, k2, k3, k4⟩ := K.out; have k0 := k0.after HBc.out; have k1 := k1.after HBc.out; have k2 := k2.after HBc.out; have k3 := k3.after HBc.out; have k4 := k4.after HBc.out; have kl := kL.out; have HG := hg.out; clear c0 c1 K HB kL hg; have c0 := k0.four.1; have f0 := k0.four.2; have c4 := k4.four.1; have f4 := k4.four.2; have cl := kl.four.1; have hs1 := HBc.out.size; have NB := DI.out.nb hn; have EM : b * 2 ^ n.toNat % T256 = b * 2 ^ n.toNat := Nat.mod_eq_of_lt NB
        have HS : Hd (s = (cur + T256 - b * 2 ^ n.toNat) % T256 ∧ o = decide (cur < b * 2 ^ n.toNat)) := by rw [EM] at hs; exact hs
        have KB2 := Hd.mk (bthen KB.out HBc.out); clear hs NB EM
        cases o with
        | true =>
          have hlt : cur < b * 2 ^ n.toNat := of_decide_eq_true HS.out.2.symm; have DN := Hd.mk (dinv_no DI.out hn hlt); clear hlt
          go_wp2_with fail
          go_roundw
          case rel => exact ⟨n - 1, cur, q, rfl, DN, ⟨k0, k1, k2, k3, k4⟩, KB2⟩
          case measure => simp [intOf]; omega
        | false =>
          have hle : b * 2 ^ n.toNat ≤ cur := by have := of_decide_eq_false HS.out.2.symm; omega
          have es : s = cur - b * 2 ^ n.toNat := by
            rw [HS.out.1]
            have := DI.out.lt
            rw [show cur + T256 - b * 2 ^ n.toNat = (cur - b * 2 ^ n.toNat) + T256 by omega, Nat.add_mod_right, Nat.mod_eq_of_lt (by omega)]
          have DN := Hd.mk (show DInv a b s (q + 2 ^ n.toNat) (n - 1) by rw [es]; exact dinv_yes DI.out H0.out HA.out hn hle); clear hle es
          have hsp : (n / 64 = 0 ∨ n / 64 = 1 ∨ n / 64 = 2 ∨ n / 64 = 3) := by omega
          rcases hsp with hq | hq | hq | hq
          · have hrr : (n % 64).toNat ≤ 63 := by omega
            have ern : n.toNat = (n % 64).toNat := by omega
            have low := DI.out.low
            rw [show (n + 1).toNat = (n % 64).toNat + 1 by omega] at low
            have SB := Hd.mk (setbit_0 hrr DI.out.ql low)
            rw [show q + 2 ^ (n % 64).toNat = q + 2 ^ n.toNat by rw [ern]] at SB
            clear hrr ern low
            go_wp2_with fail
            go_region
            go_wp2_with fail
            go_roundw
            case measure => simp [intOf]; omega
            case rel =>
              obtain ⟨e0, e1, e2, e3⟩ := SB.out.of; refine ⟨n - 1, s, q + 2 ^ n.toNat, rfl, DN, ⟨?_, ?_, ?_, ?_, ?_⟩, ⟨?_⟩⟩
              · apply Blk.same
                · exact BLKq
                · rfl
              · exact BLKq
              · exact BLKq
              · exact BLKq
              · rw [← e0, ← e1, ← e2, ← e3]
                apply Blk.same
                · exact BLKq
                · rfl
              · have HB := KB2
                exact BELq HB
          · have hrr : (n % 64).toNat ≤ 63 := by omega
            have ern : n.toNat = 64 + (n % 64).toNat := by omega
            have low := DI.out.low
            rw [show (n + 1).toNat = 64 + (n % 64).toNat + 1 by omega] at low
            have SB := Hd.mk (setbit_1 hrr DI.out.ql low)
            rw [← ern] at SB
            clear hrr ern low
            go_wp2_with fail
            go_region
            go_wp2_with fail
            go_roundw
            case measure => simp [intOf]; omega
            case rel =>
              obtain ⟨e0, e1, e2, e3⟩ := SB.out.of; refine ⟨n - 1, s, q + 2 ^ n.toNat, rfl, DN, ⟨?_, ?_, ?_, ?_, ?_⟩, ⟨?_⟩⟩
              · apply Blk.same
                · exact BLKq
                · rfl
              · exact BLKq
              · exact BLKq
              · exact BLKq
              · rw [← e0, ← e1, ← e2, ← e3]
                apply Blk.same
                · exact BLKq
                · rfl
              · have HB := KB2
                exact BELq HB
          · have hrr : (n % 64).toNat ≤ 63 := by omega
            have ern : n.toNat = 128 + (n % 64).toNat := by omega
            have low := DI.out.low
            rw [show (n + 1).toNat = 128 + (n % 64).toNat + 1 by omega] at low
            have SB := Hd.mk (setbit_2 hrr DI.out.ql low)
            rw [← ern] at SB
            clear hrr ern low
            go_wp2_with fail
            go_region
            go_wp2_with fail
            go_roundw
            case measure => simp [intOf]; omega
            case rel =>
              obtain ⟨e0, e1, e2, e3⟩ := SB.out.of; refine ⟨n - 1, s, q + 2 ^ n.toNat, rfl, DN, ⟨?_, ?_, ?_, ?_, ?_⟩, ⟨?_⟩⟩
              · apply Blk.same
                · exact BLKq
                · rfl
              · exact BLKq
              · exact BLKq
              · exact BLKq
              · rw [← e0, ← e1, ← e2, ← e3]
                apply Blk.same
                · exact BLKq
                · rfl
              · have HB := KB2
                exact BELq HB
          · have hrr : (n % 64).toNat ≤ 63 := by omega
            have ern : n.toNat = 192 + (n % 64).toNat := by omega
            have low := DI.out.low
            rw [show (n + 1).toNat = 192 + (n % 64).toNat + 1 by omega] at low
            have SB := Hd.mk (setbit_3 hrr DI.out.ql low)
            rw [← ern] at SB
            clear hrr ern low
            go_wp2_with fail
            go_region
            go_wp2_with fail
            go_roundw
            case measure => simp [intOf]; omega
            case rel =>
              obtain ⟨e0, e1, e2, e3⟩ := SB.out.of; refine ⟨n - 1, s, q + 2 ^ n.toNat, rfl, DN, ⟨?_, ?_, ?_, ?_, ?_⟩, ⟨?_⟩⟩
              · apply Blk.same
                · exact BLKq
                · rfl
              · exact BLKq
              · exact BLKq
              · exact BLKq
              · rw [← e0, ← e1, ← e2, ← e3]
                apply Blk.same
                · exact BLKq
                · rfl
              · have HB := KB2
                exact BELq HB
    · have hn1 : n < 0 := by omega
      obtain ⟨e1, e2⟩ := dinv_end DI.out hn1; have f2 := k2.four.2; have f3 := k3.four.2; have c2 := k2.four.1; have c3 := k3.four.1; have c4 := k4.four.1; have KB1 := KB.out; have E := Hd.mk (And.intro e1 e2); clear k0 k1 k2 k3 k4 e1 e2 K
      go_wp2_with fail
      go_region_held3 (fun w' => (w'.cell? ⟨w.heap.size, 0, none⟩ = some (.int .u64 (l0 cur)) ∧ w'.cell? ⟨w.heap.size, 1, none⟩ = some (.int .u64 (l1 cur)) ∧ w'.cell? ⟨w.heap.size, 2, none⟩ = some (.int .u64 (l2 cur)) ∧ w'.cell? ⟨w.heap.size, 3, none⟩ = some (.int .u64 (l3 cur))) ∧ (w'.cell? ⟨w.heap.size + 1 + 1 + 1 + 1, 0, none⟩ = some (.int .u64 (l0 q)) ∧ w'.cell? ⟨w.heap.size + 1 + 1 + 1 + 1, 1, none⟩ = some (.int .u64 (l1 q)) ∧ w'.cell? ⟨w.heap.size + 1 + 1 + 1 + 1, 2, none⟩ = some (.int .u64 (l2 q)) ∧ w'.cell? ⟨w.heap.size + 1 + 1 + 1 + 1, 3, none⟩ = some (.int .u64 (l3 q)))) (first | (simp [go_sem, World.cell?_alloc_past, *]; done) | (simp (disch := first | omega | (simp; done) | (simp; omega)) [go_sem, World.cell?_alloc_past, *]; done)) (first | (go_at_call 0; skip))
      go_wp2_with fail
      rw [← E.out.1, ← E.out.2]; refine bodyPost_ret (v := .tuple #[.agg #[.int .u64 (l0 q), .int .u64 (l1 q), .int .u64 (l2 q), .int .u64 (l3 q)], .agg #[.int .u64 (l0 cur), .int .u64 (l1 cur), .int .u64 (l2 cur), .int .u64 (l3 cur)], .nilIface]) (by simp [results, Try.results64, go_sem, *]) rfl ⟨rfl, ?_⟩; have HB := KB; exact BELq HB
end Go.Proofs.Ythcgeekibomhiaa
namespace Go.Proofs.Ythcgeekibomhiaa
set_option linter.unusedVariables false
set_option linter.unusedSimpArgs false
open Go.RowKit
structure SInv (a rest root : Nat) (n : Int) : Prop where
  lt : rest < T256
  ql : root < 340282366920938463463374607431768211456
  nb : n ≤ 127
  n0 : n = 127 → root = 0
  sum : a = root * root + rest
  small : a < (root + 2 ^ (n + 1).toNat) * (root + 2 ^ (n + 1).toNat)
  low : root % 2 ^ (n + 1).toNat = 0
end Go.Proofs.Ythcgeekibomhiaa
namespace Go.Proofs.Ythcgeekibomhiaa
set_option linter.unusedVariables false
set_option linter.unusedSimpArgs false
open Go.RowKit
theorem maskN (a : Nat) (ha : a < 18446744073709551616) : bits .and .u64 (a : Int) 4294967295 = ((a % 4294967296 : Nat) : Int) := by
  have h := bits_and_u64_nat a 4294967295 ha (by omega); have e : a &&& 4294967295 = a % 4294967296 := Nat.and_two_pow_sub_one_eq_mod a 32
  rw [e] at h
  exact h
theorem divN (a : Nat) : (a : Int) / 4294967296 = ((a / 4294967296 : Nat) : Int) := by omega
theorem mulN (a b : Nat) : (a : Int) * (b : Int) = ((a * b : Nat) : Int) := (Int.natCast_mul a b).symm
theorem addN (a b : Nat) : (a : Int) + (b : Int) = ((a + b : Nat) : Int) := (Int.natCast_add a b).symm
theorem wrapN (a : Nat) (ha : a < 18446744073709551616) : IntKind.u64.wrap (a : Int) = (a : Int) := by rw [IntKind.wrap_u64]; omega
theorem wrapM (a : Nat) : IntKind.u64.wrap (a : Int) = ((a % 18446744073709551616 : Nat) : Int) := by rw [IntKind.wrap_u64]; omega
set_option maxHeartbeats 1000000 in
theorem mul64 (x y : Nat) (hx : x < 18446744073709551616) (hy : y < 18446744073709551616) (w : World) :
    Calls Try.prog 104 #[.int .u64 x, .int .u64 y] w fun e w' => e = .returned (.tuple #[.int .u64 ((x * y / 18446744073709551616 : Nat) : Int), .int .u64 ((x * y % 18446744073709551616 : Nat) : Int)]) ∧ w' = w := by
  obtain ⟨bd, bt, bw, hhi⟩ := Lib.mul64_hi x y hx hy; have ba := Lib.half_mul_le (a := x / 4294967296) (b := y / 4294967296) (by omega) (by omega); have bb := Lib.half_mul_le (a := x / 4294967296) (b := y % 4294967296) (by omega) (by omega); have bc := Lib.half_mul_le (a := x % 4294967296) (b := y / 4294967296) (by omega) (by omega)
  have ba' : x / 4294967296 * (y / 4294967296) < 18446744073709551616 := by omega
  have bb' : x / 4294967296 * (y % 4294967296) < 18446744073709551616 := by omega
  have bc' : x % 4294967296 * (y / 4294967296) < 18446744073709551616 := by omega
  have bh1 : x / 4294967296 * (y / 4294967296) + (x / 4294967296 * (y % 4294967296) + x % 4294967296 * (y % 4294967296) / 4294967296) / 4294967296 < 18446744073709551616 := by omega
  have bh : x / 4294967296 * (y / 4294967296) + (x / 4294967296 * (y % 4294967296) + x % 4294967296 * (y % 4294967296) / 4294967296) / 4294967296 + ((x / 4294967296 * (y % 4294967296) + x % 4294967296 * (y % 4294967296) / 4294967296) % 4294967296 + x % 4294967296 * (y / 4294967296)) / 4294967296 < 18446744073709551616 := by omega
  go_enter Try.func104, Try.ntmps104
  go_wp2
  simp only [maskN x hx, maskN y hy, divN, mulN, addN, wrapN _ bd, wrapN _ bb', wrapN _ bt, maskN _ bt, wrapN _ bc', wrapN _ bw, wrapN _ ba', wrapN _ bh1, wrapN _ bh, wrapM (x * y)]
  rw [hhi]
  go_ret2
  exact ⟨rfl, rfl⟩
set_option maxHeartbeats 4000000 in
set_option maxRecDepth 100000 in
theorem wmul_walk (x y h l : Int) (hx : Hd (U x)) (hy : Hd (U y)) (hh : Hd (U h)) (hl : Hd (U l)) (w : World)
    (m1 : Hd (∀ w, Calls Try.prog 104 #[.int .u64 x, .int .u64 y] w fun e w' => e = .returned (.tuple #[.int .u64 h, .int .u64 l]) ∧ w' = w))
    (m2 : Hd (∀ w, Calls Try.prog 104 #[.int .u64 x, .int .u64 0] w fun e w' => e = .returned (.tuple #[.int .u64 0, .int .u64 0]) ∧ w' = w))
    (m3 : Hd (∀ w, Calls Try.prog 104 #[.int .u64 0, .int .u64 y] w fun e w' => e = .returned (.tuple #[.int .u64 0, .int .u64 0]) ∧ w' = w))
    (m4 : Hd (∀ w, Calls Try.prog 104 #[.int .u64 0, .int .u64 0] w fun e w' => e = .returned (.tuple #[.int .u64 0, .int .u64 0]) ∧ w' = w))
    (a1 : ∀ w, (callFunc 105 #[.int .u64 l, .int .u64 0, .int .u64 0]).run Try.prog w = .ok (.value (.tuple #[.int .u64 l, .int .u64 0])) w)
    (a2 : ∀ w, (callFunc 105 #[.int .u64 0, .int .u64 l, .int .u64 0]).run Try.prog w = .ok (.value (.tuple #[.int .u64 l, .int .u64 0])) w)
    (a3 : ∀ w, (callFunc 105 #[.int .u64 h, .int .u64 0, .int .u64 0]).run Try.prog w = .ok (.value (.tuple #[.int .u64 h, .int .u64 0])) w)
    (a4 : ∀ w, (callFunc 105 #[.int .u64 0, .int .u64 h, .int .u64 0]).run Try.prog w = .ok (.value (.tuple #[.int .u64 h, .int .u64 0])) w)
    (a5 : ∀ w, (callFunc 105 #[.int .u64 0, .int .u64 0, .int .u64 0]).run Try.prog w = .ok (.value (.tuple #[.int .u64 0, .int .u64 0])) w)
    (w1 : IntKind.u64.wrap h = h) :
    Calls Try.prog 83 #[.agg #[.int .u64 x, .int .u64 0, .int .u64 0, .int .u64 0], .agg #[.int .u64 y, .int .u64 0, .int .u64 0, .int .u64 0]] w fun e w' =>
      e = .returned (.tuple #[.agg #[.int .u64 l, .int .u64 h, .int .u64 0, .int .u64 0], .agg #[.int .u64 0, .int .u64 0, .int .u64 0, .int .u64 0]]) ∧ Below w.heap.size w w' := by
  have i0 : ∀ (a b c d : Int) (w : World), (Instr.index 62 (.agg #[.int .u64 a, .int .u64 b, .int .u64 c, .int .u64 d]) (.int .i64 0)).run Try.prog w = .ok (.int .u64 a) w := fun _ _ _ _ _ => by kernel_rfl
  have i1 : ∀ (a b c d : Int) (w : World), (Instr.index 62 (.agg #[.int .u64 a, .int .u64 b, .int .u64 c, .int .u64 d]) (.int .i64 1)).run Try.prog w = .ok (.int .u64 b) w := fun _ _ _ _ _ => by kernel_rfl
  have i2 : ∀ (a b c d : Int) (w : World), (Instr.index 62 (.agg #[.int .u64 a, .int .u64 b, .int .u64 c, .int .u64 d]) (.int .i64 2)).run Try.prog w = .ok (.int .u64 c) w := fun _ _ _ _ _ => by kernel_rfl
  have i3 : ∀ (a b c d : Int) (w : World), (Instr.index 62 (.agg #[.int .u64 a, .int .u64 b, .int .u64 c, .int .u64 d]) (.int .i64 3)).run Try.prog w = .ok (.int .u64 d) w := fun _ _ _ _ _ => by kernel_rfl
  go_enter Try.func83, Try.ntmps83
  go_wp2_with fail
  refine wp_loop_rounds 5 ?_
  rw [rounds_succ]; go_wp2_with fail
  refine wp_loop_rounds 5 ?_
  rw [rounds_succ]; go_wp2_with (go_at_call 104; refine (m1.out _).mono ?_; rintro e w' ⟨rfl, rfl⟩)
  rw [rounds_succ]; go_wp2_with (go_at_call 104; refine (m2.out _).mono ?_; rintro e w' ⟨rfl, rfl⟩)
  rw [rounds_succ]; go_wp2_with (go_at_call 104; refine (m2.out _).mono ?_; rintro e w' ⟨rfl, rfl⟩)
  rw [rounds_succ]; go_wp2_with (go_at_call 104; refine (m2.out _).mono ?_; rintro e w' ⟨rfl, rfl⟩)
  rw [rounds_succ]; go_wp2_with fail
  rw [rounds_succ]; go_wp2_with fail
  refine wp_loop_rounds 5 ?_
  rw [rounds_succ]; go_wp2_with (go_at_call 104; refine (m3.out _).mono ?_; rintro e w' ⟨rfl, rfl⟩)
  rw [rounds_succ]; go_wp2_with (go_at_call 104; refine (m4.out _).mono ?_; rintro e w' ⟨rfl, rfl⟩)
  rw [rounds_succ]; go_wp2_with (go_at_call 104; refine (m4.out _).mono ?_; rintro e w' ⟨rfl, rfl⟩)
  rw [rounds_succ]; go_wp2_with (go_at_call 104; refine (m4.out _).mono ?_; rintro e w' ⟨rfl, rfl⟩)
  rw [rounds_succ]; go_wp2_with fail
  rw [rounds_succ]; go_wp2_with fail
  refine wp_loop_rounds 5 ?_
  rw [rounds_succ]; go_wp2_with (go_at_call 104; refine (m3.out _).mono ?_; rintro e w' ⟨rfl, rfl⟩)
  rw [rounds_succ]; go_wp2_with (go_at_call 104; refine (m4.out _).mono ?_; rintro e w' ⟨rfl, rfl⟩)
  rw [rounds_succ]; go_wp2_with (go_at_call 104; refine (m4.out _).mono ?_; rintro e w' ⟨rfl, rfl⟩)
  rw [rounds_succ]; go_wp2_with (go_at_call 104; refine (m4.out _).mono ?_; rintro e w' ⟨rfl, rfl⟩)
  rw [rounds_succ]; go_wp2_with fail
  rw [rounds_succ]; go_wp2_with fail
  refine wp_loop_rounds 5 ?_
  rw [rounds_succ]; go_wp2_with (go_at_call 104; refine (m3.out _).mono ?_; rintro e w' ⟨rfl, rfl⟩)
  rw [rounds_succ]; go_wp2_with (go_at_call 104; refine (m4.out _).mono ?_; rintro e w' ⟨rfl, rfl⟩)
  rw [rounds_succ]; go_wp2_with (go_at_call 104; refine (m4.out _).mono ?_; rintro e w' ⟨rfl, rfl⟩)
  rw [rounds_succ]; go_wp2_with (go_at_call 104; refine (m4.out _).mono ?_; rintro e w' ⟨rfl, rfl⟩)
  rw [rounds_succ]; go_wp2_with fail
  rw [rounds_succ]; go_wp2_with fail
  have s0 : ∀ (g c : Nat) (w : World), (Instr.arrayAt 62 (.slice (some ⟨g, 0, none⟩) 4 c)).run Try.prog w = .ok (.pointer (some ⟨g, 0, none⟩)) w := fun _ _ _ => by kernel_rfl
  have s1 : ∀ (g c : Nat) (w : World), (Instr.arrayAt 62 (.slice (some ⟨g, 4, none⟩) 4 c)).run Try.prog w = .ok (.pointer (some ⟨g, 4, none⟩)) w := fun _ _ _ => by kernel_rfl
  go_region_held3 (fun w' => w'.cell? ⟨w.heap.size + 1 + 1 + 1 + 1, 0, none⟩ = some (.int .u64 l) ∧ w'.cell? ⟨w.heap.size + 1 + 1 + 1 + 1, 1, none⟩ = some (.int .u64 h) ∧ w'.cell? ⟨w.heap.size + 1 + 1 + 1 + 1, 2, none⟩ = some (.int .u64 0) ∧ w'.cell? ⟨w.heap.size + 1 + 1 + 1 + 1, 3, none⟩ = some (.int .u64 0) ∧ w'.cell? ⟨w.heap.size + 1 + 1 + 1 + 1, 4, none⟩ = some (.int .u64 0) ∧ w'.cell? ⟨w.heap.size + 1 + 1 + 1 + 1, 5, none⟩ = some (.int .u64 0) ∧ w'.cell? ⟨w.heap.size + 1 + 1 + 1 + 1, 6, none⟩ = some (.int .u64 0) ∧ w'.cell? ⟨w.heap.size + 1 + 1 + 1 + 1, 7, none⟩ = some (.int .u64 0)) (first | (simp [go_sem, World.cell?_alloc_past, *]; done) | (simp (disch := first | omega | (simp; done) | (simp; omega)) [go_sem, World.cell?_alloc_past, *]; done)) (first | (go_at_call 0; skip))
  all_goals
    go_wp2_with fail
    exact bodyPost_ret (v := .tuple #[.agg #[.int .u64 l, .int .u64 h, .int .u64 0, .int .u64 0], .agg #[.int .u64 0, .int .u64 0, .int .u64 0, .int .u64 0]]) (by simp [results, Try.results83, go_sem]) rfl ⟨rfl, BELz⟩
theorem wmul (x y : Nat) (hx : x < 18446744073709551616) (hy : y < 18446744073709551616) (w : World) : Calls Try.prog 83 #[.agg #[.int .u64 (l0 x), .int .u64 (l1 x), .int .u64 (l2 x), .int .u64 (l3 x)], .agg #[.int .u64 (l0 y), .int .u64 (l1 y), .int .u64 (l2 y), .int .u64 (l3 y)]] w fun e w' =>
    e = .returned (.tuple #[.agg #[.int .u64 (l0 (x * y)), .int .u64 (l1 (x * y)), .int .u64 (l2 (x * y)), .int .u64 (l3 (x * y))], .agg #[.int .u64 (l0 0), .int .u64 (l1 0), .int .u64 (l2 0), .int .u64 (l3 0)]]) ∧ Below w.heap.size w w' := by
  have hp : x * y ≤ 18446744073709551615 * 18446744073709551615 := Nat.mul_le_mul (by omega) (by omega); have e1 : l0 (x * y) = ((x * y % 18446744073709551616 : Nat) : Int) := rfl
  have e2 : l1 (x * y) = ((x * y / 18446744073709551616 : Nat) : Int) := by unfold l1; generalize x * y = p at *; omega
  have e3 : l2 (x * y) = 0 := by unfold l2; generalize x * y = p at *; omega
  have e4 : l3 (x * y) = 0 := by unfold l3; generalize x * y = p at *; omega
  rw [(l_small hx).1, (l_small hx).2.1, (l_small hx).2.2.1, (l_small hx).2.2.2, (l_small hy).1, (l_small hy).2.1, (l_small hy).2.2.1, (l_small hy).2.2.2, e1, e2, e3, e4, l_nil.1, l_nil.2.1, l_nil.2.2.1, l_nil.2.2.2]; have hl : x * y % 18446744073709551616 < 18446744073709551616 := Nat.mod_lt _ (by decide)
  have hh : x * y / 18446744073709551616 < 18446744073709551616 := by generalize x * y = p at *; omega
  have ad : ∀ (l : Nat) (w : World), l < 18446744073709551616 → (callFunc 105 #[.int .u64 (l : Int), .int .u64 0, .int .u64 0]).run Try.prog w = .ok (.value (.tuple #[.int .u64 (l : Int), .int .u64 0])) w := by
    intro l w hl; obtain ⟨s, c', _, _, _, hs, hr⟩ := adc (l : Int) 0 0 (U_nat hl) U_zero (by omega) (by omega)
    have h1 : s = (l : Int) ∧ c' = 0 := by unfold U at *; omega
    rw [h1.1, h1.2] at hr
    exact hr w
  have ad' : ∀ (l : Nat) (w : World), l < 18446744073709551616 → (callFunc 105 #[.int .u64 0, .int .u64 (l : Int), .int .u64 0]).run Try.prog w = .ok (.value (.tuple #[.int .u64 (l : Int), .int .u64 0])) w := by
    intro l w hl; obtain ⟨s, c', _, _, _, hs, hr⟩ := adc 0 (l : Int) 0 U_zero (U_nat hl) (by omega) (by omega)
    have h1 : s = (l : Int) ∧ c' = 0 := by unfold U at *; omega
    rw [h1.1, h1.2] at hr
    exact hr w
  have z := mul64 x 0 hx (by omega); have z' := mul64 0 y (by omega) hy; have z'' := mul64 0 0 (by omega) (by omega)
  simp only [Nat.mul_zero, Nat.zero_mul, Nat.zero_div, Nat.zero_mod, Int.ofNat_eq_natCast, Int.natCast_zero] at z z' z''
  exact wmul_walk x y _ _ ⟨U_nat hx⟩ ⟨U_nat hy⟩ ⟨U_nat hh⟩ ⟨U_nat hl⟩ w ⟨mul64 x y hx hy⟩ ⟨z⟩ ⟨z'⟩ ⟨z''⟩ (fun w => ad _ w hl) (fun w => ad' _ w hl) (fun w => ad _ w hh) (fun w => ad' _ w hh) (fun w => ad 0 w (by omega)) (wrapN _ hh)
end Go.Proofs.Ythcgeekibomhiaa
