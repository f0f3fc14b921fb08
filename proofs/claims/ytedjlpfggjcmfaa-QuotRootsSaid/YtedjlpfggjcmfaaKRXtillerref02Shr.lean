import Derived.Test.YtedjlpfggjcmfaaKR4
namespace Go.Proofs.Ytedjlpfggjcmfaa.X
open Go.RowKit Go.Proofs.YtedjlpfggjcmfaaW.PrintWords Go.Proofs.YtedjlpfggjcmfaaW.PrintLast Go.Proofs.YtedjlpfggjcmfaaW.PrintMore
attribute [local go_sem] max2_int min2_int max_two min_two max_three min_three max_four min_four   
set_option linter.unusedVariables false
set_option linter.unusedSimpArgs false
mutual
def r2_Shr.j1 : Nat → List Int → Int → Bool → Int → Option (List Int × Bool)
 | 0, _, _, _, _ => none
 | k + 1, x0, x1, x6, x7 => if x7 ≥ (x0.length : Int) then (some (([] : List Int), x6)) else (r2_Shr.l1 k x0 x1 x6 x7 1 0)
def r2_Shr.l1 : Nat → List Int → Int → Bool → Int → Int → Int → Option (List Int × Bool)
 | 0, _, _, _, _, _, _ => none
 | k + 1, x0, x1, x6, x7, x9, x10 => if x10 < (Int.tmod x1 16) then (r2_Shr.l1 k x0 x1 x6 x7 ((2 * x9) % 4294967296) (wrap64 (x10 + 1))) else (if x6 = true then (r2_Shr.j3 k x0 true x7 x9) else (if 0 ≤ x7 then (if x7 < (x0.length : Int) then (if x9 = 0 then (none) else (r2_Shr.j3 k x0 ((Int.tmod (rd x0 x7) x9) != 0) x7 x9)) else (none)) else (none)))
def r2_Shr.j3 : Nat → List Int → Bool → Int → Int → Option (List Int × Bool)
 | 0, _, _, _, _ => none
 | k + 1, x0, x6, x7, x9 => r2_Shr.l2 k x0 x6 x9 ([] : List Int) x7
def r2_Shr.l2 : Nat → List Int → Bool → Int → List Int → Int → Option (List Int × Bool)
 | 0, _, _, _, _, _ => none
 | k + 1, x0, x6, x9, x11, x12 => if x12 < (x0.length : Int) then (if 0 ≤ x12 then (if x9 = 0 then (none) else ((r2_at.f x0 (wrap64 (x12 + 1))).bind fun t249 => (if x11.length < 35184372088832 then (r2_Shr.l2 k x0 x6 x9 (x11 ++ [IntKind.u32.wrap ((IntKind.u32.wrap (Int.tdiv (rd x0 x12) x9)) + (IntKind.u32.wrap ((Int.tmod t249 x9) * (IntKind.u32.wrap (Int.tdiv (65536 : Int) x9)))))]) (wrap64 (x12 + 1))) else (none)))) else (none)) else ((r2_trim.f k x11).bind fun t253 => (some (t253, x6)))
def r2_Shr.l0 : Nat → List Int → Int → Bool → Int → Int → Option (List Int × Bool)
 | 0, _, _, _, _, _ => none
 | k + 1, x0, x1, x6, x7, x8 => if x8 < x7 then (if x8 < (x0.length : Int) then (if x6 = true then (r2_Shr.l0 k x0 x1 true x7 (wrap64 (x8 + 1))) else (if 0 ≤ x8 then (r2_Shr.l0 k x0 x1 ((rd x0 x8) != 0) x7 (wrap64 (x8 + 1))) else (none))) else (r2_Shr.j1 k x0 x1 x6 x7)) else (r2_Shr.j1 k x0 x1 x6 x7)
end
def r2_Shr.f (k : Nat) (l0 : List Int) (a1 : Int) : Option (List Int × Bool) := if a1 ≤ 0 then (some (l0, false)) else (r2_Shr.l0 k l0 a1 false (wrap64 (Int.tdiv a1 16)) 0)
theorem r2_Shr.mono_l : ∀ k, (∀ y0 y1 y2 y3, LeO (r2_Shr.j1 k y0 y1 y2 y3) (r2_Shr.j1 (k + 1) y0 y1 y2 y3)) ∧ (∀ y0 y1 y2 y3 y4 y5, LeO (r2_Shr.l1 k y0 y1 y2 y3 y4 y5) (r2_Shr.l1 (k + 1) y0 y1 y2 y3 y4 y5)) ∧ (∀ y0 y1 y2 y3, LeO (r2_Shr.j3 k y0 y1 y2 y3) (r2_Shr.j3 (k + 1) y0 y1 y2 y3)) ∧ (∀ y0 y1 y2 y3 y4, LeO (r2_Shr.l2 k y0 y1 y2 y3 y4) (r2_Shr.l2 (k + 1) y0 y1 y2 y3 y4)) ∧ (∀ y0 y1 y2 y3 y4, LeO (r2_Shr.l0 k y0 y1 y2 y3 y4) (r2_Shr.l0 (k + 1) y0 y1 y2 y3 y4))
 | 0 => ⟨fun _ _ _ _ r h => by simp [r2_Shr.j1] at h, fun _ _ _ _ _ _ r h => by simp [r2_Shr.l1] at h, fun _ _ _ _ r h => by simp [r2_Shr.j3] at h, fun _ _ _ _ _ r h => by simp [r2_Shr.l2] at h, fun _ _ _ _ _ r h => by simp [r2_Shr.l0] at h⟩
 | k + 1 => by
  obtain ⟨ih0, ih1, ih2, ih3, ih4⟩ := r2_Shr.mono_l k; refine ⟨?_, ?_, ?_, ?_, ?_⟩
  · intro y0 y1 y2 y3
    unfold r2_Shr.j1
    repeat' first
    | (with_reducible exact ih0 _ _ _ _)
    | (with_reducible exact ih1 _ _ _ _ _ _)
    | (with_reducible exact ih2 _ _ _ _)
    | (with_reducible exact ih3 _ _ _ _ _)
    | (with_reducible exact ih4 _ _ _ _ _)
    | (with_reducible exact r2_trim.mono _ _)
    | (with_reducible exact LeO.refl _)
    | (with_reducible exact LeO.none _)
    | (with_reducible refine LeO.ite ?_ ?_)
    | (with_reducible refine LeO.bind ?_ (fun _ => ?_))
    | exact ih0 _ _ _ _
    | exact ih1 _ _ _ _ _ _
    | exact ih2 _ _ _ _
    | exact ih3 _ _ _ _ _
    | exact ih4 _ _ _ _ _
    | exact r2_trim.mono _ _
    | exact LeO.none _
    | refine LeO.ite ?_ ?_
    | refine LeO.bind ?_ (fun _ => ?_)
  · intro y0 y1 y2 y3 y4 y5
    unfold r2_Shr.l1
    repeat' first
    | (with_reducible exact ih0 _ _ _ _)
    | (with_reducible exact ih1 _ _ _ _ _ _)
    | (with_reducible exact ih2 _ _ _ _)
    | (with_reducible exact ih3 _ _ _ _ _)
    | (with_reducible exact ih4 _ _ _ _ _)
    | (with_reducible exact r2_trim.mono _ _)
    | (with_reducible exact LeO.refl _)
    | (with_reducible exact LeO.none _)
    | (with_reducible refine LeO.ite ?_ ?_)
    | (with_reducible refine LeO.bind ?_ (fun _ => ?_))
    | exact ih0 _ _ _ _
    | exact ih1 _ _ _ _ _ _
    | exact ih2 _ _ _ _
    | exact ih3 _ _ _ _ _
    | exact ih4 _ _ _ _ _
    | exact r2_trim.mono _ _
    | exact LeO.none _
    | refine LeO.ite ?_ ?_
    | refine LeO.bind ?_ (fun _ => ?_)
  · intro y0 y1 y2 y3
    unfold r2_Shr.j3
    repeat' first
    | (with_reducible exact ih0 _ _ _ _)
    | (with_reducible exact ih1 _ _ _ _ _ _)
    | (with_reducible exact ih2 _ _ _ _)
    | (with_reducible exact ih3 _ _ _ _ _)
    | (with_reducible exact ih4 _ _ _ _ _)
    | (with_reducible exact r2_trim.mono _ _)
    | (with_reducible exact LeO.refl _)
    | (with_reducible exact LeO.none _)
    | (with_reducible refine LeO.ite ?_ ?_)
    | (with_reducible refine LeO.bind ?_ (fun _ => ?_))
    | exact ih0 _ _ _ _
    | exact ih1 _ _ _ _ _ _
    | exact ih2 _ _ _ _
    | exact ih3 _ _ _ _ _
    | exact ih4 _ _ _ _ _
    | exact r2_trim.mono _ _
    | exact LeO.none _
    | refine LeO.ite ?_ ?_
    | refine LeO.bind ?_ (fun _ => ?_)
  · intro y0 y1 y2 y3 y4
    unfold r2_Shr.l2
    repeat' first
    | (with_reducible exact ih0 _ _ _ _)
    | (with_reducible exact ih1 _ _ _ _ _ _)
    | (with_reducible exact ih2 _ _ _ _)
    | (with_reducible exact ih3 _ _ _ _ _)
    | (with_reducible exact ih4 _ _ _ _ _)
    | (with_reducible exact r2_trim.mono _ _)
    | (with_reducible exact LeO.refl _)
    | (with_reducible exact LeO.none _)
    | (with_reducible refine LeO.ite ?_ ?_)
    | (with_reducible refine LeO.bind ?_ (fun _ => ?_))
    | exact ih0 _ _ _ _
    | exact ih1 _ _ _ _ _ _
    | exact ih2 _ _ _ _
    | exact ih3 _ _ _ _ _
    | exact ih4 _ _ _ _ _
    | exact r2_trim.mono _ _
    | exact LeO.none _
    | refine LeO.ite ?_ ?_
    | refine LeO.bind ?_ (fun _ => ?_)
  intro y0 y1 y2 y3 y4
  unfold r2_Shr.l0
  repeat' first
  | (with_reducible exact ih0 _ _ _ _)
  | (with_reducible exact ih1 _ _ _ _ _ _)
  | (with_reducible exact ih2 _ _ _ _)
  | (with_reducible exact ih3 _ _ _ _ _)
  | (with_reducible exact ih4 _ _ _ _ _)
  | (with_reducible exact r2_trim.mono _ _)
  | (with_reducible exact LeO.refl _)
  | (with_reducible exact LeO.none _)
  | (with_reducible refine LeO.ite ?_ ?_)
  | (with_reducible refine LeO.bind ?_ (fun _ => ?_))
  | exact ih0 _ _ _ _
  | exact ih1 _ _ _ _ _ _
  | exact ih2 _ _ _ _
  | exact ih3 _ _ _ _ _
  | exact ih4 _ _ _ _ _
  | exact r2_trim.mono _ _
  | exact LeO.none _
  | refine LeO.ite ?_ ?_
  | refine LeO.bind ?_ (fun _ => ?_)
theorem r2_Shr.mono : ∀ a0 a1 k, LeO (r2_Shr.f k a0 a1) (r2_Shr.f (k + 1) a0 a1) := by
 intro a0 a1 k; obtain ⟨ih0, ih1, ih2, ih3, ih4⟩ := r2_Shr.mono_l k
 unfold r2_Shr.f
 repeat' first
  | (with_reducible exact ih0 _ _ _ _)
  | (with_reducible exact ih1 _ _ _ _ _ _)
  | (with_reducible exact ih2 _ _ _ _)
  | (with_reducible exact ih3 _ _ _ _ _)
  | (with_reducible exact ih4 _ _ _ _ _)
  | (with_reducible exact r2_trim.mono _ _)
  | (with_reducible exact LeO.refl _)
  | (with_reducible exact LeO.none _)
  | (with_reducible refine LeO.ite ?_ ?_)
  | (with_reducible refine LeO.bind ?_ (fun _ => ?_))
  | exact ih0 _ _ _ _
  | exact ih1 _ _ _ _ _ _
  | exact ih2 _ _ _ _
  | exact ih3 _ _ _ _ _
  | exact ih4 _ _ _ _ _
  | exact r2_trim.mono _ _
  | exact LeO.none _
  | refine LeO.ite ?_ ?_
  | refine LeO.bind ?_ (fun _ => ?_)
def r2_Shr.T21 : Bool × List (List Nat × List Nat) := (true, [([], []), ([], []), ([], []), ([1, 2], [1, 2]), ([3], [3]), ([], []), ([4, 5], [4, 5]), ([], []), ([], []), ([8], [8]), ([7, 9], [7, 9]), ([], []), ([10, 11], [10, 11]), ([], []), ([13], [13]), ([12, 14], [12, 14]), ([6, 15], [6, 15]), ([16], [16]), ([0, 17, 10], [0, 17]), ([18, 18, 0, 1, 2, 3, 4, 5, 6, 7, 8, 9, 10, 11, 12, 13, 14, 15, 16, 17, 18], [0, 18])])
def r2_Shr.B21 : List Nat := [0, 0, 0, 6, 14, 0, 62, 0, 0, 256, 896, 0, 3968, 0, 8192, 32640, 65534, 131070, 262143, 524287]
theorem r2_Shr.tab21 : rtab .any (opsOf Try.f66 21) = r2_Shr.T21 := by kernel_rfl
theorem r2_Shr.bits21 : waitsOk r2_Shr.T21.2 r2_Shr.B21 = true := by kernel_rfl
set_option maxHeartbeats 8000000 in
set_option maxRecDepth 100000 in
theorem r2_Shr.calls (k : Nat) (P0_ : Nat → Prop) (A0 : Option Addr) (c0 : Nat) (l0 : List Int) (a1 : Int) (r1 : List Int) (r2 : Bool) (w : World) (hs0 : Kd.V (Kd.int .u32) 86 w w.heap.size (fun k_ => P0_ k_) (.slice A0 l0.length c0) l0) (h : r2_Shr.f k l0 a1 = some (r1, r2)) :
 Calls Try.prog 66 #[.slice A0 l0.length c0, .int .i64 a1] w fun e w' => ∃ v0_ : Value, e = .returned (.tuple #[v0_, .bool r2]) ∧ Kd.V (Kd.int .u32) 86 w' w.heap.size (fun k_ => (P0_ k_ ∨ w.heap.size ≤ k_)) v0_ r1 ∧ Below w.heap.size w w' := by
 have HO0 := Aside0.mk (show Kd.V (Kd.int .u32) 86 w w.heap.size (fun k_ => (P0_ k_ ∨ w.heap.size ≤ k_)) (.slice A0 l0.length c0) l0 from Kd.V_mono hs0 (fun k_ hk => .inl hk)); have HB := Aside0.mk (Below.refl w.heap.size w); have H : (if a1 ≤ 0 then (some (l0, false)) else (r2_Shr.l0 k l0 a1 false (wrap64 (Int.tdiv a1 16)) 0)) = some (r1, r2) := h; clear h
 by_cases c3 : a1 ≤ 0
 · rw [if_pos c3] at H
   have c3b0 : decide (a1 ≤ 0) = true := decide_eq_true c3; clear c3
   simp only [Option.some.injEq, Prod.mk.injEq] at H
   obtain ⟨rfl, rfl⟩ := H
   go_enter Try.func66, Try.ntmps66
   go_wp2
   go_ret2
   exact ⟨_, by first | rfl | (simp [errW_none, errW_some] <;> rfl) | (simp [*, errW_none, errW_some] <;> rfl), by (with_reducible repeat (first | apply Kd.V_alloc | apply Kd.V_drewN | apply Kd.V_drew)); exact HO0.out, kH HB⟩
 rw [if_neg c3] at H
 have c3b0 : decide (a1 ≤ 0) = false := decide_eq_false c3; clear c3; have HC4 := Aside0.mk H; clear H
 go_enter Try.func66, Try.ntmps66
 go_upto_block 0 with (fail)
 go_cut [6] (fun v6 wc => ∃ (kq : Nat) (x6_3 : Bool), v6 = .bool x6_3 ∧ Aside0 (r2_Shr.j1 kq l0 a1 x6_3 (wrap64 (Int.tdiv a1 16)) = some (r1, r2)) ∧ Aside0 (kq ≤ k) ∧ Aside0 (Kd.V (Kd.int .u32) 86 wc w.heap.size (fun k_ => (P0_ k_ ∨ w.heap.size ≤ k_)) (.slice A0 l0.length c0) l0) ∧ Aside0 (Below w.heap.size w wc))
 case first =>
  have H := HC4.out; clear HC4; have H' := Aside0.mk H; clear H
  go_wp2
  go_loopg [6, 8] k (fun kq v6 v8 w' => ∃ (x6_1 : Bool) (x8_1 : Int), v6 = .bool x6_1 ∧ v8 = .int .i64 x8_1 ∧ Aside0 (r2_Shr.l0 kq l0 a1 x6_1 (wrap64 (Int.tdiv a1 16)) x8_1 = some (r1, r2)) ∧ Aside0 (kq ≤ k) ∧ Aside0 (Kd.V (Kd.int .u32) 86 w' w.heap.size (fun k_ => (P0_ k_ ∨ w.heap.size ≤ k_)) (.slice A0 l0.length c0) l0) ∧ Aside0 (Below w.heap.size w w'))
  case atStart => exact ⟨(false), (0), RSq, RSq, (by first | exact H' | (subst_vars; exact H')), ⟨Nat.le_refl _⟩, ⟨kV HO0⟩, ⟨kH HB⟩⟩
  case round =>
   clear H'; (try clear p2); (try clear c3); (try clear c3b0); obtain ⟨x6_1, x8_1, rfl, rfl, HA, HK1, HO_0, HB⟩ := hrel
   cases gk with
   | zero => exact absurd HA.out (by simp [r2_Shr.l0])
   | succ k1 =>
    have H := HA.out; clear HA
    simp only [r2_Shr.l0] at H
    by_cases c5 : x8_1 < (wrap64 (Int.tdiv a1 16))
    · rw [if_pos c5] at H
      have c5b0 : decide (x8_1 < (wrap64 (Int.tdiv a1 16))) = true := decide_eq_true c5; clear c5
      (first | rw [c5b0] | (simp only [i64_w, i32_w]; rw [c5b0]) | skip)
      by_cases c6 : x8_1 < (l0.length : Int)
      · rw [if_pos c6] at H
        have c6b0 : decide (x8_1 < (l0.length : Int)) = true := decide_eq_true c6; clear c6
        by_cases c7 : x6_1 = true
        · subst c7
          have H1 : (r2_Shr.l0 k1 l0 a1 true (wrap64 (Int.tdiv a1 16)) (wrap64 (x8_1 + 1))) = some (r1, r2) := by rw [if_pos rfl] at H; exact H
          clear H; have H := H1; clear H1; have H' := Aside0.mk H; clear H
          go_wp2
          go_roundg k1
          case measure => have := HK1.out; omega
          case rel => exact ⟨(true), (wrap64 (x8_1 + 1)), RSq, RSq, (by first | exact H' | (subst_vars; exact H')), ⟨by have := HK1.out; omega⟩, ⟨kV HO_0⟩, ⟨kH HB⟩⟩
        replace c7 := Bool.eq_false_iff.mpr c7; subst c7
        have H1 : (if 0 ≤ x8_1 then (r2_Shr.l0 k1 l0 a1 ((rd l0 x8_1) != 0) (wrap64 (Int.tdiv a1 16)) (wrap64 (x8_1 + 1))) else (none)) = some (r1, r2) := by rw [if_neg (show ¬ (false = true) by decide)] at H; exact H
        clear H; have H := H1; clear H1
        by_cases c8 : 0 ≤ x8_1
        · rw [if_pos c8] at H
          have c8b0 : decide (0 ≤ x8_1) = true := decide_eq_true c8; clear c8; have H' := Aside0.mk H; clear H; have p246 : 0 ≤ (x8_1 : Int) := of_decide_eq_true ASq; have q246 : x8_1 < (l0.length : Int) := of_decide_eq_true ASq; obtain ⟨ad246, e246, hx246_0⟩ := Kd.at_int (Kd.V_reads' HO_0.out).2.2 x8_1 p246 q246
          cases e246
          replace p246 := eq_true p246; replace q246 := eq_true q246
          go_wp2
          go_roundg k1
          case measure => have := HK1.out; omega
          case rel => exact ⟨(((rd l0 x8_1) != 0)), (wrap64 (x8_1 + 1)), RSq, RSq, (by first | exact H' | (subst_vars; exact H')), ⟨by have := HK1.out; omega⟩, ⟨kV HO_0⟩, ⟨kH HB⟩⟩
        rw [if_neg c8] at H
        exact absurd H (by simp)
      rw [if_neg c6] at H
      have c6b0 : decide (x8_1 < (l0.length : Int)) = false := decide_eq_false c6; clear c6; have H' := Aside0.mk H; clear H
      go_wp2
      go_meet
      case rel => exact ⟨_, (x6_1), RSq, (by first | exact H' | (subst_vars; exact H')), ⟨by have := HK1.out; first | omega | exact Nat.le_refl _⟩, ⟨kV HO_0⟩, ⟨kH HB⟩⟩
    rw [if_neg c5] at H
    have c5b0 : decide (x8_1 < (wrap64 (Int.tdiv a1 16))) = false := decide_eq_false c5; clear c5
    (first | rw [c5b0] | (simp only [i64_w, i32_w]; rw [c5b0]) | skip)
    have H' := Aside0.mk H; clear H
    go_wp2
    go_meet
    case rel => exact ⟨_, (x6_1), RSq, (by first | exact H' | (subst_vars; exact H')), ⟨by have := HK1.out; first | omega | exact Nat.le_refl _⟩, ⟨kV HO_0⟩, ⟨kH HB⟩⟩
 case rest =>
  clear HC4; (try clear p2); (try clear q2); (try clear hx2); (try clear c3); (try clear c3b0); (try clear c5); (try clear c5b0); (try clear c6); (try clear c6b0); (try clear p6); (try clear c7); (try clear c8); (try clear c8b0); (try clear hx246_0); (try clear p2); (try clear p246); (try clear q246); obtain ⟨kq, x6_3, rfl, HA, HJ3, HO_0, HB⟩ := hcut
  cases kq with
  | zero => exact absurd HA.out (by simp [r2_Shr.j1])
  | succ kj3 =>
   have H := HA.out; clear HA
   simp only [r2_Shr.j1] at H
   by_cases c9 : (wrap64 (Int.tdiv a1 16)) ≥ (l0.length : Int)
   · rw [if_pos c9] at H
     have c9b0 : decide ((l0.length : Int) ≤ (wrap64 (Int.tdiv a1 16))) = true := decide_eq_true c9; clear c9
     simp only [Option.some.injEq, Prod.mk.injEq] at H
     obtain ⟨rfl, rfl⟩ := H
     go_wp2
     go_ret2
     exact ⟨_, by first | rfl | (simp [errW_none, errW_some] <;> rfl) | (simp [*, errW_none, errW_some] <;> rfl), Kd.V_mono (Kd.R_V (by first | exact Kd.R_nil _ _ _ _ _ | exact Kd.N_nil _ _ _ _ _ | exact Kd.V_nil _ _ _ _ _ | exact Kd.Q_nil _ _ _ _ _ | exact Kd.S_nil _ _ _ _ _ | exact Kd.R_nil _ _ _ 0 _ | exact Kd.R_nil _ _ _ 0 (fun k_ => w.heap.size ≤ k_))) (fun k_ hk => by first | exact ⟨(.inr (hk.1)), hk.2⟩ | exact (.inr (hk))), kH HB⟩
   rw [if_neg c9] at H
   have c9b0 : decide ((l0.length : Int) ≤ (wrap64 (Int.tdiv a1 16))) = false := decide_eq_false c9; clear c9; have H' := Aside0.mk H; clear H
   go_wp2
   go_loopg [9, 10] kj3 (fun kq v9 v10 w' => ∃ (x9_2 : Int) (x10_2 : Int), v9 = .int .u32 x9_2 ∧ v10 = .int .i64 x10_2 ∧ Aside0 (r2_Shr.l1 kq l0 a1 x6_3 (wrap64 (Int.tdiv a1 16)) x9_2 x10_2 = some (r1, r2)) ∧ Aside0 (kq ≤ kj3) ∧ Aside0 (Kd.V (Kd.int .u32) 86 w' w.heap.size (fun k_ => (P0_ k_ ∨ w.heap.size ≤ k_)) (.slice A0 l0.length c0) l0) ∧ Aside0 (Below w.heap.size w w'))
   case atStart => exact ⟨(1), (0), RSq, RSq, (by first | exact H' | (subst_vars; exact H')), ⟨Nat.le_refl _⟩, ⟨kV HO_0⟩, ⟨kH HB⟩⟩
   case round =>
    clear H'; (try clear p2); (try clear q2); (try clear hx2); (try clear c3); (try clear c3b0); (try clear c5); (try clear c5b0); (try clear c6); (try clear c6b0); (try clear p6); (try clear c7); (try clear c8); (try clear c8b0); (try clear c9); (try clear c9b0); (try clear hx246_0); (try clear p2); (try clear p246); (try clear p6); (try clear q2); (try clear q246); obtain ⟨x9_2, x10_2, rfl, rfl, HA, HK2, HO_0, HB⟩ := hrel
    cases gk with
    | zero => exact absurd HA.out (by simp [r2_Shr.l1])
    | succ k2 =>
     have H := HA.out; clear HA
     simp only [r2_Shr.l1] at H
     by_cases c10 : x10_2 < (Int.tmod a1 16)
     · rw [if_pos c10] at H
       have c10b0 : decide (x10_2 < (Int.tmod a1 16)) = true := decide_eq_true c10; clear c10; have H' := Aside0.mk H; clear H
       go_wp2
       go_roundg k2
       case measure => have := HJ3.out; have := HK2.out; omega
       case rel => exact ⟨((2 * x9_2) % 4294967296), (wrap64 (x10_2 + 1)), RSq, RSq, (by first | exact H' | (subst_vars; exact H')), ⟨by have := HJ3.out; have := HK2.out; omega⟩, ⟨kV HO_0⟩, ⟨kH HB⟩⟩
     rw [if_neg c10] at H
     have c10b0 : decide (x10_2 < (Int.tmod a1 16)) = false := decide_eq_false c10; clear c10; have HC11 := Aside0.mk H; clear H
     go_upto_region 16 with (fail)
     go_cut [6] (fun v6 wc => ∃ (kq : Nat) (x6_10 : Bool), v6 = .bool x6_10 ∧ Aside0 (r2_Shr.j3 kq l0 x6_10 (wrap64 (Int.tdiv a1 16)) x9_2 = some (r1, r2)) ∧ Aside0 (kq ≤ k2) ∧ Aside0 (Kd.V (Kd.int .u32) 86 wc w.heap.size (fun k_ => (P0_ k_ ∨ w.heap.size ≤ k_)) (.slice A0 l0.length c0) l0) ∧ Aside0 (Below w.heap.size w wc))
     case first =>
      have H := HC11.out; clear HC11
      by_cases c12 : x6_3 = true
      · subst c12
        have H1 : (r2_Shr.j3 k2 l0 true (wrap64 (Int.tdiv a1 16)) x9_2) = some (r1, r2) := by rw [if_pos rfl] at H; exact H
        clear H; have H := H1; clear H1; have H' := Aside0.mk H; clear H
        go_wp2
        go_meet
        case rel => exact ⟨_, (true), RSq, (by first | exact H' | (subst_vars; exact H')), ⟨by have := HJ3.out; have := HK2.out; first | omega | exact Nat.le_refl _⟩, ⟨kV HO_0⟩, ⟨kH HB⟩⟩
      replace c12 := Bool.eq_false_iff.mpr c12; subst c12
      have H1 : (if 0 ≤ (wrap64 (Int.tdiv a1 16)) then (if (wrap64 (Int.tdiv a1 16)) < (l0.length : Int) then (if x9_2 = 0 then (none) else (r2_Shr.j3 k2 l0 ((Int.tmod (rd l0 (wrap64 (Int.tdiv a1 16))) x9_2) != 0) (wrap64 (Int.tdiv a1 16)) x9_2)) else (none)) else (none)) = some (r1, r2) := by rw [if_neg (show ¬ (false = true) by decide)] at H; exact H
      clear H; have H := H1; clear H1; obtain ⟨ji13, hji13⟩ : ∃ j_ : Int, (wrap64 (Int.tdiv a1 16)) = j_ := ⟨_, rfl⟩
      replace H : (if 0 ≤ (ji13) then (if (ji13) < (l0.length : Int) then (if x9_2 = 0 then (none) else (r2_Shr.j3 k2 l0 ((Int.tmod (rd l0 (ji13)) x9_2) != 0) (ji13) x9_2)) else (none)) else (none)) = some (r1, r2) := by first | (rw [hji13] at H; exact H) | (simp only [hji13] at H ⊢; exact H)
      (try rw [hji13] at c9b0)
      have hji13w : (IntKind.i64.wrap (Int.tdiv a1 16)) = ji13 := (i64_w _).trans hji13
      by_cases c14 : 0 ≤ (ji13)
      · rw [if_pos c14] at H
        have c14b0 : decide (0 ≤ (ji13)) = true := decide_eq_true c14; clear c14
        (first | rw [c14b0] | (simp only [i64_w, i32_w]; rw [c14b0]) | skip)
        by_cases c15 : (ji13) < (l0.length : Int)
        · rw [if_pos c15] at H
          have c15b0 : decide ((ji13) < (l0.length : Int)) = true := decide_eq_true c15; clear c15
          by_cases c16 : x9_2 = 0
          · rw [if_pos c16] at H
            exact absurd H (by simp)
          rw [if_neg c16] at H
          have c16b0 : (x9_2 == 0) = false := beq_eq_false_iff_ne.mpr c16; have c16b1 : (x9_2 != 0) = true := bne_iff_ne.mpr c16; have H' := Aside0.mk H; clear H; have p247 : 0 ≤ ((ji13) : Int) := of_decide_eq_true ASq; have q247 : (ji13) < (l0.length : Int) := of_decide_eq_true ASq; obtain ⟨ad247, e247, hx247_0⟩ := Kd.at_int (Kd.V_reads' HO_0.out).2.2 (ji13) p247 q247
          cases e247
          replace p247 := eq_true p247; replace q247 := eq_true q247
          go_wp2
          go_meet
          case rel => exact ⟨_, (((Int.tmod (rd l0 (ji13)) x9_2) != 0)), (by first | rfl | (simp; done) | (simp only [← hji13] <;> (first | rfl | simp)) | (simp [*]; done)), (by first | exact H' | (subst_vars; exact H')), ⟨by have := HJ3.out; have := HK2.out; first | omega | exact Nat.le_refl _⟩, ⟨kV HO_0⟩, ⟨kH HB⟩⟩
        rw [if_neg c15] at H
        exact absurd H (by simp)
      rw [if_neg c14] at H
      exact absurd H (by simp)
     case rest =>
      clear HC11; (try clear c1); (try clear p2); (try clear q2); (try clear hx2); (try clear c3); (try clear c3b0); (try clear c5); (try clear c5b0); (try clear c6); (try clear c6b0); (try clear p6); (try clear c7); (try clear c8); (try clear c8b0); (try clear c9); (try clear c9b0); (try clear c10); (try clear c10b0); (try clear c12); (try clear c14); (try clear c14b0); (try clear c15); (try clear c15b0); (try clear c16); (try clear c16b0); (try clear c16b1); (try clear hx246_0); (try clear hx247_0); (try clear p2); (try clear p246); (try clear p247); (try clear p6); (try clear q2); (try clear q246); (try clear q247); obtain ⟨kq, x6_10, rfl, HA, HJ10, HO_0, HB⟩ := hcut
      cases kq with
      | zero => exact absurd HA.out (by simp [r2_Shr.j3])
      | succ kj10 =>
       have H := HA.out; clear HA
       simp only [r2_Shr.j3] at H
       have H' := Aside0.mk H; clear H
       go_wp2
       go_loopg [11, 12] kj10 (fun kq v11 v12 w' => ∃ (x11_4 : List Int) (x12_4 : Int), v12 = .int .i64 x12_4 ∧ Aside0 (r2_Shr.l2 kq l0 x6_10 x9_2 x11_4 x12_4 = some (r1, r2)) ∧ Aside0 (kq ≤ kj10) ∧ Aside0 (Kd.V (Kd.int .u32) 86 w' w.heap.size (fun k_ => (P0_ k_ ∨ w.heap.size ≤ k_) ∧ some k_ ≠ (v11 : Value).ownBlock) (.slice A0 l0.length c0) l0) ∧ Aside0 (Kd.R (Kd.int .u32) 86 w' w.heap.size (fun k_ => (w.heap.size ≤ k_)) v11 x11_4) ∧ Aside0 (Below w.heap.size w w'))
       case atStart => exact ⟨(([] : List Int)), ((wrap64 (Int.tdiv a1 16))), RSq, (by first | exact H' | (subst_vars; exact H')), ⟨Nat.le_refl _⟩, ⟨by (with_reducible repeat (first | apply Kd.V_alloc | apply Kd.V_drewN | apply Kd.V_drew)); exact Kd.V_mono HO_0.out (fun _ hk => ⟨hk, (by simp [Value.ownBlock])⟩)⟩, ⟨by first | exact Kd.R_nil _ _ _ _ _ | exact Kd.N_nil _ _ _ _ _ | exact Kd.V_nil _ _ _ _ _ | exact Kd.Q_nil _ _ _ _ _ | exact Kd.S_nil _ _ _ _ _ | exact Kd.R_nil _ _ _ 0 _ | exact Kd.R_nil _ _ _ 0 (fun k_ => w.heap.size ≤ k_)⟩, ⟨kH HB⟩⟩
       case round =>
        clear H'; (try clear c1); (try clear p2); (try clear q2); (try clear hx2); (try clear c3); (try clear c3b0); (try clear c5); (try clear c5b0); (try clear c6); (try clear c6b0); (try clear p6); (try clear c7); (try clear c8); (try clear c8b0); (try clear c9); (try clear c9b0); (try clear c10); (try clear c10b0); (try clear c12); (try clear c14); (try clear c14b0); (try clear c15); (try clear c15b0); (try clear c16); (try clear c16b0); (try clear c16b1); (try clear hx246_0); (try clear hx247_0); (try clear p2); (try clear p246); (try clear p247); (try clear p6); (try clear q2); (try clear q246); (try clear q247); obtain ⟨x11_4, x12_4, rfl, HA, HK4, HO_0, HO_11, HB⟩ := hrel
        cases gk with
        | zero => exact absurd HA.out (by simp [r2_Shr.l2])
        | succ k4 =>
         have H := HA.out; clear HA
         simp only [r2_Shr.l2] at H
         by_cases c17 : x12_4 < (l0.length : Int)
         · rw [if_pos c17] at H
           have c17b0 : decide (x12_4 < (l0.length : Int)) = true := decide_eq_true c17; clear c17
           by_cases c18 : 0 ≤ x12_4
           · rw [if_pos c18] at H
             have c18b0 : decide (0 ≤ x12_4) = true := decide_eq_true c18; clear c18
             by_cases c19 : x9_2 = 0
             · rw [if_pos c19] at H
               exact absurd H (by simp)
             rw [if_neg c19] at H
             have c19b0 : (x9_2 == 0) = false := beq_eq_false_iff_ne.mpr c19; have c19b1 : (x9_2 != 0) = true := bne_iff_ne.mpr c19; replace H := Option.bind_eq_some_iff.mp H; obtain ⟨t249, A200, H⟩ := H; replace H : (if x11_4.length < 35184372088832 then (r2_Shr.l2 k4 l0 x6_10 x9_2 (x11_4 ++ [IntKind.u32.wrap ((IntKind.u32.wrap (Int.tdiv (rd l0 x12_4) x9_2)) + (IntKind.u32.wrap ((Int.tmod t249 x9_2) * (IntKind.u32.wrap (Int.tdiv (65536 : Int) x9_2)))))]) (wrap64 (x12_4 + 1))) else (none)) = some (r1, r2) := H; have A20 := Aside0.mk A200; clear A200
             by_cases c21 : x11_4.length < 35184372088832
             · rw [if_pos c21] at H
               have LMc21 := Aside0.mk c21; clear c21; obtain ⟨y250, hy250⟩ : ∃ y_ : List Int, y_ = (x11_4 ++ [IntKind.u32.wrap ((IntKind.u32.wrap (Int.tdiv (rd l0 x12_4) x9_2)) + (IntKind.u32.wrap ((Int.tmod t249 x9_2) * (IntKind.u32.wrap (Int.tdiv (65536 : Int) x9_2)))))]) := ⟨_, rfl⟩
               replace H : (r2_Shr.l2 k4 l0 x6_10 x9_2 y250 (wrap64 (x12_4 + 1))) = some (r1, r2) := by first | (rw [hy250]; with_reducible exact H) | (have H2_ := (Option.bind_some _ _).symm.trans H; rw [hy250]; with_reducible exact H2_) | (have H2_ := (Option.bind_some _ _).symm.trans H; with_reducible exact H2_) | with_reducible exact H | (rw [hy250]; exact H) | exact H
               have Ny250 := Aside0.mk hy250; clear hy250; have H' := Aside0.mk H; clear H
               try go_wp2
               replace HO_0 := Aside0.mk (Kd.V_drew HO_0.out); replace HO_11 := Aside0.mk (Kd.R_drew HO_11.out); replace HB := Aside0.mk (below_drew1 HB.out); have p248 : 0 ≤ (x12_4 : Int) := of_decide_eq_true ASq; have q248 : x12_4 < (l0.length : Int) := of_decide_eq_true ASq; obtain ⟨ad248, e248, hx248_0⟩ := Kd.at_int (Kd.V_reads' HO_0.out).2.2 x12_4 p248 q248
               cases e248
               replace p248 := eq_true p248; replace q248 := eq_true q248; refine start_ (n := 20) (S := fun w' => w'.cell? (ad248.add (x12_4).toNat) = some (.int .u32 (rd l0 x12_4))) (ds := [17, 18]) #[false, false, false, false, false, false, false, false, false, false, false, false, false, false, false, false, false, false, false, false] (by kernel_rfl) rfl rfl (hx248_0) (fun hHeld => ?_); refine with_tabW r2_Shr.tab21 r2_Shr.bits21 (fun HT_ HW_ => ?_)
               generalize wr.drew = w22 at HO_0 HO_11 HB hx248_0 hHeld ⊢
               refine pure_ (i := 0) (N := some 67) (v := ?_) (a' := ?_) #[true, false, false, false, false, false, false, false, false, false, false, false, false, false, false, false, false, false, false, false] rfl rfl (any_of HT_.out (by kernel_rfl)) (fun _ _ _ h => h) (Or.inl ⟨by rfl, ?_⟩) ?_ ?_; rotate_left
               · intro w'
                 go_simp
                 with_reducible rfl
               rotate_left
               · exact APq
               refine pure_ (i := 1) (N := some 68) (v := ?_) (a' := ?_) #[true, true, false, false, false, false, false, false, false, false, false, false, false, false, false, false, false, false, false, false] rfl rfl (any_of HT_.out (by kernel_rfl)) (fun _ _ _ h => h) (Or.inl ⟨by rfl, ?_⟩) ?_ ?_; rotate_left
               · intro w'
                 go_simp
                 with_reducible rfl
               rotate_left
               · exact APq
               refine pure_ (i := 2) (N := some 69) (v := ?_) (a' := ?_) #[true, true, true, false, false, false, false, false, false, false, false, false, false, false, false, false, false, false, false, false] rfl rfl (any_of HT_.out (by kernel_rfl)) (fun _ _ _ h => h) (Or.inl ⟨by rfl, ?_⟩) ?_ ?_; rotate_left
               · intro w'
                 go_simp
                 with_reducible rfl
               rotate_left
               · exact APq
               refine pure_ (i := 3) (N := some 70) (v := ?_) (a' := ?_) #[true, true, true, true, false, false, false, false, false, false, false, false, false, false, false, false, false, false, false, false] rfl rfl (any_of HT_.out (by kernel_rfl)) (fun _ _ _ h => h) (Or.inl ⟨by rfl, ?_⟩) ?_ ?_; rotate_left
               · intro w'
                 go_simp
                 with_reducible rfl
               rotate_left
               · exact APq
               refine pure_ (i := 5) (N := some 72) (v := ?_) (a' := ?_) #[true, true, true, true, false, true, false, false, false, false, false, false, false, false, false, false, false, false, false, false] rfl rfl (any_of HT_.out (by kernel_rfl)) (fun _ _ _ h => h) (Or.inl ⟨by rfl, ?_⟩) ?_ ?_; rotate_left
               · intro w'
                 go_simp
                 with_reducible rfl
               rotate_left
               · exact APq
               refine pure_ (i := 7) (N := some 74) (v := ?_) (a' := ?_) #[true, true, true, true, false, true, false, true, false, false, false, false, false, false, false, false, false, false, false, false] rfl rfl (any_of HT_.out (by kernel_rfl)) (fun _ _ _ h => h) (Or.inl ⟨by rfl, ?_⟩) ?_ ?_; rotate_left
               · intro w'
                 go_simp
                 with_reducible rfl
               rotate_left
               · exact APq
               refine pure_ (i := 8) (N := some 75) (v := ?_) (a' := ?_) #[true, true, true, true, false, true, false, true, true, false, false, false, false, false, false, false, false, false, false, false] rfl rfl (any_of HT_.out (by kernel_rfl)) (fun _ _ _ h => h) (Or.inl ⟨by rfl, ?_⟩) ?_ ?_; rotate_left
               · intro w'
                 go_simp
                 with_reducible rfl
               rotate_left
               · exact APq
               refine pure_ (i := 9) (N := some 76) (v := ?_) (a' := ?_) #[true, true, true, true, false, true, false, true, true, true, false, false, false, false, false, false, false, false, false, false] rfl rfl (any_of HT_.out (by kernel_rfl)) (fun _ _ _ h => h) (Or.inl ⟨by rfl, ?_⟩) ?_ ?_; rotate_left
               · intro w'
                 go_simp
                 with_reducible rfl
               rotate_left
               · exact APq
               refine pure_ (i := 11) (N := some 78) (v := ?_) (a' := ?_) #[true, true, true, true, false, true, false, true, true, true, false, true, false, false, false, false, false, false, false, false] rfl rfl (any_of HT_.out (by kernel_rfl)) (fun _ _ _ h => h) (Or.inl ⟨by rfl, ?_⟩) ?_ ?_; rotate_left
               · intro w'
                 go_simp
                 with_reducible rfl
               rotate_left
               · exact APq
               refine pure_ (i := 13) (N := some 80) (v := ?_) (a' := ?_) #[true, true, true, true, false, true, false, true, true, true, false, true, false, true, false, false, false, false, false, false] rfl rfl (any_of HT_.out (by kernel_rfl)) (fun _ _ _ h => h) (Or.inl ⟨by rfl, ?_⟩) ?_ ?_; rotate_left
               · intro w'
                 go_simp
                 with_reducible rfl
               rotate_left
               · exact APq
               refine pure_ (i := 14) (N := some 81) (v := ?_) (a' := ?_) #[true, true, true, true, false, true, false, true, true, true, false, true, false, true, true, false, false, false, false, false] rfl rfl (any_of HT_.out (by kernel_rfl)) (fun _ _ _ h => h) (Or.inl ⟨by rfl, ?_⟩) ?_ ?_; rotate_left
               · intro w'
                 go_simp
                 with_reducible rfl
               rotate_left
               · exact APq
               refine take_ (i := 4) (N := some 71) (v := ?_) (a' := ?_) #[true, true, true, true, true, true, false, true, true, true, false, true, false, true, true, false, false, false, false, false] rfl rfl (take_ofW HT_.out HW_.out (by kernel_rfl)) (fun _ _ _ h => h) (Or.inl ⟨by rfl, ?_⟩) hHeld ?_ ?_; rotate_left
               · intro w' s0
                 go_simp
                 with_reducible rfl
               rotate_left
               · exact APq
               refine pure_ (i := 6) (N := some 73) (v := ?_) (a' := ?_) #[true, true, true, true, true, true, true, true, true, true, false, true, false, true, true, false, false, false, false, false] rfl rfl (any_of HT_.out (by kernel_rfl)) (fun _ _ _ h => h) (Or.inl ⟨by rfl, ?_⟩) ?_ ?_; rotate_left
               · intro w'
                 go_simp
                 with_reducible rfl
               rotate_left
               · exact APq
               refine one_ (i := 10) (N := some 77) #[true, true, true, true, true, true, true, true, true, true, true, true, false, true, true, false, false, false, false, false] rfl rfl (one_of HT_.out (by kernel_rfl)) (by decide) (fun K hK => ?_); refine goes_ Try.func52 (by kernel_rfl) rfl #[.slice (some ad248) l0.length c0, .int .i64 (wrap64 (x12_4 + 1))] (by rfl) rfl rfl LMq ?_
               with_reducible refine (r2_at.calls _ _ l0 (wrap64 (x12_4 + 1)) t249 _ ?side1 ?side2 A20.out).mono ?_
               (case side1 => exact kC (Kd.V_reads' HO_0.out).2.2)
               (case side2 => exact (Kd.V_reads' HO_0.out).2.1)
               rintro e w' ⟨rfl, ⟨nd, rfl⟩⟩; refine ⟨_, rfl, ?_⟩; refine hK.out _ _ (hHeld) (fun hHeld => ?_); clear hK K; refine norm_ (a' := ?_) ?_ ?_; rotate_left
               · show Act.put _ (some 77) _ = _
                 exact APq
               refine pure_ (i := 12) (N := some 79) (v := ?_) (a' := ?_) #[true, true, true, true, true, true, true, true, true, true, true, true, true, true, true, false, false, false, false, false] rfl rfl (any_of HT_.out (by kernel_rfl)) (fun _ _ _ h => h) (Or.inl ⟨by rfl, ?_⟩) ?_ ?_; rotate_left
               · intro w'
                 go_simp
                 with_reducible rfl
               rotate_left
               · exact APq
               refine pure_ (i := 15) (N := some 82) (v := ?_) (a' := ?_) #[true, true, true, true, true, true, true, true, true, true, true, true, true, true, true, true, false, false, false, false] rfl rfl (any_of HT_.out (by kernel_rfl)) (fun _ _ _ h => h) (Or.inl ⟨by rfl, ?_⟩) ?_ ?_; rotate_left
               · intro w'
                 go_simp
                 with_reducible rfl
               rotate_left
               · exact APq
               refine pure_ (i := 16) (N := some 83) (v := ?_) (a' := ?_) #[true, true, true, true, true, true, true, true, true, true, true, true, true, true, true, true, true, false, false, false] rfl rfl (any_of HT_.out (by kernel_rfl)) (fun _ _ _ h => h) (Or.inl ⟨by rfl, ?_⟩) ?_ ?_; rotate_left
               · intro w'
                 go_simp
                 with_reducible rfl
               rotate_left
               · exact APq
               refine last_ (i := 17) (N := some 84) #[true, true, true, true, true, true, true, true, true, true, true, true, true, true, true, true, true, true, false, false] rfl rfl (one_of HT_.out (by kernel_rfl)) (by decide) (fun K hK => ?_); refine value_ (w1 := ?_) (v := ?_) (by rfl) rfl ?_ ?_
               rotate_left 2
               · go_simp
                 constructor
                 · rfl
                 rfl
               refine hK.out _ _ ?_; clear hK K; refine norm_ (a' := ?_) ?_ ?_; rotate_left
               · show Act.put _ (some 84) _ = _
                 exact APq
               refine last_ (i := 18) (N := some 85) #[true, true, true, true, true, true, true, true, true, true, true, true, true, true, true, true, true, true, true, false] rfl rfl (one_of HT_.out (by kernel_rfl)) (by decide) (fun K hK => ?_); refine Kd.R_append_step (Kd.int .u32) (w0 := w) w.heap.size (by rfl) (.tmp 67) (.tmp 84) 56 86 (.int .u32 0) 4 rfl Try.underlying56 info86 rfl (by decide) (by omega) u11 x11_4 (IntKind.u32.wrap ((IntKind.u32.wrap (Int.tdiv (rd l0 x12_4) x9_2)) + (IntKind.u32.wrap ((Int.tmod t249 x9_2) * (IntKind.u32.wrap (Int.tdiv (65536 : Int) x9_2)))))) [.int .u32 (IntKind.u32.wrap ((IntKind.u32.wrap (Int.tdiv (rd l0 x12_4) x9_2)) + (IntKind.u32.wrap ((Int.tmod t249 x9_2) * (IntKind.u32.wrap (Int.tdiv (65536 : Int) x9_2))))))] (fun k_ => (w.heap.size ≤ k_)) (fun _ => False) rfl rfl ?aP (fun _ hk => hk.elim) ?aF ?aO ?aB ?aS ?aL ?_
               (case aP => exact rfl)
               (case aB => exact (kH HB))
               (case aF => exact (fun k_ hk => (Nat.le_trans (below_size (kH HB)) hk)))
               (case aO => exact (kR HO_11))
               (case aS => exact (below_size (kH HB)))
               (case aL => have := LMc21.out; omega)
               intro v251 w23 ho hb hg hat
               rw [← Ny250.out] at ho
               replace HO_0 := Aside0.mk (Kd.V_afterv (ok := (fun k_ => (P0_ k_ ∨ w.heap.size ≤ k_))) (kV HO_0) hg hat); replace HB := Aside0.mk (hb); have HO252 := Aside0.mk (ho); clear HO_11 ho hb hg hat; refine hK.out _ _ ?_; clear hK K; refine norm_ (a' := ?_) ?_ ?_; rotate_left
               · show Act.put _ (some 85) _ = _
                 exact APq
               refine pure_ (i := 19) (N := some 11) (v := ?_) (a' := ?_) #[true, true, true, true, true, true, true, true, true, true, true, true, true, true, true, true, true, true, true, true] rfl rfl (any_of HT_.out (by kernel_rfl)) (fun _ _ _ h => h) (Or.inl ⟨by rfl, ?_⟩) ?_ ?_; rotate_left
               · intro w'
                 go_simp
                 with_reducible rfl
               rotate_left
               · exact APq
               refine done_ (done_of HT_.out (by kernel_rfl)) ?_
               try go_wp2
               go_roundg k4
               case measure => have := HJ3.out; have := HK2.out; have := HJ10.out; have := HK4.out; omega
               case rel => exact ⟨(y250), (wrap64 (x12_4 + 1)), RSq, (by first | exact H' | (subst_vars; exact H')), ⟨by have := HJ3.out; have := HK2.out; have := HJ10.out; have := HK4.out; omega⟩, ⟨kV HO_0⟩, ⟨kR HO252⟩, ⟨kH HB⟩⟩
             rw [if_neg c21] at H
             exact absurd H (by simp)
           rw [if_neg c18] at H
           exact absurd H (by simp)
         rw [if_neg c17] at H
         have c17b0 : decide (x12_4 < (l0.length : Int)) = false := decide_eq_false c17; clear c17; replace H := Option.bind_eq_some_iff.mp H; obtain ⟨t253, A240, H⟩ := H; replace H : (some (t253, x6_10)) = some (r1, r2) := H; have A24 := Aside0.mk A240; clear A240
         simp only [Option.some.injEq, Prod.mk.injEq] at H
         obtain ⟨rfl, rfl⟩ := H; obtain ⟨Ao25, co25, eo25⟩ := Kd.R_slice HO_11.out; subst eo25
         go_wp2_with (first | ((with_reducible refine gate_callee (f := 51) rfl ?_); refine goesL_ (some 87) rfl rfl Try.func51 (by kernel_rfl) rfl #[.slice Ao25 x11_4.length co25] rfl LMq ?_; (with_reducible refine (r2_trim.calls k4 (fun k_ => some k_ = (.slice Ao25 x11_4.length co25 : Value).ownBlock) _ _ x11_4 t253 _ ?side1 A24.out).mono ?_); (case side1 => exact Kd.R_V (Kd.R_tight rfl (HO_11.out))); rintro e w26 ⟨v254, rfl, ho0, hb⟩; refine ⟨_, rfl, ?_⟩; replace HO_0 := Aside0.mk (Kd.V_below (kV HO_0) hb); have HO255 := Aside0.mk (Kd.V_lower (Kd.V_mono (ok' := fun k_ => (P0_ k_ ∨ w.heap.size ≤ k_)) ho0 (fun k_ hk_ => Or.elim hk_ (fun hs_ => (.inr (((HO_11.out).1 k_ hs_.symm)))) (fun hn_ => (.inr (Nat.le_trans (below_size (kH HB)) hn_))))) (below_size (kH HB))); replace HO_11 := Aside0.mk (Kd.R_below (kR HO_11) hb); replace HB := Aside0.mk (below_step (kH HB) hb); (try clear hb); (try clear hb2); (try clear hk); (try clear hi); (try clear ho0)))
         go_ret2
         exact ⟨_, by first | rfl | (simp [errW_none, errW_some] <;> rfl) | (simp [*, errW_none, errW_some] <;> rfl), by (with_reducible repeat (first | apply Kd.V_alloc | apply Kd.V_drewN | apply Kd.V_drew)); exact HO255.out, kH HB⟩
end Go.Proofs.Ytedjlpfggjcmfaa.X
