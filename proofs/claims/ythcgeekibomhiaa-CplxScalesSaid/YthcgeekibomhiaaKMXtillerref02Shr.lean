import Derived.Test.YthcgeekibomhiaaKM6
namespace Go.Proofs.Ythcgeekibomhiaa.X
open Go.RowKit Go.Proofs.YthcgeekibomhiaaW.PrintWords Go.Proofs.YthcgeekibomhiaaW.PrintLast Go.Proofs.YthcgeekibomhiaaW.PrintMore
attribute [local go_sem] max2_int min2_int max_two min_two max_three min_three max_four min_four   
set_option linter.unusedVariables false
set_option linter.unusedSimpArgs false
mutual
def r2_Shr.j1 : Nat → List Int → Int → Bool → Int → Option (List Int × Bool)
 | 0, _, _, _, _ => none
 | k + 1, x0, x1, x6, x7 => if x7 ≥ (x0.length : Int) then (some (([] : List Int), x6)) else (r2_Shr.l1 k x0 x1 x6 x7 1 0)
def r2_Shr.l1 : Nat → List Int → Int → Bool → Int → Int → Int → Option (List Int × Bool)
 | 0, _, _, _, _, _, _ => none
 | k + 1, x0, x1, x6, x7, x9, x10 => if x10 < (Int.tmod x1 16) then (r2_Shr.l1 k x0 x1 x6 x7 ((2 * x9) % 4294967296) (wrap64 (x10 + 1))) else (if x6 = true then (r2_Shr.j3 k x0 true x7 x9) else (if 0 ≤ x7 then (if x7 < (x0.length : Int) then (if x9 = 0 then (none) else (r2_Shr.j3 k x0 ((Int.tmod (rd x0 x7) x9) != 0) x7 x9)) else (none)) else (none)))
def r2_Shr.j3 : Nat → List Int → Bool → Int → Int → Option (List Int × Bool)
 | 0, _, _, _, _ => none
 | k + 1, x0, x6, x7, x9 => r2_Shr.l2 k x0 x6 x9 ([] : List Int) x7
def r2_Shr.l2 : Nat → List Int → Bool → Int → List Int → Int → Option (List Int × Bool)
 | 0, _, _, _, _, _ => none
 | k + 1, x0, x6, x9, x11, x12 => if x12 < (x0.length : Int) then (if 0 ≤ x12 then (if x9 = 0 then (none) else ((r2_at.f x0 (wrap64 (x12 + 1))).bind fun q6 => (if x11.length < 35184372088832 then (r2_Shr.l2 k x0 x6 x9 (x11 ++ [IntKind.u32.wrap ((IntKind.u32.wrap (Int.tdiv (rd x0 x12) x9)) + (IntKind.u32.wrap ((Int.tmod q6 x9) * (IntKind.u32.wrap (Int.tdiv (65536 : Int) x9)))))]) (wrap64 (x12 + 1))) else (none)))) else (none)) else ((r2_trim.f k x11).bind fun qe => (some (qe, x6)))
def r2_Shr.l0 : Nat → List Int → Int → Bool → Int → Int → Option (List Int × Bool)
 | 0, _, _, _, _, _ => none
 | k + 1, x0, x1, x6, x7, x8 => if x8 < x7 then (if x8 < (x0.length : Int) then (if x6 = true then (r2_Shr.l0 k x0 x1 true x7 (wrap64 (x8 + 1))) else (if 0 ≤ x8 then (r2_Shr.l0 k x0 x1 ((rd x0 x8) != 0) x7 (wrap64 (x8 + 1))) else (none))) else (r2_Shr.j1 k x0 x1 x6 x7)) else (r2_Shr.j1 k x0 x1 x6 x7)
end
def r2_Shr.f (k : Nat) (l0 : List Int) (a1 : Int) : Option (List Int × Bool) := if a1 ≤ 0 then (some (l0, false)) else (r2_Shr.l0 k l0 a1 false (wrap64 (Int.tdiv a1 16)) 0)
theorem r2_Shr.mono_l : ∀ k, (∀ y0 y1 y2 y3, LeO (r2_Shr.j1 k y0 y1 y2 y3) (r2_Shr.j1 (k + 1) y0 y1 y2 y3)) ∧ (∀ y0 y1 y2 y3 y4 y5, LeO (r2_Shr.l1 k y0 y1 y2 y3 y4 y5) (r2_Shr.l1 (k + 1) y0 y1 y2 y3 y4 y5)) ∧ (∀ y0 y1 y2 y3, LeO (r2_Shr.j3 k y0 y1 y2 y3) (r2_Shr.j3 (k + 1) y0 y1 y2 y3)) ∧ (∀ y0 y1 y2 y3 y4, LeO (r2_Shr.l2 k y0 y1 y2 y3 y4) (r2_Shr.l2 (k + 1) y0 y1 y2 y3 y4)) ∧ (∀ y0 y1 y2 y3 y4, LeO (r2_Shr.l0 k y0 y1 y2 y3 y4) (r2_Shr.l0 (k + 1) y0 y1 y2 y3 y4))
 | 0 => ⟨fun _ _ _ _ r h => by simp [r2_Shr.j1] at h, fun _ _ _ _ _ _ r h => by simp [r2_Shr.l1] at h, fun _ _ _ _ r h => by simp [r2_Shr.j3] at h, fun _ _ _ _ _ r h => by simp [r2_Shr.l2] at h, fun _ _ _ _ _ r h => by simp [r2_Shr.l0] at h⟩
 | k + 1 => by
  obtain ⟨ih0, ih1, ih2, ih3, ih4⟩ := r2_Shr.mono_l k; refine ⟨?_, ?_, ?_, ?_, ?_⟩
  · intro y0 y1 y2 y3
    unfold r2_Shr.j1
    repeat' (with_reducible first | exact ih0 _ _ _ _ | exact ih1 _ _ _ _ _ _ | exact ih2 _ _ _ _ | exact ih3 _ _ _ _ _ | exact ih4 _ _ _ _ _ | exact r2_trim.mono _ _ | exact LeO.refl _ | exact LeO.none _ | refine LeO.ite ?_ ?_ | refine LeO.bind ?_ (fun _ => ?_))
  · intro y0 y1 y2 y3 y4 y5
    unfold r2_Shr.l1
    repeat' (with_reducible first | exact ih0 _ _ _ _ | exact ih1 _ _ _ _ _ _ | exact ih2 _ _ _ _ | exact ih3 _ _ _ _ _ | exact ih4 _ _ _ _ _ | exact r2_trim.mono _ _ | exact LeO.refl _ | exact LeO.none _ | refine LeO.ite ?_ ?_ | refine LeO.bind ?_ (fun _ => ?_))
  · intro y0 y1 y2 y3
    unfold r2_Shr.j3
    repeat' (with_reducible first | exact ih0 _ _ _ _ | exact ih1 _ _ _ _ _ _ | exact ih2 _ _ _ _ | exact ih3 _ _ _ _ _ | exact ih4 _ _ _ _ _ | exact r2_trim.mono _ _ | exact LeO.refl _ | exact LeO.none _ | refine LeO.ite ?_ ?_ | refine LeO.bind ?_ (fun _ => ?_))
  · intro y0 y1 y2 y3 y4
    unfold r2_Shr.l2
    repeat' (with_reducible first | exact ih0 _ _ _ _ | exact ih1 _ _ _ _ _ _ | exact ih2 _ _ _ _ | exact ih3 _ _ _ _ _ | exact ih4 _ _ _ _ _ | exact r2_trim.mono _ _ | exact LeO.refl _ | exact LeO.none _ | refine LeO.ite ?_ ?_ | refine LeO.bind ?_ (fun _ => ?_))
  intro y0 y1 y2 y3 y4
  unfold r2_Shr.l0
  repeat' (with_reducible first | exact ih0 _ _ _ _ | exact ih1 _ _ _ _ _ _ | exact ih2 _ _ _ _ | exact ih3 _ _ _ _ _ | exact ih4 _ _ _ _ _ | exact r2_trim.mono _ _ | exact LeO.refl _ | exact LeO.none _ | refine LeO.ite ?_ ?_ | refine LeO.bind ?_ (fun _ => ?_))
theorem r2_Shr.mono : ∀ a0 a1 k, LeO (r2_Shr.f k a0 a1) (r2_Shr.f (k + 1) a0 a1) := by
 intro a0 a1 k; obtain ⟨ih0, ih1, ih2, ih3, ih4⟩ := r2_Shr.mono_l k
 unfold r2_Shr.f
 repeat' (with_reducible first | exact ih0 _ _ _ _ | exact ih1 _ _ _ _ _ _ | exact ih2 _ _ _ _ | exact ih3 _ _ _ _ _ | exact ih4 _ _ _ _ _ | exact r2_trim.mono _ _ | exact LeO.refl _ | exact LeO.none _ | refine LeO.ite ?_ ?_ | refine LeO.bind ?_ (fun _ => ?_))
def r2_Shr.T21 : Bool × List (List Nat × List Nat) := (true, [([], []), ([], []), ([], []), ([1, 2], [1, 2]), ([3], [3]), ([], []), ([4, 5], [4, 5]), ([], []), ([], []), ([8], [8]), ([7, 9], [7, 9]), ([], []), ([10, 11], [10, 11]), ([], []), ([13], [13]), ([12, 14], [12, 14]), ([6, 15], [6, 15]), ([16], [16]), ([0, 17, 10], [0, 17]), ([18, 18, 0, 1, 2, 3, 4, 5, 6, 7, 8, 9, 10, 11, 12, 13, 14, 15, 16, 17, 18], [0, 18])])
def r2_Shr.B21 : List Nat := [0, 0, 0, 6, 14, 0, 62, 0, 0, 256, 896, 0, 3968, 0, 8192, 32640, 65534, 131070, 262143, 524287]
theorem r2_Shr.tab21 : rtab .any (opsOf Try.f106 21) = r2_Shr.T21 := by kernel_rfl
theorem r2_Shr.bits21 : waitsOk r2_Shr.T21.2 r2_Shr.B21 = true := by kernel_rfl
set_option maxHeartbeats 8000000 in
set_option maxRecDepth 100000 in
theorem r2_Shr.calls (k : Nat) (P0_ : Nat → Prop) (A0 : Option Addr) (c0 : Nat) (l0 : List Int) (a1 : Int) (r1 : List Int) (r2 : Bool) (w : World) (hs0 : Kd.V (Kd.int .u32) 124 w w.heap.size (fun k_ => P0_ k_) (.slice A0 l0.length c0) l0) (h : r2_Shr.f k l0 a1 = some (r1, r2)) :
 Calls Try.prog 106 #[.slice A0 l0.length c0, .int .i64 a1] w fun e w' => ∃ v0_ : Value, e = .returned (.tuple #[v0_, .bool r2]) ∧ Kd.V (Kd.int .u32) 124 w' w.heap.size (fun k_ => (P0_ k_ ∨ w.heap.size ≤ k_)) v0_ r1 ∧ Below w.heap.size w w' := by
 have HO0 := aK (show Kd.V (Kd.int .u32) 124 w w.heap.size (fun k_ => (P0_ k_ ∨ w.heap.size ≤ k_)) (.slice A0 l0.length c0) l0 from Kd.V_mono hs0 (fun k_ hk => .inl hk)); have HB := aK (Below.refl w.heap.size w); have H : (if a1 ≤ 0 then (some (l0, false)) else (r2_Shr.l0 k l0 a1 false (wrap64 (Int.tdiv a1 16)) 0)) = some (r1, r2) := h; clear h
 by_cases c3 : a1 ≤ 0
 · rw [if_pos c3] at H
   have q9 : decide (a1 ≤ 0) = true := decide_eq_true c3; clear c3
   simp only [Option.some.injEq, Prod.mk.injEq] at H
   obtain ⟨rfl, rfl⟩ := H
   go_enter Try.func106, Try.ntmps106
   go_wp2
   go_ret2
   exact ⟨_, by first | rfl | (simp [errW_none, errW_some] <;> rfl) | (simp [*, errW_none, errW_some] <;> rfl), by (with_reducible repeat (first | apply Kd.V_alloc | apply Kd.V_drewN | apply Kd.V_drew)); exact HO0.out, kH HB⟩
 rw [if_neg c3] at H
 have q9 : decide (a1 ≤ 0) = false := decide_eq_false c3; clear c3; have HC4 := aK H; clear H
 go_enter Try.func106, Try.ntmps106
 go_upto_block 0 with (fail)
 go_cut [6] (fun v6 wc => ∃ (kq : Nat) (qb : Bool), v6 = .bool qb ∧ Aside0 (r2_Shr.j1 kq l0 a1 qb (wrap64 (Int.tdiv a1 16)) = some (r1, r2)) ∧ Aside0 (kq ≤ k) ∧ Aside0 (Kd.V (Kd.int .u32) 124 wc w.heap.size (fun k_ => (P0_ k_ ∨ w.heap.size ≤ k_)) (.slice A0 l0.length c0) l0) ∧ Aside0 (Below w.heap.size w wc))
 case first =>
  have H := HC4.out; clear HC4; have H' := aK H; clear H
  go_wp2
  go_loopg [6, 8] k (fun kq v6 v8 w' => ∃ (qa : Bool) (q2 : Int), v6 = .bool qa ∧ v8 = .int .i64 q2 ∧ Aside0 (r2_Shr.l0 kq l0 a1 qa (wrap64 (Int.tdiv a1 16)) q2 = some (r1, r2)) ∧ Aside0 (kq ≤ k) ∧ Aside0 (Kd.V (Kd.int .u32) 124 w' w.heap.size (fun k_ => (P0_ k_ ∨ w.heap.size ≤ k_)) (.slice A0 l0.length c0) l0) ∧ Aside0 (Below w.heap.size w w'))
  case atStart => exact ⟨(false), (0), RSq, RSq, (by first | exact H' | (subst_vars; exact H')), ⟨Nat.le_refl _⟩, ⟨kV HO0⟩, ⟨kH HB⟩⟩
  case round =>
   clear H'; (try clear c1); (try clear p2); (try clear c3); (try clear q9); obtain ⟨qa, q2, rfl, rfl, HA, HK1, HO_0, HB⟩ := hrel
   cases gk with
   | zero => exact absurd HA.out (by simp [r2_Shr.l0])
   | succ k1 =>
    have H := HA.out; clear HA
    simp only [r2_Shr.l0] at H
    by_cases c5 : q2 < (wrap64 (Int.tdiv a1 16))
    · rw [if_pos c5] at H
      have q5 : decide (q2 < (wrap64 (Int.tdiv a1 16))) = true := decide_eq_true c5; clear c5
      (first | rw [q5] | (simp only [i64_w, i32_w]; rw [q5]) | skip)
      by_cases c6 : q2 < (l0.length : Int)
      · rw [if_pos c6] at H
        have qc : decide (q2 < (l0.length : Int)) = true := decide_eq_true c6; clear c6
        by_cases c7 : qa = true
        · subst c7
          have H1 : (r2_Shr.l0 k1 l0 a1 true (wrap64 (Int.tdiv a1 16)) (wrap64 (q2 + 1))) = some (r1, r2) := by rw [if_pos rfl] at H; exact H
          clear H; have H := H1; clear H1; have H' := aK H; clear H
          go_wp2
          go_roundg k1
          case measure => have := HK1.out; omega
          case rel => exact ⟨(true), (wrap64 (q2 + 1)), RSq, RSq, (by first | exact H' | (subst_vars; exact H')), ⟨by have := HK1.out; omega⟩, ⟨kV HO_0⟩, ⟨kH HB⟩⟩
        replace c7 := Bool.eq_false_iff.mpr c7; subst c7
        have H1 : (if 0 ≤ q2 then (r2_Shr.l0 k1 l0 a1 ((rd l0 q2) != 0) (wrap64 (Int.tdiv a1 16)) (wrap64 (q2 + 1))) else (none)) = some (r1, r2) := by rw [if_neg (show ¬ (false = true) by decide)] at H; exact H
        clear H; have H := H1; clear H1
        by_cases c8 : 0 ≤ q2
        · rw [if_pos c8] at H
          have qf : decide (0 ≤ q2) = true := decide_eq_true c8; clear c8; have H' := aK H; clear H; have p423 : 0 ≤ (q2 : Int) := of_decide_eq_true ASq; have q423 : q2 < (l0.length : Int) := of_decide_eq_true ASq; obtain ⟨ad423, e423, qg⟩ := Kd.at_int (Kd.V_reads' HO_0.out).2.2 q2 p423 q423
          cases e423
          replace p423 := eq_true p423; replace q423 := eq_true q423
          go_wp2
          go_roundg k1
          case measure => have := HK1.out; omega
          case rel => exact ⟨(((rd l0 q2) != 0)), (wrap64 (q2 + 1)), RSq, RSq, (by first | exact H' | (subst_vars; exact H')), ⟨by have := HK1.out; omega⟩, ⟨kV HO_0⟩, ⟨kH HB⟩⟩
        rw [if_neg c8] at H
        exact absurd H (by simp)
      rw [if_neg c6] at H
      have qc : decide (q2 < (l0.length : Int)) = false := decide_eq_false c6; clear c6; have H' := aK H; clear H
      go_wp2
      go_meet
      case rel => exact ⟨_, (qa), RSq, (by first | exact H' | (subst_vars; exact H')), ⟨by have := HK1.out; first | omega | exact Nat.le_refl _⟩, ⟨kV HO_0⟩, ⟨kH HB⟩⟩
    rw [if_neg c5] at H
    have q5 : decide (q2 < (wrap64 (Int.tdiv a1 16))) = false := decide_eq_false c5; clear c5
    (first | rw [q5] | (simp only [i64_w, i32_w]; rw [q5]) | skip)
    have H' := aK H; clear H
    go_wp2
    go_meet
    case rel => exact ⟨_, (qa), RSq, (by first | exact H' | (subst_vars; exact H')), ⟨by have := HK1.out; first | omega | exact Nat.le_refl _⟩, ⟨kV HO_0⟩, ⟨kH HB⟩⟩
 case rest =>
  clear HC4; (try clear c1); (try clear p2); (try clear c3); (try clear q9); (try clear p4); (try clear q4); (try clear hx4); (try clear c5); (try clear q5); (try clear c6); (try clear qc); (try clear p6); (try clear c7); (try clear c8); (try clear qf); (try clear qg); (try clear p2); (try clear p423); (try clear q423); obtain ⟨kq, qb, rfl, HA, HJ3, HO_0, HB⟩ := hcut
  cases kq with
  | zero => exact absurd HA.out (by simp [r2_Shr.j1])
  | succ kj3 =>
   have H := HA.out; clear HA
   simp only [r2_Shr.j1] at H
   by_cases c9 : (wrap64 (Int.tdiv a1 16)) ≥ (l0.length : Int)
   · rw [if_pos c9] at H
     have qd : decide ((l0.length : Int) ≤ (wrap64 (Int.tdiv a1 16))) = true := decide_eq_true c9; clear c9
     simp only [Option.some.injEq, Prod.mk.injEq] at H
     obtain ⟨rfl, rfl⟩ := H
     go_wp2
     go_ret2
     exact ⟨_, by first | rfl | (simp [errW_none, errW_some] <;> rfl) | (simp [*, errW_none, errW_some] <;> rfl), Kd.V_mono (Kd.R_V (by first | exact Kd.R_nil _ _ _ _ _ | exact Kd.N_nil _ _ _ _ _ | exact Kd.V_nil _ _ _ _ _ | exact Kd.Q_nil _ _ _ _ _ | exact Kd.S_nil _ _ _ _ _ | exact Kd.R_nil _ _ _ 0 _ | exact Kd.R_nil _ _ _ 0 (fun k_ => w.heap.size ≤ k_))) (fun k_ hk => by first | exact ⟨(.inr (hk.1)), hk.2⟩ | exact (.inr (hk))), kH HB⟩
   rw [if_neg c9] at H
   have qd : decide ((l0.length : Int) ≤ (wrap64 (Int.tdiv a1 16))) = false := decide_eq_false c9; clear c9; have H' := aK H; clear H
   go_wp2
   go_loopg [9, 10] kj3 (fun kq v9 v10 w' => ∃ (q0 : Int) (q7 : Int), v9 = .int .u32 q0 ∧ v10 = .int .i64 q7 ∧ Aside0 (r2_Shr.l1 kq l0 a1 qb (wrap64 (Int.tdiv a1 16)) q0 q7 = some (r1, r2)) ∧ Aside0 (kq ≤ kj3) ∧ Aside0 (Kd.V (Kd.int .u32) 124 w' w.heap.size (fun k_ => (P0_ k_ ∨ w.heap.size ≤ k_)) (.slice A0 l0.length c0) l0) ∧ Aside0 (Below w.heap.size w w'))
   case atStart => exact ⟨(1), (0), RSq, RSq, (by first | exact H' | (subst_vars; exact H')), ⟨Nat.le_refl _⟩, ⟨kV HO_0⟩, ⟨kH HB⟩⟩
   case round =>
    clear H'; (try clear c1); (try clear p2); (try clear c3); (try clear q9); (try clear p4); (try clear q4); (try clear hx4); (try clear c5); (try clear q5); (try clear c6); (try clear qc); (try clear p6); (try clear c7); (try clear c8); (try clear qf); (try clear c9); (try clear qd); (try clear qg); (try clear p2); (try clear p4); (try clear p423); (try clear p6); (try clear q4); (try clear q423); obtain ⟨q0, q7, rfl, rfl, HA, HK2, HO_0, HB⟩ := hrel
    cases gk with
    | zero => exact absurd HA.out (by simp [r2_Shr.l1])
    | succ k2 =>
     have H := HA.out; clear HA
     simp only [r2_Shr.l1] at H
     by_cases c10 : q7 < (Int.tmod a1 16)
     · rw [if_pos c10] at H
       have qi : decide (q7 < (Int.tmod a1 16)) = true := decide_eq_true c10; clear c10; have H' := aK H; clear H
       go_wp2
       go_roundg k2
       case measure => have := HJ3.out; have := HK2.out; omega
       case rel => exact ⟨((2 * q0) % 4294967296), (wrap64 (q7 + 1)), RSq, RSq, (by first | exact H' | (subst_vars; exact H')), ⟨by have := HJ3.out; have := HK2.out; omega⟩, ⟨kV HO_0⟩, ⟨kH HB⟩⟩
     rw [if_neg c10] at H
     have qi : decide (q7 < (Int.tmod a1 16)) = false := decide_eq_false c10; clear c10; have qj := aK H; clear H
     go_upto_region 16 with (fail)
     go_cut [6] (fun v6 wc => ∃ (kq : Nat) (q8 : Bool), v6 = .bool q8 ∧ Aside0 (r2_Shr.j3 kq l0 q8 (wrap64 (Int.tdiv a1 16)) q0 = some (r1, r2)) ∧ Aside0 (kq ≤ k2) ∧ Aside0 (Kd.V (Kd.int .u32) 124 wc w.heap.size (fun k_ => (P0_ k_ ∨ w.heap.size ≤ k_)) (.slice A0 l0.length c0) l0) ∧ Aside0 (Below w.heap.size w wc))
     case first =>
      have H := qj.out; clear qj
      by_cases c12 : qb = true
      · subst c12
        have H1 : (r2_Shr.j3 k2 l0 true (wrap64 (Int.tdiv a1 16)) q0) = some (r1, r2) := by rw [if_pos rfl] at H; exact H
        clear H; have H := H1; clear H1; have H' := aK H; clear H
        go_wp2
        go_meet
        case rel => exact ⟨_, (true), RSq, (by first | exact H' | (subst_vars; exact H')), ⟨by have := HJ3.out; have := HK2.out; first | omega | exact Nat.le_refl _⟩, ⟨kV HO_0⟩, ⟨kH HB⟩⟩
      replace c12 := Bool.eq_false_iff.mpr c12; subst c12
      have H1 : (if 0 ≤ (wrap64 (Int.tdiv a1 16)) then (if (wrap64 (Int.tdiv a1 16)) < (l0.length : Int) then (if q0 = 0 then (none) else (r2_Shr.j3 k2 l0 ((Int.tmod (rd l0 (wrap64 (Int.tdiv a1 16))) q0) != 0) (wrap64 (Int.tdiv a1 16)) q0)) else (none)) else (none)) = some (r1, r2) := by rw [if_neg (show ¬ (false = true) by decide)] at H; exact H
      clear H; have H := H1; clear H1; obtain ⟨ji13, hji13⟩ : ∃ j_ : Int, (wrap64 (Int.tdiv a1 16)) = j_ := ⟨_, rfl⟩
      replace H : (if 0 ≤ (ji13) then (if (ji13) < (l0.length : Int) then (if q0 = 0 then (none) else (r2_Shr.j3 k2 l0 ((Int.tmod (rd l0 (ji13)) q0) != 0) (ji13) q0)) else (none)) else (none)) = some (r1, r2) := by first | (rw [hji13] at H; exact H) | (simp only [hji13] at H ⊢; exact H)
      (try rw [hji13] at qd)
      have hji13w : (IntKind.i64.wrap (Int.tdiv a1 16)) = ji13 := (i64_w _).trans hji13
      by_cases c14 : 0 ≤ (ji13)
      · rw [if_pos c14] at H
        have qh : decide (0 ≤ (ji13)) = true := decide_eq_true c14; clear c14
        (first | rw [qh] | (simp only [i64_w, i32_w]; rw [qh]) | skip)
        by_cases c15 : (ji13) < (l0.length : Int)
        · rw [if_pos c15] at H
          have qk : decide ((ji13) < (l0.length : Int)) = true := decide_eq_true c15; clear c15
          by_cases c16 : q0 = 0
          · rw [if_pos c16] at H
            exact absurd H (by simp)
          rw [if_neg c16] at H
          have ql : (q0 == 0) = false := beq_eq_false_iff_ne.mpr c16; have qm : (q0 != 0) = true := bne_iff_ne.mpr c16; have H' := aK H; clear H; have p424 : 0 ≤ ((ji13) : Int) := of_decide_eq_true ASq; have q424 : (ji13) < (l0.length : Int) := of_decide_eq_true ASq; obtain ⟨ad424, e424, qn⟩ := Kd.at_int (Kd.V_reads' HO_0.out).2.2 (ji13) p424 q424
          cases e424
          replace p424 := eq_true p424; replace q424 := eq_true q424
          go_wp2
          go_meet
          case rel => exact ⟨_, (((Int.tmod (rd l0 (ji13)) q0) != 0)), (by first | rfl | (simp; done) | (simp only [← hji13] <;> (first | rfl | simp)) | (simp [*]; done)), (by first | exact H' | (subst_vars; exact H')), ⟨by have := HJ3.out; have := HK2.out; first | omega | exact Nat.le_refl _⟩, ⟨kV HO_0⟩, ⟨kH HB⟩⟩
        rw [if_neg c15] at H
        exact absurd H (by simp)
      rw [if_neg c14] at H
      exact absurd H (by simp)
     case rest =>
      clear qj; (try clear c1); (try clear p2); (try clear c3); (try clear q9); (try clear p4); (try clear q4); (try clear hx4); (try clear c5); (try clear q5); (try clear c6); (try clear qc); (try clear p6); (try clear c7); (try clear c8); (try clear qf); (try clear c9); (try clear qd); (try clear c10); (try clear qi); (try clear c12); (try clear c14); (try clear qh); (try clear c15); (try clear qk); (try clear c16); (try clear ql); (try clear qm); (try clear qg); (try clear qn); (try clear p2); (try clear p4); (try clear p423); (try clear p424); (try clear p6); (try clear q4); (try clear q423); (try clear q424); obtain ⟨kq, q8, rfl, HA, qo, HO_0, HB⟩ := hcut
      cases kq with
      | zero => exact absurd HA.out (by simp [r2_Shr.j3])
      | succ qp =>
       have H := HA.out; clear HA
       simp only [r2_Shr.j3] at H
       have H' := aK H; clear H
       go_wp2
       go_loopg [11, 12] qp (fun kq v11 v12 w' => ∃ (q3 : List Int) (q1 : Int), v12 = .int .i64 q1 ∧ Aside0 (r2_Shr.l2 kq l0 q8 q0 q3 q1 = some (r1, r2)) ∧ Aside0 (kq ≤ qp) ∧ Aside0 (Kd.V (Kd.int .u32) 124 w' w.heap.size (fun k_ => (P0_ k_ ∨ w.heap.size ≤ k_) ∧ some k_ ≠ (v11 : Value).ownBlock) (.slice A0 l0.length c0) l0) ∧ Aside0 (Kd.R (Kd.int .u32) 124 w' w.heap.size (fun k_ => (w.heap.size ≤ k_)) v11 q3) ∧ Aside0 (Below w.heap.size w w'))
       case atStart => exact ⟨(([] : List Int)), ((wrap64 (Int.tdiv a1 16))), RSq, (by first | exact H' | (subst_vars; exact H')), ⟨Nat.le_refl _⟩, ⟨by (with_reducible repeat (first | apply Kd.V_alloc | apply Kd.V_drewN | apply Kd.V_drew)); exact Kd.V_mono HO_0.out (fun _ hk => ⟨hk, (by simp [Value.ownBlock])⟩)⟩, ⟨by first | exact Kd.R_nil _ _ _ _ _ | exact Kd.N_nil _ _ _ _ _ | exact Kd.V_nil _ _ _ _ _ | exact Kd.Q_nil _ _ _ _ _ | exact Kd.S_nil _ _ _ _ _ | exact Kd.R_nil _ _ _ 0 _ | exact Kd.R_nil _ _ _ 0 (fun k_ => w.heap.size ≤ k_)⟩, ⟨kH HB⟩⟩
       case round =>
        clear H'; (try clear c1); (try clear p2); (try clear c3); (try clear q9); (try clear p4); (try clear q4); (try clear hx4); (try clear c5); (try clear q5); (try clear c6); (try clear qc); (try clear p6); (try clear c7); (try clear c8); (try clear qf); (try clear c9); (try clear qd); (try clear c10); (try clear qi); (try clear c12); (try clear c14); (try clear qh); (try clear c15); (try clear qk); (try clear c16); (try clear ql); (try clear qm); (try clear qg); (try clear qn); (try clear p2); (try clear p4); (try clear p423); (try clear p424); (try clear p6); (try clear q4); (try clear q423); (try clear q424); obtain ⟨q3, q1, rfl, HA, HK4, HO_0, HO_11, HB⟩ := hrel
        cases gk with
        | zero => exact absurd HA.out (by simp [r2_Shr.l2])
        | succ k4 =>
         have H := HA.out; clear HA
         simp only [r2_Shr.l2] at H
         by_cases c17 : q1 < (l0.length : Int)
         · rw [if_pos c17] at H
           have qv : decide (q1 < (l0.length : Int)) = true := decide_eq_true c17; clear c17
           by_cases c18 : 0 ≤ q1
           · rw [if_pos c18] at H
             have c18b0 : decide (0 ≤ q1) = true := decide_eq_true c18; clear c18
             by_cases c19 : q0 = 0
             · rw [if_pos c19] at H
               exact absurd H (by simp)
             rw [if_neg c19] at H
             have c19b0 : (q0 == 0) = false := beq_eq_false_iff_ne.mpr c19; have c19b1 : (q0 != 0) = true := bne_iff_ne.mpr c19; replace H := Option.bind_eq_some_iff.mp H; obtain ⟨q6, qq, H⟩ := H; replace H : (if q3.length < 35184372088832 then (r2_Shr.l2 k4 l0 q8 q0 (q3 ++ [IntKind.u32.wrap ((IntKind.u32.wrap (Int.tdiv (rd l0 q1) q0)) + (IntKind.u32.wrap ((Int.tmod q6 q0) * (IntKind.u32.wrap (Int.tdiv (65536 : Int) q0)))))]) (wrap64 (q1 + 1))) else (none)) = some (r1, r2) := H; have A20 := aK qq; clear qq
             by_cases c21 : q3.length < 35184372088832
             · rw [if_pos c21] at H
               have LMc21 := aK c21; clear c21; obtain ⟨y427, hy427⟩ : ∃ y_ : List Int, y_ = (q3 ++ [IntKind.u32.wrap ((IntKind.u32.wrap (Int.tdiv (rd l0 q1) q0)) + (IntKind.u32.wrap ((Int.tmod q6 q0) * (IntKind.u32.wrap (Int.tdiv (65536 : Int) q0)))))]) := ⟨_, rfl⟩
               replace H : (r2_Shr.l2 k4 l0 q8 q0 y427 (wrap64 (q1 + 1))) = some (r1, r2) := by first | (rw [hy427]; with_reducible exact H) | (have H2_ := (Option.bind_some _ _).symm.trans H; rw [hy427]; with_reducible exact H2_) | (have H2_ := (Option.bind_some _ _).symm.trans H; with_reducible exact H2_) | with_reducible exact H | (rw [hy427]; exact H) | exact H
               have Ny427 := aK hy427; clear hy427; have H' := aK H; clear H
               try go_wp2
               replace HO_0 := aK (Kd.V_drew HO_0.out); replace HO_11 := aK (Kd.R_drew HO_11.out); replace HB := aK (below_drew1 HB.out); have p425 : 0 ≤ (q1 : Int) := of_decide_eq_true ASq; have q425 : q1 < (l0.length : Int) := of_decide_eq_true ASq; obtain ⟨ad425, e425, qr⟩ := Kd.at_int (Kd.V_reads' HO_0.out).2.2 q1 p425 q425
               cases e425
               replace p425 := eq_true p425; replace q425 := eq_true q425; refine start_ (n := 20) (S := fun w' => w'.cell? (ad425.add (q1).toNat) = some (.int .u32 (rd l0 q1))) (ds := [17, 18]) #[false, false, false, false, false, false, false, false, false, false, false, false, false, false, false, false, false, false, false, false] (by kernel_rfl) rfl rfl (qr) (fun hHeld => ?_); refine with_tabW r2_Shr.tab21 r2_Shr.bits21 (fun HT_ HW_ => ?_)
               generalize wr.drew = w22 at HO_0 HO_11 HB qr hHeld ⊢
               refine pure_ (i := 0) (N := some 67) (v := ?_) (a' := ?_) #[true, false, false, false, false, false, false, false, false, false, false, false, false, false, false, false, false, false, false, false] rfl rfl (any_of HT_.out (by kernel_rfl)) (fun _ _ _ h => h) (Or.inl ⟨by rfl, ?_⟩) ?_ ?_; rotate_left
               · intro w'
                 go_simp
                 with_reducible rfl
               rotate_left
               · exact APq
               refine pure_ (i := 1) (N := some 68) (v := ?_) (a' := ?_) #[true, true, false, false, false, false, false, false, false, false, false, false, false, false, false, false, false, false, false, false] rfl rfl (any_of HT_.out (by kernel_rfl)) (fun _ _ _ h => h) (Or.inl ⟨by rfl, ?_⟩) ?_ ?_; rotate_left
               · intro w'
                 go_simp
                 with_reducible rfl
               rotate_left
               · exact APq
               refine pure_ (i := 2) (N := some 69) (v := ?_) (a' := ?_) #[true, true, true, false, false, false, false, false, false, false, false, false, false, false, false, false, false, false, false, false] rfl rfl (any_of HT_.out (by kernel_rfl)) (fun _ _ _ h => h) (Or.inl ⟨by rfl, ?_⟩) ?_ ?_; rotate_left
               · intro w'
                 go_simp
                 with_reducible rfl
               rotate_left
               · exact APq
               refine pure_ (i := 3) (N := some 70) (v := ?_) (a' := ?_) #[true, true, true, true, false, false, false, false, false, false, false, false, false, false, false, false, false, false, false, false] rfl rfl (any_of HT_.out (by kernel_rfl)) (fun _ _ _ h => h) (Or.inl ⟨by rfl, ?_⟩) ?_ ?_; rotate_left
               · intro w'
                 go_simp
                 with_reducible rfl
               rotate_left
               · exact APq
               refine pure_ (i := 5) (N := some 72) (v := ?_) (a' := ?_) #[true, true, true, true, false, true, false, false, false, false, false, false, false, false, false, false, false, false, false, false] rfl rfl (any_of HT_.out (by kernel_rfl)) (fun _ _ _ h => h) (Or.inl ⟨by rfl, ?_⟩) ?_ ?_; rotate_left
               · intro w'
                 go_simp
                 with_reducible rfl
               rotate_left
               · exact APq
               refine pure_ (i := 7) (N := some 74) (v := ?_) (a' := ?_) #[true, true, true, true, false, true, false, true, false, false, false, false, false, false, false, false, false, false, false, false] rfl rfl (any_of HT_.out (by kernel_rfl)) (fun _ _ _ h => h) (Or.inl ⟨by rfl, ?_⟩) ?_ ?_; rotate_left
               · intro w'
                 go_simp
                 with_reducible rfl
               rotate_left
               · exact APq
               refine pure_ (i := 8) (N := some 75) (v := ?_) (a' := ?_) #[true, true, true, true, false, true, false, true, true, false, false, false, false, false, false, false, false, false, false, false] rfl rfl (any_of HT_.out (by kernel_rfl)) (fun _ _ _ h => h) (Or.inl ⟨by rfl, ?_⟩) ?_ ?_; rotate_left
               · intro w'
                 go_simp
                 with_reducible rfl
               rotate_left
               · exact APq
               refine pure_ (i := 9) (N := some 76) (v := ?_) (a' := ?_) #[true, true, true, true, false, true, false, true, true, true, false, false, false, false, false, false, false, false, false, false] rfl rfl (any_of HT_.out (by kernel_rfl)) (fun _ _ _ h => h) (Or.inl ⟨by rfl, ?_⟩) ?_ ?_; rotate_left
               · intro w'
                 go_simp
                 with_reducible rfl
               rotate_left
               · exact APq
               refine pure_ (i := 11) (N := some 78) (v := ?_) (a' := ?_) #[true, true, true, true, false, true, false, true, true, true, false, true, false, false, false, false, false, false, false, false] rfl rfl (any_of HT_.out (by kernel_rfl)) (fun _ _ _ h => h) (Or.inl ⟨by rfl, ?_⟩) ?_ ?_; rotate_left
               · intro w'
                 go_simp
                 with_reducible rfl
               rotate_left
               · exact APq
               refine pure_ (i := 13) (N := some 80) (v := ?_) (a' := ?_) #[true, true, true, true, false, true, false, true, true, true, false, true, false, true, false, false, false, false, false, false] rfl rfl (any_of HT_.out (by kernel_rfl)) (fun _ _ _ h => h) (Or.inl ⟨by rfl, ?_⟩) ?_ ?_; rotate_left
               · intro w'
                 go_simp
                 with_reducible rfl
               rotate_left
               · exact APq
               refine pure_ (i := 14) (N := some 81) (v := ?_) (a' := ?_) #[true, true, true, true, false, true, false, true, true, true, false, true, false, true, true, false, false, false, false, false] rfl rfl (any_of HT_.out (by kernel_rfl)) (fun _ _ _ h => h) (Or.inl ⟨by rfl, ?_⟩) ?_ ?_; rotate_left
               · intro w'
                 go_simp
                 with_reducible rfl
               rotate_left
               · exact APq
               refine take_ (i := 4) (N := some 71) (v := ?_) (a' := ?_) #[true, true, true, true, true, true, false, true, true, true, false, true, false, true, true, false, false, false, false, false] rfl rfl (take_ofW HT_.out HW_.out (by kernel_rfl)) (fun _ _ _ h => h) (Or.inl ⟨by rfl, ?_⟩) hHeld ?_ ?_; rotate_left
               · intro w' s0
                 go_simp
                 with_reducible rfl
               rotate_left
               · exact APq
               refine pure_ (i := 6) (N := some 73) (v := ?_) (a' := ?_) #[true, true, true, true, true, true, true, true, true, true, false, true, false, true, true, false, false, false, false, false] rfl rfl (any_of HT_.out (by kernel_rfl)) (fun _ _ _ h => h) (Or.inl ⟨by rfl, ?_⟩) ?_ ?_; rotate_left
               · intro w'
                 go_simp
                 with_reducible rfl
               rotate_left
               · exact APq
               refine one_ (i := 10) (N := some 77) #[true, true, true, true, true, true, true, true, true, true, true, true, false, true, true, false, false, false, false, false] rfl rfl (one_of HT_.out (by kernel_rfl)) (by decide) (fun K hK => ?_); refine goes_ Try.func98 (by kernel_rfl) rfl #[.slice (some ad425) l0.length c0, .int .i64 (wrap64 (q1 + 1))] (by rfl) rfl rfl LMq ?_
               with_reducible refine (r2_at.calls _ _ l0 (wrap64 (q1 + 1)) q6 _ ?side1 ?side2 A20.out).mono ?_
               (case side1 => exact kC (Kd.V_reads' HO_0.out).2.2)
               (case side2 => exact (Kd.V_reads' HO_0.out).2.1)
               rintro e w' ⟨rfl, ⟨nd, rfl⟩⟩; refine ⟨_, rfl, ?_⟩; refine hK.out _ _ (hHeld) (fun hHeld => ?_); clear hK K; refine norm_ (a' := ?_) ?_ ?_; rotate_left
               · show Act.put _ (some 77) _ = _
                 exact APq
               refine pure_ (i := 12) (N := some 79) (v := ?_) (a' := ?_) #[true, true, true, true, true, true, true, true, true, true, true, true, true, true, true, false, false, false, false, false] rfl rfl (any_of HT_.out (by kernel_rfl)) (fun _ _ _ h => h) (Or.inl ⟨by rfl, ?_⟩) ?_ ?_; rotate_left
               · intro w'
                 go_simp
                 with_reducible rfl
               rotate_left
               · exact APq
               refine pure_ (i := 15) (N := some 82) (v := ?_) (a' := ?_) #[true, true, true, true, true, true, true, true, true, true, true, true, true, true, true, true, false, false, false, false] rfl rfl (any_of HT_.out (by kernel_rfl)) (fun _ _ _ h => h) (Or.inl ⟨by rfl, ?_⟩) ?_ ?_; rotate_left
               · intro w'
                 go_simp
                 with_reducible rfl
               rotate_left
               · exact APq
               refine pure_ (i := 16) (N := some 83) (v := ?_) (a' := ?_) #[true, true, true, true, true, true, true, true, true, true, true, true, true, true, true, true, true, false, false, false] rfl rfl (any_of HT_.out (by kernel_rfl)) (fun _ _ _ h => h) (Or.inl ⟨by rfl, ?_⟩) ?_ ?_; rotate_left
               · intro w'
                 go_simp
                 with_reducible rfl
               rotate_left
               · exact APq
               refine last_ (i := 17) (N := some 84) #[true, true, true, true, true, true, true, true, true, true, true, true, true, true, true, true, true, true, false, false] rfl rfl (one_of HT_.out (by kernel_rfl)) (by decide) (fun K hK => ?_); refine value_ (w1 := ?_) (v := ?_) (by rfl) rfl ?_ ?_
               rotate_left 2
               · go_simp
                 constructor
                 · rfl
                 rfl
               refine hK.out _ _ ?_; clear hK K; refine norm_ (a' := ?_) ?_ ?_; rotate_left
               · show Act.put _ (some 84) _ = _
                 exact APq
               refine last_ (i := 18) (N := some 85) #[true, true, true, true, true, true, true, true, true, true, true, true, true, true, true, true, true, true, true, false] rfl rfl (one_of HT_.out (by kernel_rfl)) (by decide) (fun K hK => ?_); refine Kd.R_append_step (Kd.int .u32) (w0 := w) w.heap.size (by rfl) (.tmp 67) (.tmp 84) 75 124 (.int .u32 0) 4 rfl Try.underlying75 info124 rfl (by decide) (by omega) u11 q3 (IntKind.u32.wrap ((IntKind.u32.wrap (Int.tdiv (rd l0 q1) q0)) + (IntKind.u32.wrap ((Int.tmod q6 q0) * (IntKind.u32.wrap (Int.tdiv (65536 : Int) q0)))))) [.int .u32 (IntKind.u32.wrap ((IntKind.u32.wrap (Int.tdiv (rd l0 q1) q0)) + (IntKind.u32.wrap ((Int.tmod q6 q0) * (IntKind.u32.wrap (Int.tdiv (65536 : Int) q0))))))] (fun k_ => (w.heap.size ≤ k_)) (fun _ => False) rfl rfl ?aP (fun _ hk => hk.elim) ?aF ?aO ?aB ?aS ?aL ?_
               (case aP => exact rfl)
               (case aB => exact (kH HB))
               (case aF => exact (fun k_ hk => (Nat.le_trans (below_size (kH HB)) hk)))
               (case aO => exact (kR HO_11))
               (case aS => exact (below_size (kH HB)))
               (case aL => have := LMc21.out; omega)
               intro v428 w23 ho hb hg hat
               rw [← Ny427.out] at ho
               replace HO_0 := aK (Kd.V_afterv (ok := (fun k_ => (P0_ k_ ∨ w.heap.size ≤ k_))) (kV HO_0) hg hat); replace HB := aK (hb); have qw := aK (ho); clear HO_11 ho hb hg hat; refine hK.out _ _ ?_; clear hK K; refine norm_ (a' := ?_) ?_ ?_; rotate_left
               · show Act.put _ (some 85) _ = _
                 exact APq
               refine pure_ (i := 19) (N := some 11) (v := ?_) (a' := ?_) #[true, true, true, true, true, true, true, true, true, true, true, true, true, true, true, true, true, true, true, true] rfl rfl (any_of HT_.out (by kernel_rfl)) (fun _ _ _ h => h) (Or.inl ⟨by rfl, ?_⟩) ?_ ?_; rotate_left
               · intro w'
                 go_simp
                 with_reducible rfl
               rotate_left
               · exact APq
               refine done_ (done_of HT_.out (by kernel_rfl)) ?_
               try go_wp2
               go_roundg k4
               case measure => have := HJ3.out; have := HK2.out; have := qo.out; have := HK4.out; omega
               case rel => exact ⟨(y427), (wrap64 (q1 + 1)), RSq, (by first | exact H' | (subst_vars; exact H')), ⟨by have := HJ3.out; have := HK2.out; have := qo.out; have := HK4.out; omega⟩, ⟨kV HO_0⟩, ⟨kR qw⟩, ⟨kH HB⟩⟩
             rw [if_neg c21] at H
             exact absurd H (by simp)
           rw [if_neg c18] at H
           exact absurd H (by simp)
         rw [if_neg c17] at H
         have qv : decide (q1 < (l0.length : Int)) = false := decide_eq_false c17; clear c17; replace H := Option.bind_eq_some_iff.mp H; obtain ⟨qe, qs, H⟩ := H; replace H : (some (qe, q8)) = some (r1, r2) := H; have A24 := aK qs; clear qs
         simp only [Option.some.injEq, Prod.mk.injEq] at H
         obtain ⟨rfl, rfl⟩ := H; obtain ⟨qt, qu, eo25⟩ := Kd.R_slice HO_11.out; subst eo25
         go_wp2_with (first | ((with_reducible refine gate_callee (f := 97) rfl ?_); refine goesL_ (some 87) rfl rfl Try.func97 (by kernel_rfl) rfl #[.slice qt q3.length qu] rfl LMq ?_; (with_reducible refine (r2_trim.calls k4 (fun k_ => some k_ = (.slice qt q3.length qu : Value).ownBlock) _ _ q3 qe _ ?side1 A24.out).mono ?_); (case side1 => exact Kd.R_V (Kd.R_tight rfl (HO_11.out))); rintro e w26 ⟨v431, rfl, ho0, hb⟩; refine ⟨_, rfl, ?_⟩; replace HO_0 := aK (Kd.V_below (kV HO_0) hb); have qx := aK (Kd.V_lower (Kd.V_mono (ok' := fun k_ => (P0_ k_ ∨ w.heap.size ≤ k_)) ho0 (fun k_ hk_ => Or.elim hk_ (fun hs_ => (.inr (((HO_11.out).1 k_ hs_.symm)))) (fun hn_ => (.inr (Nat.le_trans (below_size (kH HB)) hn_))))) (below_size (kH HB))); replace HO_11 := aK (Kd.R_below (kR HO_11) hb); replace HB := aK (below_step (kH HB) hb); (try clear hb); (try clear hb2); (try clear hk); (try clear hi); (try clear ho0)))
         go_ret2
         exact ⟨_, by first | rfl | (simp [errW_none, errW_some] <;> rfl) | (simp [*, errW_none, errW_some] <;> rfl), by (with_reducible repeat (first | apply Kd.V_alloc | apply Kd.V_drewN | apply Kd.V_drew)); exact qx.out, kH HB⟩
end Go.Proofs.Ythcgeekibomhiaa.X
