import Derived.Test.YthcgeekibomhiaaKM6
import Derived.Test.YthcgeekibomhiaaKMXtillerref04To
namespace Go.Proofs.Ythcgeekibomhiaa.X
open Go.RowKit Go.Proofs.YthcgeekibomhiaaW.PrintWords Go.Proofs.YthcgeekibomhiaaW.PrintLast Go.Proofs.YthcgeekibomhiaaW.PrintMore
attribute [local go_sem] max2_int min2_int max_two min_two max_three min_three max_four min_four   
set_option linter.unusedVariables false
set_option linter.unusedSimpArgs false
mutual
def r4_Round.j0 : Nat → Int → Bool → Bool → Int → List Int → Option (Int × Int)
 | 0, _, _, _, _, _ => none
 | k + 1, x1, x19, qa, qf, qg => if x19 = true then (r4_Round.j1 k 0 qa qf qg) else (r4_Round.j1 k x1 qa qf qg)
def r4_Round.j1 : Nat → Int → Bool → Int → List Int → Option (Int × Int)
 | 0, _, _, _, _ => none
 | k + 1, x1, qa, qf, qg => if (qg.length : Int) = 0 then ((r4_signed.f 0 qa).bind fun q04 => (some (q04, 0))) else ((r2_Len.f k qg).bind fun qh => (if (wrap64 (qf + qh)) > 1100 then ((r4_over.f qa x1).bind fun qs => ((r4_signed.f qs qa).bind fun qt => (some (qt, 20)))) else (if (wrap64 (qf + qh)) < (-1200) then ((r2_Of.f k 1).bind fun qp => (r4_Round.j2 k x1 (-1299) qa (-1300) qp)) else (r4_Round.j2 k x1 (wrap64 (qf + qh)) qa qf qg))))
def r4_Round.j2 : Nat → Int → Int → Bool → Int → List Int → Option (Int × Int)
 | 0, _, _, _, _, _ => none
 | k + 1, x1, x6, qa, qf, qg => (r4_To.f k qa qf qg (mx (wrap64 (x6 - 53)) (-1074)) x1).bind fun qq => (if qq.2 = true then ((r4_To.f k qa qf qg (wrap64 (x6 - 53)) x1).bind fun qy => ((r2_Len.f k qy.1).bind fun qi => (if (wrap64 ((wrap64 (qi + x6)) - 53)) ≤ (-1022) then (r4_Round.j3 k x1 (mx (wrap64 (x6 - 53)) (-1074)) qq.1 24 qa qf qg) else (r4_Round.j3 k x1 (mx (wrap64 (x6 - 53)) (-1074)) qq.1 16 qa qf qg)))) else (r4_Round.j3 k x1 (mx (wrap64 (x6 - 53)) (-1074)) qq.1 0 qa qf qg))
def r4_Round.j3 : Nat → Int → Int → List Int → Int → Bool → Int → List Int → Option (Int × Int)
 | 0, _, _, _, _, _, _, _ => none
 | k + 1, x1, x7, x8, x10, qa, qf, qg => (r2_Len.f k x8).bind fun qu => (if (wrap64 (qu + x7)) > 1024 then ((r4_over.f qa x1).bind fun qv => ((r4_signed.f qv qa).bind fun qw => (some (qw, 20)))) else ((r2_Low.f k x8).bind fun qj => (if qj = 9007199254740992 then (r4_Round.j4 k (wrap64 (x7 + 1)) x10 4503599627370496 qa qf qg) else (r4_Round.j4 k x7 x10 qj qa qf qg))))
def r4_Round.j4 : Nat → Int → Int → Int → Bool → Int → List Int → Option (Int × Int)
 | 0, _, _, _, _, _, _ => none
 | k + 1, x7, x10, x13, qa, qf, qg => if x13 ≥ 4503599627370496 then ((r4_signed.f (IntKind.u64.wrap ((IntKind.u64.wrap ((IntKind.u64.wrap ((IntKind.u64.wrap (wrap64 (x7 + 1075))) * 4503599627370496)) + x13)) - 4503599627370496)) qa).bind fun q05 => (some (q05, x10))) else ((r4_signed.f x13 qa).bind fun q06 => (some (q06, x10)))
end
def r4_Round.f (k : Nat) (q5 : Bool) (q7 : Int) (l0_2 : List Int) (a1 : Int) : Option (Int × Int) := if a1 < 0 then (r4_Round.j0 k a1 true q5 q7 l0_2) else (r4_Round.j0 k a1 (decide (a1 > 4)) q5 q7 l0_2)
theorem r4_Round.mono_l : ∀ k, (∀ y0 y1 y2 y3 y4, LeO (r4_Round.j0 k y0 y1 y2 y3 y4) (r4_Round.j0 (k + 1) y0 y1 y2 y3 y4)) ∧ (∀ y0 y1 y2 y3, LeO (r4_Round.j1 k y0 y1 y2 y3) (r4_Round.j1 (k + 1) y0 y1 y2 y3)) ∧ (∀ y0 y1 y2 y3 y4, LeO (r4_Round.j2 k y0 y1 y2 y3 y4) (r4_Round.j2 (k + 1) y0 y1 y2 y3 y4)) ∧ (∀ y0 y1 y2 y3 y4 y5 y6, LeO (r4_Round.j3 k y0 y1 y2 y3 y4 y5 y6) (r4_Round.j3 (k + 1) y0 y1 y2 y3 y4 y5 y6)) ∧ (∀ y0 y1 y2 y3 y4 y5, LeO (r4_Round.j4 k y0 y1 y2 y3 y4 y5) (r4_Round.j4 (k + 1) y0 y1 y2 y3 y4 y5))
 | 0 => ⟨fun _ _ _ _ _ r h => by simp [r4_Round.j0] at h, fun _ _ _ _ r h => by simp [r4_Round.j1] at h, fun _ _ _ _ _ r h => by simp [r4_Round.j2] at h, fun _ _ _ _ _ _ _ r h => by simp [r4_Round.j3] at h, fun _ _ _ _ _ _ r h => by simp [r4_Round.j4] at h⟩
 | k + 1 => by
  obtain ⟨ih0, ih1, ih2, ih3, ih4⟩ := r4_Round.mono_l k; refine ⟨?_, ?_, ?_, ?_, ?_⟩
  · intro y0 y1 y2 y3 y4
    unfold r4_Round.j0
    repeat' (with_reducible first | exact ih0 _ _ _ _ _ | exact ih1 _ _ _ _ | exact ih2 _ _ _ _ _ | exact ih3 _ _ _ _ _ _ _ | exact ih4 _ _ _ _ _ _ | exact r2_Len.mono _ _ | exact r2_Low.mono _ _ | exact r2_Of.mono _ _ | exact r4_To.mono _ _ _ _ _ _ | exact LeO.refl _ | exact LeO.none _ | refine LeO.ite ?_ ?_ | refine LeO.bind ?_ (fun _ => ?_))
  · intro y0 y1 y2 y3
    unfold r4_Round.j1
    repeat' (with_reducible first | exact ih0 _ _ _ _ _ | exact ih1 _ _ _ _ | exact ih2 _ _ _ _ _ | exact ih3 _ _ _ _ _ _ _ | exact ih4 _ _ _ _ _ _ | exact r2_Len.mono _ _ | exact r2_Low.mono _ _ | exact r2_Of.mono _ _ | exact r4_To.mono _ _ _ _ _ _ | exact LeO.refl _ | exact LeO.none _ | refine LeO.ite ?_ ?_ | refine LeO.bind ?_ (fun _ => ?_))
  · intro y0 y1 y2 y3 y4
    unfold r4_Round.j2
    repeat' (with_reducible first | exact ih0 _ _ _ _ _ | exact ih1 _ _ _ _ | exact ih2 _ _ _ _ _ | exact ih3 _ _ _ _ _ _ _ | exact ih4 _ _ _ _ _ _ | exact r2_Len.mono _ _ | exact r2_Low.mono _ _ | exact r2_Of.mono _ _ | exact r4_To.mono _ _ _ _ _ _ | exact LeO.refl _ | exact LeO.none _ | refine LeO.ite ?_ ?_ | refine LeO.bind ?_ (fun _ => ?_))
  · intro y0 y1 y2 y3 y4 y5 y6
    unfold r4_Round.j3
    repeat' (with_reducible first | exact ih0 _ _ _ _ _ | exact ih1 _ _ _ _ | exact ih2 _ _ _ _ _ | exact ih3 _ _ _ _ _ _ _ | exact ih4 _ _ _ _ _ _ | exact r2_Len.mono _ _ | exact r2_Low.mono _ _ | exact r2_Of.mono _ _ | exact r4_To.mono _ _ _ _ _ _ | exact LeO.refl _ | exact LeO.none _ | refine LeO.ite ?_ ?_ | refine LeO.bind ?_ (fun _ => ?_))
  intro y0 y1 y2 y3 y4 y5
  unfold r4_Round.j4
  repeat' (with_reducible first | exact ih0 _ _ _ _ _ | exact ih1 _ _ _ _ | exact ih2 _ _ _ _ _ | exact ih3 _ _ _ _ _ _ _ | exact ih4 _ _ _ _ _ _ | exact r2_Len.mono _ _ | exact r2_Low.mono _ _ | exact r2_Of.mono _ _ | exact r4_To.mono _ _ _ _ _ _ | exact LeO.refl _ | exact LeO.none _ | refine LeO.ite ?_ ?_ | refine LeO.bind ?_ (fun _ => ?_))
theorem r4_Round.mono : ∀ a0 a1 a2 a3 k, LeO (r4_Round.f k a0 a1 a2 a3) (r4_Round.f (k + 1) a0 a1 a2 a3) := by
 intro a0 a1 a2 a3 k; obtain ⟨ih0, ih1, ih2, ih3, ih4⟩ := r4_Round.mono_l k
 unfold r4_Round.f
 repeat' (with_reducible first | exact ih0 _ _ _ _ _ | exact ih1 _ _ _ _ | exact ih2 _ _ _ _ _ | exact ih3 _ _ _ _ _ _ _ | exact ih4 _ _ _ _ _ _ | exact r2_Len.mono _ _ | exact r2_Low.mono _ _ | exact r2_Of.mono _ _ | exact r4_To.mono _ _ _ _ _ _ | exact LeO.refl _ | exact LeO.none _ | refine LeO.ite ?_ ?_ | refine LeO.bind ?_ (fun _ => ?_))
def r4_Round.T7 : Bool × List (List Nat × List Nat) := (true, [([], []), ([0], [0]), ([], []), ([1, 2], [1, 2]), ([], []), ([4], [4]), ([3, 5, 3], [3, 5]), ([6, 6, 0, 1, 2, 3, 4, 5, 6], [6]), ([7, 0, 1, 2, 3, 4, 5, 6, 7], [])])
def r4_Round.B7 : List Nat := [0, 1, 0, 7, 0, 16, 63, 127, 255]
theorem r4_Round.tab7 : rtab .any (opsOf Try.f55 7) = r4_Round.T7 := by kernel_rfl
theorem r4_Round.bits7 : waitsOk r4_Round.T7.2 r4_Round.B7 = true := by kernel_rfl
def r4_Round.T20 : Bool × List (List Nat × List Nat) := (true, [([], []), ([0], [0]), ([], []), ([1, 2], [1, 2]), ([], []), ([4], [4]), ([3, 5, 3], [3, 5]), ([6, 6, 0, 1, 2, 3, 4, 5, 6], [6]), ([7, 0, 1, 2, 3, 4, 5, 6, 7], [])])
def r4_Round.B20 : List Nat := [0, 1, 0, 7, 0, 16, 63, 127, 255]
theorem r4_Round.tab20 : rtab .any (opsOf Try.f55 20) = r4_Round.T20 := by kernel_rfl
theorem r4_Round.bits20 : waitsOk r4_Round.T20.2 r4_Round.B20 = true := by kernel_rfl
set_option maxHeartbeats 8000000 in
set_option maxRecDepth 100000 in
theorem r4_Round.calls (k : Nat) (q5 : Bool) (q7 : Int) (P0_2_ : Nat → Prop) (A0_2 : Option Addr) (c0_2 : Nat) (l0_2 : List Int) (a1 : Int) (r1 : Int) (r2 : Int) (w : World) (hs0_2 : Kd.V (Kd.int .u32) 124 w w.heap.size (fun k_ => P0_2_ k_) (.slice A0_2 l0_2.length c0_2) l0_2) (h : r4_Round.f k q5 q7 l0_2 a1 = some (r1, r2)) :
 Calls Try.prog 55 #[.agg #[.bool q5, .int .i64 q7, .slice A0_2 l0_2.length c0_2], .int .i64 a1] w fun e w' => e = .returned (.tuple #[.int .u64 r1, .int .i64 r2]) ∧ Below w.heap.size w w' := by
 have hu77 := Try.underlying77; have HO0_2 := aK (show Kd.V (Kd.int .u32) 124 w w.heap.size (fun k_ => (P0_2_ k_ ∨ w.heap.size ≤ k_)) (.slice A0_2 l0_2.length c0_2) l0_2 from Kd.V_mono hs0_2 (fun k_ hk => .inl hk)); have HB := aK (Below.refl w.heap.size w); have H : (if a1 < 0 then (r4_Round.j0 k a1 true q5 q7 l0_2) else (r4_Round.j0 k a1 (decide (a1 > 4)) q5 q7 l0_2)) = some (r1, r2) := h; clear h; have HC3 := aK H; clear H
 go_enter Try.func55, Try.ntmps55
 go_upto_region 1 with (first | ((with_reducible refine gate_dst (N := 2) rfl ?_); refine box_event ?hg (N := 2) ?hd (cs := #[.bool q5, .int .i64 q7, .slice A0_2 l0_2.length c0_2]) (t := 77) ?hr ?_; (case hd => rfl); (case hg => rfl); (case hr => first | (go_simp; done) | (go_simp; rfl)); intro q2 hg w4 hbox hb; replace HO0_2 := aK (Kd.V_below (Kd.V_elderB (kV HO0_2) q2 (Nat.le_of_eq hg.symm)) hb); have q0 := aK (hbox); have GW465 := aK ((by rw [hg]; exact (below_size (kH HB)) : w.heap.size ≤ q2)); have q8 := aK ((by rw [hg]; exact (below_size (kH HB)) : w.heap.size ≤ q2)); replace HB := aK (below_step (kH HB) hb); clear hb hbox hg))
 (try simp only [Act.put, List.setIfInBounds_toArray, List.set_cons_zero, List.set_cons_succ])
 go_cut [19] (fun v19 wc => ∃ (kq : Nat) (q07 : Bool), v19 = .bool q07 ∧ Aside0 (r4_Round.j0 kq a1 q07 q5 q7 l0_2 = some (r1, r2)) ∧ Aside0 (kq ≤ k) ∧ Aside0 (Kd.V (Kd.int .u32) 124 wc w.heap.size (fun k_ => (P0_2_ k_ ∨ w.heap.size ≤ k_) ∧ k_ ≠ q2) (.slice A0_2 l0_2.length c0_2) l0_2) ∧ Aside0 (wc.heap[q2]? = some (.cells #[.bool q5, .int .i64 q7, (.slice A0_2 l0_2.length c0_2)] 77 (0, 0))) ∧ Aside0 (Below w.heap.size w wc))
 case first =>
  have H := HC3.out; clear HC3
  by_cases c5 : a1 < 0
  · rw [if_pos c5] at H
    have qm : decide (a1 < 0) = true := decide_eq_true c5; clear c5
    (first | rw [qm] | (simp only [i64_w, i32_w]; rw [qm]) | skip)
    have H' := aK H; clear H
    go_wp2
    go_meet
    case rel => exact ⟨_, (true), RSq, (by first | exact H' | (subst_vars; exact H')), ⟨by first | omega | exact Nat.le_refl _⟩, ⟨kV HO0_2⟩, ⟨kB q0⟩, ⟨kHs HB q8⟩⟩
  rw [if_neg c5] at H
  have qm : decide (a1 < 0) = false := decide_eq_false c5; clear c5
  (first | rw [qm] | (simp only [i64_w, i32_w]; rw [qm]) | skip)
  have H' := aK H; clear H
  go_wp2
  go_meet
  case rel => exact ⟨_, (decide (a1 > 4)), RSq, (by first | exact H' | (subst_vars; exact H')), ⟨by first | omega | exact Nat.le_refl _⟩, ⟨kV HO0_2⟩, ⟨kB q0⟩, ⟨kHs HB q8⟩⟩
 case rest =>
  clear HC3; (try clear p2); (try clear c5); (try clear qm); obtain ⟨kq, q07, rfl, HA, HJ2, HO_466002, q0, HB⟩ := hcut
  cases kq with
  | zero => exact absurd HA.out (by simp [r4_Round.j0])
  | succ kj2 =>
   have H := HA.out; clear HA
   simp only [r4_Round.j0] at H
   have HC6 := aK H; clear H
   go_upto_if 19 with (fail)
   go_cut [1] (fun v1 wc => ∃ (kq : Nat) (q6 : Int), v1 = .int .i64 q6 ∧ Aside0 (r4_Round.j1 kq q6 q5 q7 l0_2 = some (r1, r2)) ∧ Aside0 (kq ≤ kj2) ∧ Aside0 (Kd.V (Kd.int .u32) 124 wc w.heap.size (fun k_ => (P0_2_ k_ ∨ w.heap.size ≤ k_) ∧ k_ ≠ q2) (.slice A0_2 l0_2.length c0_2) l0_2) ∧ Aside0 (wc.heap[q2]? = some (.cells #[.bool q5, .int .i64 q7, (.slice A0_2 l0_2.length c0_2)] 77 (0, 0))) ∧ Aside0 (Below w.heap.size w wc))
   case first =>
    have H := HC6.out; clear HC6
    by_cases c7 : q07 = true
    · subst c7
      have H1 : (r4_Round.j1 kj2 0 q5 q7 l0_2) = some (r1, r2) := by rw [if_pos rfl] at H; exact H
      clear H; have H := H1; clear H1; have H' := aK H; clear H
      go_wp2
      go_meet
      case rel => exact ⟨_, (0), RSq, (by first | exact H' | (subst_vars; exact H')), ⟨by have := HJ2.out; first | omega | exact Nat.le_refl _⟩, ⟨kV HO_466002⟩, ⟨kB q0⟩, ⟨kHs HB q8⟩⟩
    replace c7 := Bool.eq_false_iff.mpr c7; subst c7
    have H1 : (r4_Round.j1 kj2 a1 q5 q7 l0_2) = some (r1, r2) := by rw [if_neg (show ¬ (false = true) by decide)] at H; exact H
    clear H; have H := H1; clear H1; have H' := aK H; clear H
    go_wp2
    go_meet
    case rel => exact ⟨_, (a1), RSq, (by first | exact H' | (subst_vars; exact H')), ⟨by have := HJ2.out; first | omega | exact Nat.le_refl _⟩, ⟨kV HO_466002⟩, ⟨kB q0⟩, ⟨kHs HB q8⟩⟩
   case rest =>
    clear HC6; (try clear p2); (try clear c5); (try clear qm); (try clear p6); (try clear c7); (try clear p2); obtain ⟨kq, q6, rfl, HA, HJ5, HO_466002, q0, HB⟩ := hcut
    cases kq with
    | zero => exact absurd HA.out (by simp [r4_Round.j1])
    | succ kj5 =>
     have H := HA.out; clear HA
     simp only [r4_Round.j1] at H
     by_cases c8 : (l0_2.length : Int) = 0
     · rw [if_pos c8] at H
       have q08 : ((l0_2.length : Int) == 0) = true := beq_iff_eq.mpr c8; have q09 : ((l0_2.length : Int) != 0) = false := bne_eq_false_iff_eq.mpr c8; clear c8; replace H := Option.bind_eq_some_iff.mp H; obtain ⟨q04, A90, H⟩ := H; replace H : (some (q04, 0)) = some (r1, r2) := H; have A9 := aK A90; clear A90
       simp only [Option.some.injEq, Prod.mk.injEq] at H
       obtain ⟨rfl, rfl⟩ := H; obtain ⟨q0b, q0c, q0d, q0e, q0f, q0g⟩ := W3q q0
       go_wp2_with (first | ((with_reducible refine gate_callee (f := 85) rfl ?_); refine goesL_ (some 26) rfl rfl Try.func85 (by kernel_rfl) rfl #[.int .u64 0, .bool q5] rfl LMq ?_; (with_reducible refine (r4_signed.calls 0 q5 q04 _ A9.out).mono ?_); rintro e w' ⟨rfl, ⟨nd, rfl⟩⟩; refine ⟨_, rfl, ?_⟩))
       go_ret2
       exact ⟨by first | rfl | (simp [errW_none, errW_some] <;> rfl) | (simp [*, errW_none, errW_some] <;> rfl), kHs HB q8⟩
     rw [if_neg c8] at H
     have q08 : ((l0_2.length : Int) == 0) = false := beq_eq_false_iff_ne.mpr c8; have q09 : ((l0_2.length : Int) != 0) = true := bne_iff_ne.mpr c8
     have q0h : ¬ (l0_2 = []) := fun h_ => c8 (by rw [h_]; rfl)
     replace H := Option.bind_eq_some_iff.mp H; obtain ⟨qh, q0y, H⟩ := H; replace H : (if (wrap64 (q7 + qh)) > 1100 then ((r4_over.f q5 q6).bind fun qs => ((r4_signed.f qs q5).bind fun qt => (some (qt, 20)))) else (if (wrap64 (q7 + qh)) < (-1200) then ((r2_Of.f kj5 1).bind fun qp => (r4_Round.j2 kj5 q6 (-1299) q5 (-1300) qp)) else (r4_Round.j2 kj5 q6 (wrap64 (q7 + qh)) q5 q7 l0_2))) = some (r1, r2) := H; have A11 := aK q0y; clear q0y
     by_cases c12 : (wrap64 (q7 + qh)) > 1100
     · rw [if_pos c12] at H
       have q0a : decide (1100 < (wrap64 (q7 + qh))) = true := decide_eq_true c12; clear c12; replace H := Option.bind_eq_some_iff.mp H; obtain ⟨qs, q0z, H⟩ := H; replace H : ((r4_signed.f qs q5).bind fun qt => (some (qt, 20))) = some (r1, r2) := H; have A13 := aK q0z; clear q0z; replace H := Option.bind_eq_some_iff.mp H; obtain ⟨qt, q10, H⟩ := H; replace H : (some (qt, 20)) = some (r1, r2) := H; have A14 := aK q10; clear q10
       simp only [Option.some.injEq, Prod.mk.injEq] at H
       obtain ⟨rfl, rfl⟩ := H; obtain ⟨q0i, q0j, q0k, q0l, q0m, q0n⟩ := W3q q0
       try go_wp2
       replace HO_466002 := aK (Kd.V_drew HO_466002.out); replace q0 := aK (blk_drew q0.out); replace HB := aK (below_drew1 HB.out); refine start_ (n := 7) (S := fun w' => w'.cell? ⟨q2, 0, none⟩ = some (.bool q5) ∧ w'.cell? ⟨q2, 1, none⟩ = some (.int .i64 q7) ∧ w'.cell? ⟨q2, 2, none⟩ = some (.slice A0_2 l0_2.length c0_2)) (ds := []) #[false, false, false, false, false, false, false] (by kernel_rfl) rfl rfl ⟨bc q0 0, bc q0 1, bc q0 2⟩ (fun hHeld => ?_)
       generalize wc.drew = w16 at HO_466002 q0 HB hHeld ⊢
       refine pure_ (i := 0) (N := some 27) (v := ?_) (a' := ?_) #[true, false, false, false, false, false, false] rfl rfl (by kernel_rfl) (fun _ _ _ h => h) (Or.inl ⟨by rfl, ?_⟩) ?_ ?_; rotate_left
       · intro w'
         go_simp
         with_reducible rfl
       rotate_left
       · exact APq
       refine pure_ (i := 2) (N := some 29) (v := ?_) (a' := ?_) #[true, false, true, false, false, false, false] rfl rfl (by kernel_rfl) (fun _ _ _ h => h) (Or.inl ⟨by rfl, ?_⟩) ?_ ?_; rotate_left
       · intro w'
         go_simp
         with_reducible rfl
       rotate_left
       · exact APq
       refine take_ (i := 1) (N := some 28) (v := ?_) (a' := ?_) #[true, true, true, false, false, false, false] rfl rfl (by kernel_rfl) (fun _ _ _ h => h) (Or.inl ⟨by rfl, ?_⟩) hHeld ?_ ?_; rotate_left
       · rintro w' ⟨s0, s1, s2⟩
         go_simp
         with_reducible rfl
       rotate_left
       · exact APq
       refine take_ (i := 3) (N := some 30) (v := ?_) (a' := ?_) #[true, true, true, true, false, false, false] rfl rfl (by kernel_rfl) (fun _ _ _ h => h) (Or.inl ⟨by rfl, ?_⟩) hHeld ?_ ?_; rotate_left
       · rintro w' ⟨s0, s1, s2⟩
         go_simp
         with_reducible rfl
       rotate_left
       · exact APq
       refine one_ (i := 4) (N := some 31) #[true, true, true, true, true, false, false] rfl rfl (by kernel_rfl) (by decide) (fun K hK => ?_); refine goes_ Try.func86 (by kernel_rfl) rfl #[.slice A0_2 l0_2.length c0_2] (by rfl) rfl rfl LMq ?_
       with_reducible refine (r2_Len.calls kj5 _ _ l0_2 qh _ ?side1 ?side2 A11.out).mono ?_
       (case side1 => exact kC (Kd.V_reads' HO_466002.out).2.2)
       (case side2 => exact (Kd.V_reads' HO_466002.out).2.1)
       rintro e w17 ⟨rfl, hb⟩; refine ⟨_, rfl, ?_⟩; replace HO_466002 := aK (Kd.V_below (kV HO_466002) hb); replace q0 := aK (blk_below q0.out hb); replace HB := aK (below_step HB.out hb)
       (try clear hb)
       (try clear hb2)
       (try clear hk)
       (try clear hi)
       refine hK.out _ _ ⟨bc q0 0, bc q0 1, bc q0 2⟩ (fun hHeld => ?_); clear hK K; refine norm_ (a' := ?_) ?_ ?_; rotate_left
       · show Act.put _ (some 31) _ = _
         exact APq
       refine pure_ (i := 5) (N := some 32) (v := ?_) (a' := ?_) #[true, true, true, true, true, true, false] rfl rfl (by kernel_rfl) (fun _ _ _ h => h) (Or.inl ⟨by rfl, ?_⟩) ?_ ?_; rotate_left
       · intro w'
         go_simp
         with_reducible rfl
       rotate_left
       · exact APq
       refine pure_ (i := 6) (N := some 6) (v := ?_) (a' := ?_) #[true, true, true, true, true, true, true] rfl rfl (by kernel_rfl) (fun _ _ _ h => h) (Or.inl ⟨by rfl, ?_⟩) ?_ ?_; rotate_left
       · intro w'
         go_simp
         with_reducible rfl
       rotate_left
       · exact APq
       refine done_ (by kernel_rfl) ?_
       try go_wp2
       replace HO_466002 := aK (Kd.V_drew HO_466002.out); replace q0 := aK (blk_drew q0.out); replace HB := aK (below_drew1 HB.out); refine start_ (n := 9) (S := fun w' => w'.cell? ⟨q2, 0, none⟩ = some (.bool q5) ∧ w'.cell? ⟨q2, 1, none⟩ = some (.int .i64 q7) ∧ w'.cell? ⟨q2, 2, none⟩ = some (.slice A0_2 l0_2.length c0_2)) (ds := []) #[false, false, false, false, false, false, false, false, false] (by kernel_rfl) rfl rfl ⟨bc q0 0, bc q0 1, bc q0 2⟩ (fun hHeld => ?_); refine with_tabW r4_Round.tab7 r4_Round.bits7 (fun HT_ HW_ => ?_)
       generalize w17.drew = w18 at HO_466002 q0 HB hHeld ⊢
       refine pure_ (i := 0) (N := some 35) (v := ?_) (a' := ?_) #[true, false, false, false, false, false, false, false, false] rfl rfl (any_of HT_.out (by kernel_rfl)) (fun _ _ _ h => h) (Or.inl ⟨by rfl, ?_⟩) ?_ ?_; rotate_left
       · intro w'
         go_simp
         with_reducible rfl
       rotate_left
       · exact APq
       refine pure_ (i := 2) (N := some 37) (v := ?_) (a' := ?_) #[true, false, true, false, false, false, false, false, false] rfl rfl (any_of HT_.out (by kernel_rfl)) (fun _ _ _ h => h) (Or.inl ⟨by rfl, ?_⟩) ?_ ?_; rotate_left
       · intro w'
         go_simp
         with_reducible rfl
       rotate_left
       · exact APq
       refine pure_ (i := 4) (N := some 39) (v := ?_) (a' := ?_) #[true, false, true, false, true, false, false, false, false] rfl rfl (any_of HT_.out (by kernel_rfl)) (fun _ _ _ h => h) (Or.inl ⟨by rfl, ?_⟩) ?_ ?_; rotate_left
       · intro w'
         go_simp
         with_reducible rfl
       rotate_left
       · exact APq
       refine take_ (i := 1) (N := some 36) (v := ?_) (a' := ?_) #[true, true, true, false, true, false, false, false, false] rfl rfl (take_ofW HT_.out HW_.out (by kernel_rfl)) (fun _ _ _ h => h) (Or.inl ⟨by rfl, ?_⟩) hHeld ?_ ?_; rotate_left
       · rintro w' ⟨s0, s1, s2⟩
         go_simp
         with_reducible rfl
       rotate_left
       · exact APq
       refine take_ (i := 5) (N := some 40) (v := ?_) (a' := ?_) #[true, true, true, false, true, true, false, false, false] rfl rfl (take_ofW HT_.out HW_.out (by kernel_rfl)) (fun _ _ _ h => h) (Or.inl ⟨by rfl, ?_⟩) hHeld ?_ ?_; rotate_left
       · rintro w' ⟨s0, s1, s2⟩
         go_simp
         with_reducible rfl
       rotate_left
       · exact APq
       refine one_ (i := 3) (N := some 38) #[true, true, true, true, true, true, false, false, false] rfl rfl (one_of HT_.out (by kernel_rfl)) (by decide) (fun K hK => ?_); refine goes_ Try.func87 (by kernel_rfl) rfl #[.bool q5, .int .i64 q6] (by rfl) rfl rfl LMq ?_
       with_reducible refine (r4_over.calls q5 q6 qs _ A13.out).mono ?_
       rintro e w' ⟨rfl, ⟨nd, rfl⟩⟩; refine ⟨_, rfl, ?_⟩; refine hK.out _ _ ⟨bc q0 0, bc q0 1, bc q0 2⟩ (fun hHeld => ?_); clear hK K; refine norm_ (a' := ?_) ?_ ?_; rotate_left
       · show Act.put _ (some 38) _ = _
         exact APq
       refine one_ (i := 6) (N := some 41) #[true, true, true, true, true, true, true, false, false] rfl rfl (one_of HT_.out (by kernel_rfl)) (by decide) (fun K hK => ?_); refine goes_ Try.func85 (by kernel_rfl) rfl #[.int .u64 qs, .bool q5] (by rfl) rfl rfl LMq ?_
       with_reducible refine (r4_signed.calls qs q5 qt _ A14.out).mono ?_
       rintro e w' ⟨rfl, ⟨nd, rfl⟩⟩; refine ⟨_, rfl, ?_⟩; refine hK.out _ _ ⟨bc q0 0, bc q0 1, bc q0 2⟩ (fun hHeld => ?_); clear hK K; refine norm_ (a' := ?_) ?_ ?_; rotate_left
       · show Act.put _ (some 41) _ = _
         exact APq
       refine pure_ (i := 7) (N := some 4) (v := ?_) (a' := ?_) #[true, true, true, true, true, true, true, true, false] rfl rfl (any_of HT_.out (by kernel_rfl)) (fun _ _ _ h => h) (Or.inl ⟨by rfl, ?_⟩) ?_ ?_; rotate_left
       · intro w'
         go_simp
         with_reducible rfl
       rotate_left
       · exact APq
       refine pure_ (i := 8) (N := some 5) (v := ?_) (a' := ?_) #[true, true, true, true, true, true, true, true, true] rfl rfl (any_of HT_.out (by kernel_rfl)) (fun _ _ _ h => h) (Or.inl ⟨by rfl, ?_⟩) ?_ ?_; rotate_left
       · intro w'
         go_simp
         with_reducible rfl
       rotate_left
       · exact APq
       refine done_ (done_of HT_.out (by kernel_rfl)) ?_
       try go_wp2
       go_ret2
       exact ⟨by first | rfl | (simp [errW_none, errW_some] <;> rfl) | (simp [*, errW_none, errW_some] <;> rfl), kHs HB q8⟩
     rw [if_neg c12] at H
     have q0a : decide (1100 < (wrap64 (q7 + qh))) = false := decide_eq_false c12; clear c12; have q0o := aK H; clear H; obtain ⟨q0p, q0q, q0r, q0s, q0t, q0u⟩ := W3q q0
     try go_wp2
     replace HO_466002 := aK (Kd.V_drew HO_466002.out); replace q0 := aK (blk_drew q0.out); replace HB := aK (below_drew1 HB.out); refine start_ (n := 7) (S := fun w' => w'.cell? ⟨q2, 0, none⟩ = some (.bool q5) ∧ w'.cell? ⟨q2, 1, none⟩ = some (.int .i64 q7) ∧ w'.cell? ⟨q2, 2, none⟩ = some (.slice A0_2 l0_2.length c0_2)) (ds := []) #[false, false, false, false, false, false, false] (by kernel_rfl) rfl rfl ⟨bc q0 0, bc q0 1, bc q0 2⟩ (fun hHeld => ?_)
     generalize wc.drew = w21 at HO_466002 q0 HB hHeld ⊢
     refine pure_ (i := 0) (N := some 27) (v := ?_) (a' := ?_) #[true, false, false, false, false, false, false] rfl rfl (by kernel_rfl) (fun _ _ _ h => h) (Or.inl ⟨by rfl, ?_⟩) ?_ ?_; rotate_left
     · intro w'
       go_simp
       with_reducible rfl
     rotate_left
     · exact APq
     refine pure_ (i := 2) (N := some 29) (v := ?_) (a' := ?_) #[true, false, true, false, false, false, false] rfl rfl (by kernel_rfl) (fun _ _ _ h => h) (Or.inl ⟨by rfl, ?_⟩) ?_ ?_; rotate_left
     · intro w'
       go_simp
       with_reducible rfl
     rotate_left
     · exact APq
     refine take_ (i := 1) (N := some 28) (v := ?_) (a' := ?_) #[true, true, true, false, false, false, false] rfl rfl (by kernel_rfl) (fun _ _ _ h => h) (Or.inl ⟨by rfl, ?_⟩) hHeld ?_ ?_; rotate_left
     · rintro w' ⟨s0, s1, s2⟩
       go_simp
       with_reducible rfl
     rotate_left
     · exact APq
     refine take_ (i := 3) (N := some 30) (v := ?_) (a' := ?_) #[true, true, true, true, false, false, false] rfl rfl (by kernel_rfl) (fun _ _ _ h => h) (Or.inl ⟨by rfl, ?_⟩) hHeld ?_ ?_; rotate_left
     · rintro w' ⟨s0, s1, s2⟩
       go_simp
       with_reducible rfl
     rotate_left
     · exact APq
     refine one_ (i := 4) (N := some 31) #[true, true, true, true, true, false, false] rfl rfl (by kernel_rfl) (by decide) (fun K hK => ?_); refine goes_ Try.func86 (by kernel_rfl) rfl #[.slice A0_2 l0_2.length c0_2] (by rfl) rfl rfl LMq ?_
     with_reducible refine (r2_Len.calls kj5 _ _ l0_2 qh _ ?side1 ?side2 A11.out).mono ?_
     (case side1 => exact kC (Kd.V_reads' HO_466002.out).2.2)
     (case side2 => exact (Kd.V_reads' HO_466002.out).2.1)
     rintro e w22 ⟨rfl, hb⟩; refine ⟨_, rfl, ?_⟩; replace HO_466002 := aK (Kd.V_below (kV HO_466002) hb); replace q0 := aK (blk_below q0.out hb); replace HB := aK (below_step HB.out hb)
     (try clear hb)
     (try clear hb2)
     (try clear hk)
     (try clear hi)
     refine hK.out _ _ ⟨bc q0 0, bc q0 1, bc q0 2⟩ (fun hHeld => ?_); clear hK K; refine norm_ (a' := ?_) ?_ ?_; rotate_left
     · show Act.put _ (some 31) _ = _
       exact APq
     refine pure_ (i := 5) (N := some 32) (v := ?_) (a' := ?_) #[true, true, true, true, true, true, false] rfl rfl (by kernel_rfl) (fun _ _ _ h => h) (Or.inl ⟨by rfl, ?_⟩) ?_ ?_; rotate_left
     · intro w'
       go_simp
       with_reducible rfl
     rotate_left
     · exact APq
     refine pure_ (i := 6) (N := some 6) (v := ?_) (a' := ?_) #[true, true, true, true, true, true, true] rfl rfl (by kernel_rfl) (fun _ _ _ h => h) (Or.inl ⟨by rfl, ?_⟩) ?_ ?_; rotate_left
     · intro w'
       go_simp
       with_reducible rfl
     rotate_left
     · exact APq
     refine done_ (by kernel_rfl) ?_
     go_upto_if 43 with (fail)
     go_cut [6] (fun v6 wc => ∃ (kq : Nat) (qb : Int) (q1 : Bool) (q4 : Int) (q3 : List Int) (u466002 : Value), v6 = .int .i64 qb ∧ Aside0 (r4_Round.j2 kq q6 qb q1 q4 q3 = some (r1, r2)) ∧ Aside0 (kq ≤ kj5) ∧ Aside0 (Kd.V (Kd.int .u32) 124 wc w.heap.size (fun k_ => (P0_2_ k_ ∨ w.heap.size ≤ k_) ∧ k_ ≠ q2) u466002 q3) ∧ Aside0 (wc.heap[q2]? = some (.cells #[.bool q1, .int .i64 q4, u466002] 77 (0, 0))) ∧ Aside0 (Below w.heap.size w wc))
     case first =>
      have H := q0o.out; clear q0o
      by_cases c23 : (wrap64 (q7 + qh)) < (-1200)
      · rw [if_pos c23] at H
        have qx : decide ((wrap64 (q7 + qh)) < (-1200)) = true := decide_eq_true c23; clear c23
        (first | rw [qx] | (simp only [i64_w, i32_w]; rw [qx]) | skip)
        replace H := Option.bind_eq_some_iff.mp H; obtain ⟨qp, q11, H⟩ := H; replace H : (r4_Round.j2 kj5 q6 (-1299) q5 (-1300) qp) = some (r1, r2) := H; have A24 := aK q11; clear q11; have H' := aK H; clear H
        try go_wp2
        replace HO_466002 := aK (Kd.V_drew HO_466002.out); replace q0 := aK (blk_drew q0.out); replace HB := aK (below_drew1 HB.out); refine start_ (n := 5) (S := fun w' => w'.cell? ⟨q2, 0, none⟩ = some (.bool q5) ∧ w'.cell? ⟨q2, 1, none⟩ = some (.int .i64 q7) ∧ w'.cell? ⟨q2, 2, none⟩ = some (.slice A0_2 l0_2.length c0_2)) (ds := [4]) #[false, false, false, false, false] (by kernel_rfl) rfl rfl ⟨bc q0 0, bc q0 1, bc q0 2⟩ (fun hHeld => ?_)
        generalize w22.drew = w25 at HO_466002 q0 HB hHeld ⊢
        refine pure_ (i := 0) (N := some 44) (v := ?_) (a' := ?_) #[true, false, false, false, false] rfl rfl (by kernel_rfl) (fun _ _ _ h => h) (Or.inl ⟨by rfl, ?_⟩) ?_ ?_; rotate_left
        · intro w'
          go_simp
          with_reducible rfl
        rotate_left
        · exact APq
        refine take_ (i := 1) (N := some 45) (v := ?_) (a' := ?_) #[true, true, false, false, false] rfl rfl (by kernel_rfl) (fun _ _ _ h => h) (Or.inl ⟨by rfl, ?_⟩) hHeld ?_ ?_; rotate_left
        · rintro w' ⟨s0, s1, s2⟩
          go_simp
          with_reducible rfl
        rotate_left
        · exact APq
        refine one_ (i := 2) (N := some 46) #[true, true, true, false, false] rfl rfl (by kernel_rfl) (by decide) (fun K hK => ?_); refine goes_ Try.func71 (by kernel_rfl) rfl #[.int .u64 1] (by rfl) rfl rfl LMq ?_
        with_reducible refine (r2_Of.calls kj5 1 qp _ A24.out).mono ?_
        rintro e w26 ⟨v471, rfl, ho0, hb⟩; refine ⟨_, rfl, ?_⟩; replace HO_466002 := aK (Kd.V_below (kV HO_466002) hb); have q12 := aK (Kd.V_lower (Kd.V_mono (ok' := fun k_ => (P0_2_ k_ ∨ w.heap.size ≤ k_) ∧ k_ ≠ q2) ho0 (fun k_ hk_ => ⟨(.inr (Nat.le_trans (below_size HB.out) hk_)), (Kd.freshB q0.out k_ hk_)⟩)) (below_size HB.out)); replace q0 := aK (blk_below q0.out hb); replace HB := aK (below_step HB.out hb)
        (try clear hb)
        (try clear hb2)
        (try clear hk)
        (try clear hi)
        (try clear ho0)
        obtain ⟨q13, q14, eo27⟩ := Kd.V_slice q12.out
        (first | subst eo27 | (injection eo27 with f1_ f2_ f3_; have f4_ := f1_.symm; have f5_ := f3_.symm; clear f1_ f2_ f3_; subst f4_; subst f5_))
        refine hK.out _ _ ⟨bc q0 0, bc q0 1, bc q0 2⟩ (fun hHeld => ?_); clear hK K; refine norm_ (a' := ?_) ?_ ?_; rotate_left
        · show Act.put _ (some 46) _ = _
          exact APq
        refine pure_ (i := 3) (N := some 47) (v := ?_) (a' := ?_) #[true, true, true, true, false] rfl rfl (by kernel_rfl) (fun _ _ _ h => h) (Or.inl ⟨by rfl, ?_⟩) ?_ ?_; rotate_left
        · intro w'
          go_simp
          with_reducible rfl
        rotate_left
        · exact APq
        refine last_ (i := 4) (N := none) #[true, true, true, true, true] rfl rfl (by kernel_rfl) (by decide) (fun K hK => ?_); have hs28 : w26.cell? ⟨q2, 0, none⟩ = some (.bool q5) := bc q0 0; have hfs28 := blk_frozen q0.out 0; have hs29 : w26.cell? ⟨q2, 1, none⟩ = some (.int .i64 q7) := bc q0 1; have hfs29 := blk_frozen q0.out 1; have hs30 : w26.cell? ⟨q2, 2, none⟩ = some (.slice A0_2 l0_2.length c0_2) := bc q0 2; have hfs30 := blk_frozen q0.out 2; refine skip_ (w1 := ?_) (by rfl) rfl ?_ ?_; rotate_left
        · go_simp
          rfl
        refine hK.out _ _ ?_; clear hK K; refine done_ (by kernel_rfl) ?_
        try go_wp2
        go_meet
        case rel => exact ⟨_, ((-1299)), (q5), ((-1300)), (qp), (.slice q13 qp.length q14), RSq, (by first | exact H' | (subst_vars; exact H')), ⟨by have := HJ2.out; have := HJ5.out; first | omega | exact Nat.le_refl _⟩, ⟨by (with_reducible repeat (first | apply Kd.V_alloc | apply Kd.V_drewN | apply Kd.V_drew)); exact Kd.V_mono (Kd.V_far (p := ⟨q2, 2, none⟩) (Kd.V_far (p := ⟨q2, 1, none⟩) (Kd.V_far (p := ⟨q2, 0, none⟩) (Kd.V_mono q12.out (fun k_ hk => (⟨hk, hk.2⟩ : _ ∧ k_ ≠ q2))) (fun _ hk => hk.2) (.bool q5)) (fun _ hk => hk.2) (.int .i64 (-1300))) (fun _ hk => hk.2) (.slice q13 qp.length q14)) (fun _ hk => ⟨hk.1.1, hk.1.2⟩)⟩, ⟨by (with_reducible repeat (first | refine blk_drewN ?_ _ | refine blk_drew ?_ | refine blk_alloc ?_ _)); refine blk_put (cs := #[.bool q5, .int .i64 (-1300), .slice A0_2 l0_2.length c0_2]) ?_ 2 _ rfl; refine blk_put (cs := #[.bool q5, .int .i64 q7, .slice A0_2 l0_2.length c0_2]) ?_ 1 _ rfl; refine blk_put (cs := #[.bool q5, .int .i64 q7, .slice A0_2 l0_2.length c0_2]) ?_ 0 _ rfl; (with_reducible repeat (first | refine blk_drewN ?_ _ | refine blk_drew ?_ | refine blk_alloc ?_ _)); exact q0.out⟩, ⟨kHs HB q8⟩⟩
      rw [if_neg c23] at H
      have qx : decide ((wrap64 (q7 + qh)) < (-1200)) = false := decide_eq_false c23; clear c23
      (first | rw [qx] | (simp only [i64_w, i32_w]; rw [qx]) | skip)
      have H' := aK H; clear H
      go_wp2
      go_meet
      case rel => exact ⟨_, (wrap64 (q7 + qh)), (q5), (q7), (l0_2), (.slice A0_2 l0_2.length c0_2), RSq, (by first | exact H' | (subst_vars; exact H')), ⟨by have := HJ2.out; have := HJ5.out; first | omega | exact Nat.le_refl _⟩, ⟨kV HO_466002⟩, ⟨kB q0⟩, ⟨kHs HB q8⟩⟩
     case rest =>
      clear q0o; (try clear c1); (try clear c2); (try clear p2); (try clear c5); (try clear qm); (try clear p6); (try clear c7); (try clear c8); (try clear q08); (try clear q09); (try clear q0h); (try clear c12); (try clear q0a); (try clear c23); (try clear qx); (try clear q0b q0c q0d); (try clear q0i q0j q0k); (try clear q0p q0q q0r); (try clear q0e q0f q0g); (try clear q0l q0m q0n); (try clear q0s q0t q0u); (try clear p2); (try clear p6); obtain ⟨kq, qb, q1, q4, q3, u466002, rfl, HA, q02, HO_466002, q0, HB⟩ := hcut
      cases kq with
      | zero => exact absurd HA.out (by simp [r4_Round.j2])
      | succ q9 =>
       have H := HA.out; clear HA
       simp only [r4_Round.j2] at H
       obtain ⟨ji31, hji31⟩ : ∃ j_ : Int, (mx (wrap64 (qb - 53)) (-1074)) = j_ := ⟨_, rfl⟩
       replace H : ((r4_To.f q9 q1 q4 q3 (ji31) q6).bind fun qq => (if qq.2 = true then ((r4_To.f q9 q1 q4 q3 (wrap64 (qb - 53)) q6).bind fun qy => ((r2_Len.f q9 qy.1).bind fun qi => (if (wrap64 ((wrap64 (qi + qb)) - 53)) ≤ (-1022) then (r4_Round.j3 q9 q6 ji31 qq.1 24 q1 q4 q3) else (r4_Round.j3 q9 q6 ji31 qq.1 16 q1 q4 q3)))) else (r4_Round.j3 q9 q6 ji31 qq.1 0 q1 q4 q3))) = some (r1, r2) := by first | (rw [hji31] at H; exact H) | (simp only [hji31] at H ⊢; exact H)
       have hji31_ : (if (wrap64 (qb - 53)) < (-1074) then (-1074) else (wrap64 (qb - 53))) = ji31 := hji31; replace H := Option.bind_eq_some_iff.mp H; obtain ⟨⟨qc, q0v⟩, q15, H⟩ := H; replace H : (if q0v = true then ((r4_To.f q9 q1 q4 q3 (wrap64 (qb - 53)) q6).bind fun qy => ((r2_Len.f q9 qy.1).bind fun qi => (if (wrap64 ((wrap64 (qi + qb)) - 53)) ≤ (-1022) then (r4_Round.j3 q9 q6 ji31 qc 24 q1 q4 q3) else (r4_Round.j3 q9 q6 ji31 qc 16 q1 q4 q3)))) else (r4_Round.j3 q9 q6 ji31 qc 0 q1 q4 q3)) = some (r1, r2) := H; have A32 := aK q15; clear q15; have q0w := aK H; clear H; obtain ⟨q16, q17, q18, q19, q1a, q1b⟩ := W3q q0; obtain ⟨qd, qe, eo35⟩ := Kd.V_slice HO_466002.out; subst eo35
       go_upto_if 58 with (first | ((with_reducible refine gate_callee (f := 88) rfl ?_); refine goesL_ (some 55) rfl rfl Try.func88 (by kernel_rfl) rfl #[.agg #[.bool q1, .int .i64 q4, .slice qd q3.length qe], .int .i64 ji31, .int .i64 q6] rfl (by (try simp only [List.map_toArray, List.map_cons, List.map_nil]); first | done | (simp only [hji31]; rfl) | rfl | (simp only [List.length_drop, List.length_take]; rfl)) ?_; (with_reducible refine (r4_To.calls q9 q1 q4 (fun k_ => ((P0_2_ k_ ∨ w.heap.size ≤ k_) ∧ k_ ≠ q2)) _ _ q3 ji31 q6 qc q0v _ ?side1 A32.out).mono ?_); (case side1 => exact HO_466002.out); rintro e w36 ⟨v474, rfl, ho0, hb⟩; refine ⟨_, rfl, ?_⟩; replace HO_466002 := aK (Kd.V_below (kV HO_466002) hb); have qk := aK (Kd.V_lower (Kd.V_mono (ok' := fun k_ => (P0_2_ k_ ∨ w.heap.size ≤ k_) ∧ k_ ≠ q2) ho0 (fun k_ hk_ => ⟨Or.elim hk_ (fun hs_ => hs_.1) (fun hn_ => (.inr (Nat.le_trans (below_size (kHs HB q8)) hn_))), Or.elim hk_ (fun hs_ => hs_.2) (fun hn_ => (Kd.freshB (g := q2) (o := .cells #[.bool q1, .int .i64 q4, .slice qd q3.length qe] 77 (0, 0)) (kB q0) k_ hn_))⟩)) (below_size (kHs HB q8))); replace q0 := aK (blk_below (g := q2) (o := .cells #[.bool q1, .int .i64 q4, .slice qd q3.length qe] 77 (0, 0)) (kB q0) hb); replace HB := aK (below_step (kHs HB q8) hb); (try clear hb); (try clear hb2); (try clear hk); (try clear hi); (try clear ho0)))
       (try simp only [Act.put, List.setIfInBounds_toArray, List.set_cons_zero, List.set_cons_succ])
       go_cut [10] (fun v10 wc => ∃ (kq : Nat) (qn : Int), v10 = .int .i64 qn ∧ Aside0 (r4_Round.j3 kq q6 ji31 qc qn q1 q4 q3 = some (r1, r2)) ∧ Aside0 (kq ≤ q9) ∧ Aside0 (Kd.V (Kd.int .u32) 124 wc w.heap.size (fun k_ => (P0_2_ k_ ∨ w.heap.size ≤ k_) ∧ k_ ≠ q2) v474 qc) ∧ Aside0 (Kd.V (Kd.int .u32) 124 wc w.heap.size (fun k_ => (P0_2_ k_ ∨ w.heap.size ≤ k_) ∧ k_ ≠ q2) (.slice qd q3.length qe) q3) ∧ Aside0 (wc.heap[q2]? = some (.cells #[.bool q1, .int .i64 q4, (.slice qd q3.length qe)] 77 (0, 0))) ∧ Aside0 (Below w.heap.size w wc))
       case first =>
        have H := q0w.out; clear q0w
        by_cases c37 : q0v = true
        · subst c37
          have H1 : ((r4_To.f q9 q1 q4 q3 (wrap64 (qb - 53)) q6).bind fun qy => ((r2_Len.f q9 qy.1).bind fun qi => (if (wrap64 ((wrap64 (qi + qb)) - 53)) ≤ (-1022) then (r4_Round.j3 q9 q6 ji31 qc 24 q1 q4 q3) else (r4_Round.j3 q9 q6 ji31 qc 16 q1 q4 q3)))) = some (r1, r2) := by rw [if_pos rfl] at H; exact H
          clear H; have H := H1; clear H1; replace H := Option.bind_eq_some_iff.mp H; obtain ⟨⟨qz, q1c⟩, q1d, H⟩ := H; replace H : ((r2_Len.f q9 qz).bind fun qi => (if (wrap64 ((wrap64 (qi + qb)) - 53)) ≤ (-1022) then (r4_Round.j3 q9 q6 ji31 qc 24 q1 q4 q3) else (r4_Round.j3 q9 q6 ji31 qc 16 q1 q4 q3))) = some (r1, r2) := H; have A38 := aK q1d; clear q1d; replace H := Option.bind_eq_some_iff.mp H; obtain ⟨qi, q1e, H⟩ := H; replace H : (if (wrap64 ((wrap64 (qi + qb)) - 53)) ≤ (-1022) then (r4_Round.j3 q9 q6 ji31 qc 24 q1 q4 q3) else (r4_Round.j3 q9 q6 ji31 qc 16 q1 q4 q3)) = some (r1, r2) := H; have A39 := aK q1e; clear q1e
          by_cases c40 : (wrap64 ((wrap64 (qi + qb)) - 53)) ≤ (-1022)
          · rw [if_pos c40] at H
            have q00 : decide ((wrap64 ((wrap64 (qi + qb)) - 53)) ≤ (-1022)) = true := decide_eq_true c40; clear c40
            (first | rw [q00] | (simp only [i64_w, i32_w]; rw [q00]) | skip)
            have H' := aK H; clear H; obtain ⟨q1f, q1g, q1h, q1i, q1j, q1k⟩ := W3q q0
            go_wp2_with (first | ((with_reducible refine gate_callee (f := 88) rfl ?_); refine goesL_ (some 64) rfl rfl Try.func88 (by kernel_rfl) rfl #[.agg #[.bool q1, .int .i64 q4, .slice qd q3.length qe], .int .i64 (wrap64 (qb - 53)), .int .i64 q6] rfl LMq ?_; (with_reducible refine (r4_To.calls q9 q1 q4 (fun k_ => ((P0_2_ k_ ∨ w.heap.size ≤ k_) ∧ k_ ≠ q2)) _ _ q3 (wrap64 (qb - 53)) q6 qz q1c _ ?side1 A38.out).mono ?_); (case side1 => exact HO_466002.out); rintro e w42 ⟨v478, rfl, ho0, hb⟩; refine ⟨_, rfl, ?_⟩; replace HO_466002 := aK (Kd.V_below (kV HO_466002) hb); replace qk := aK (Kd.V_below (kV qk) hb); have ql := aK (Kd.V_lower (Kd.V_mono (ok' := fun k_ => (P0_2_ k_ ∨ w.heap.size ≤ k_) ∧ k_ ≠ q2) ho0 (fun k_ hk_ => ⟨Or.elim hk_ (fun hs_ => hs_.1) (fun hn_ => (.inr (Nat.le_trans (below_size (kHs HB q8)) hn_))), Or.elim hk_ (fun hs_ => hs_.2) (fun hn_ => (Kd.freshB (g := q2) (o := .cells #[.bool q1, .int .i64 q4, .slice qd q3.length qe] 77 (0, 0)) (kB q0) k_ hn_))⟩)) (below_size (kHs HB q8))); replace q0 := aK (blk_below (g := q2) (o := .cells #[.bool q1, .int .i64 q4, .slice qd q3.length qe] 77 (0, 0)) (kB q0) hb); replace HB := aK (below_step (kHs HB q8) hb); (try clear hb); (try clear hb2); (try clear hk); (try clear hi); (try clear ho0); obtain ⟨q22, q23, eo43⟩ := Kd.V_slice ql.out; subst eo43) | ((with_reducible refine gate_callee (f := 86) rfl ?_); refine goesL_ (some 68) rfl rfl Try.func86 (by kernel_rfl) rfl #[.slice q22 qz.length q23] rfl LMq ?_; (with_reducible refine (r2_Len.calls q9 _ _ qz qi _ ?side1 ?side2 A39.out).mono ?_); (case side1 => exact kC (Kd.V_reads' ql.out).2.2); (case side2 => exact (Kd.V_reads' ql.out).2.1); rintro e w44 ⟨rfl, hb⟩; refine ⟨_, rfl, ?_⟩; replace HO_466002 := aK (Kd.V_below (kV HO_466002) hb); replace qk := aK (Kd.V_below (kV qk) hb); replace ql := aK (Kd.V_below (kV ql) hb); replace q0 := aK (blk_below (g := q2) (o := .cells #[.bool q1, .int .i64 q4, .slice qd q3.length qe] 77 (0, 0)) (kB q0) hb); replace HB := aK (below_step (kHs HB q8) hb); (try clear hb); (try clear hb2); (try clear hk); (try clear hi)))
            go_meet
            case rel => exact ⟨_, (24), RSq, (by first | exact H' | (subst_vars; exact H')), ⟨by have := HJ2.out; have := HJ5.out; have := q02.out; first | omega | exact Nat.le_refl _⟩, ⟨kV qk⟩, ⟨kV HO_466002⟩, ⟨kB q0⟩, ⟨kHs HB q8⟩⟩
          rw [if_neg c40] at H
          have q00 : decide ((wrap64 ((wrap64 (qi + qb)) - 53)) ≤ (-1022)) = false := decide_eq_false c40; clear c40
          (first | rw [q00] | (simp only [i64_w, i32_w]; rw [q00]) | skip)
          have H' := aK H; clear H; obtain ⟨q1l, q1m, q1n, q1o, q1p, q1q⟩ := W3q q0
          go_wp2_with (first | ((with_reducible refine gate_callee (f := 88) rfl ?_); refine goesL_ (some 64) rfl rfl Try.func88 (by kernel_rfl) rfl #[.agg #[.bool q1, .int .i64 q4, .slice qd q3.length qe], .int .i64 (wrap64 (qb - 53)), .int .i64 q6] rfl LMq ?_; (with_reducible refine (r4_To.calls q9 q1 q4 (fun k_ => ((P0_2_ k_ ∨ w.heap.size ≤ k_) ∧ k_ ≠ q2)) _ _ q3 (wrap64 (qb - 53)) q6 qz q1c _ ?side1 A38.out).mono ?_); (case side1 => exact HO_466002.out); rintro e w46 ⟨v478, rfl, ho0, hb⟩; refine ⟨_, rfl, ?_⟩; replace HO_466002 := aK (Kd.V_below (kV HO_466002) hb); replace qk := aK (Kd.V_below (kV qk) hb); have ql := aK (Kd.V_lower (Kd.V_mono (ok' := fun k_ => (P0_2_ k_ ∨ w.heap.size ≤ k_) ∧ k_ ≠ q2) ho0 (fun k_ hk_ => ⟨Or.elim hk_ (fun hs_ => hs_.1) (fun hn_ => (.inr (Nat.le_trans (below_size (kHs HB q8)) hn_))), Or.elim hk_ (fun hs_ => hs_.2) (fun hn_ => (Kd.freshB (g := q2) (o := .cells #[.bool q1, .int .i64 q4, .slice qd q3.length qe] 77 (0, 0)) (kB q0) k_ hn_))⟩)) (below_size (kHs HB q8))); replace q0 := aK (blk_below (g := q2) (o := .cells #[.bool q1, .int .i64 q4, .slice qd q3.length qe] 77 (0, 0)) (kB q0) hb); replace HB := aK (below_step (kHs HB q8) hb); (try clear hb); (try clear hb2); (try clear hk); (try clear hi); (try clear ho0); obtain ⟨q24, q25, eo47⟩ := Kd.V_slice ql.out; subst eo47) | ((with_reducible refine gate_callee (f := 86) rfl ?_); refine goesL_ (some 68) rfl rfl Try.func86 (by kernel_rfl) rfl #[.slice q24 qz.length q25] rfl LMq ?_; (with_reducible refine (r2_Len.calls q9 _ _ qz qi _ ?side1 ?side2 A39.out).mono ?_); (case side1 => exact kC (Kd.V_reads' ql.out).2.2); (case side2 => exact (Kd.V_reads' ql.out).2.1); rintro e w48 ⟨rfl, hb⟩; refine ⟨_, rfl, ?_⟩; replace HO_466002 := aK (Kd.V_below (kV HO_466002) hb); replace qk := aK (Kd.V_below (kV qk) hb); replace ql := aK (Kd.V_below (kV ql) hb); replace q0 := aK (blk_below (g := q2) (o := .cells #[.bool q1, .int .i64 q4, .slice qd q3.length qe] 77 (0, 0)) (kB q0) hb); replace HB := aK (below_step (kHs HB q8) hb); (try clear hb); (try clear hb2); (try clear hk); (try clear hi)))
          go_meet
          case rel => exact ⟨_, (16), RSq, (by first | exact H' | (subst_vars; exact H')), ⟨by have := HJ2.out; have := HJ5.out; have := q02.out; first | omega | exact Nat.le_refl _⟩, ⟨kV qk⟩, ⟨kV HO_466002⟩, ⟨kB q0⟩, ⟨kHs HB q8⟩⟩
        replace c37 := Bool.eq_false_iff.mpr c37; subst c37
        have H1 : (r4_Round.j3 q9 q6 ji31 qc 0 q1 q4 q3) = some (r1, r2) := by rw [if_neg (show ¬ (false = true) by decide)] at H; exact H
        clear H; have H := H1; clear H1; have H' := aK H; clear H
        go_wp2
        go_meet
        case rel => exact ⟨_, (0), RSq, (by first | exact H' | (subst_vars; exact H')), ⟨by have := HJ2.out; have := HJ5.out; have := q02.out; first | omega | exact Nat.le_refl _⟩, ⟨kV qk⟩, ⟨kV HO_466002⟩, ⟨kB q0⟩, ⟨kHs HB q8⟩⟩
       case rest =>
        clear q0w; (try clear c1); (try clear c2); (try clear p2); (try clear c3); (try clear c4); (try clear c5); (try clear qm); (try clear p6); (try clear c7); (try clear c8); (try clear q08); (try clear q09); (try clear q0h); (try clear c12); (try clear q0a); (try clear c23); (try clear qx); (try clear c37); (try clear c40); (try clear q00); (try clear q0b q0c q0d); (try clear q0i q0j q0k); (try clear q0p q0q q0r); (try clear q16 q17 q18); (try clear q1f q1g q1h); (try clear q1l q1m q1n); (try clear q0e q0f q0g); (try clear q0l q0m q0n); (try clear q0s q0t q0u); (try clear q19 q1a q1b); (try clear q1i q1j q1k); (try clear q1o q1p q1q); (try clear p2); (try clear p6); obtain ⟨kq, qn, rfl, HA, q1r, HO_8, HO_466002, q0, HB⟩ := hcut
        cases kq with
        | zero => exact absurd HA.out (by simp [r4_Round.j3])
        | succ qr =>
         have H := HA.out; clear HA
         simp only [r4_Round.j3] at H
         replace H := Option.bind_eq_some_iff.mp H; obtain ⟨qu, q1s, H⟩ := H; replace H : (if (wrap64 (qu + ji31)) > 1024 then ((r4_over.f q1 q6).bind fun qv => ((r4_signed.f qv q1).bind fun qw => (some (qw, 20)))) else ((r2_Low.f qr qc).bind fun qj => (if qj = 9007199254740992 then (r4_Round.j4 qr (wrap64 (ji31 + 1)) qn 4503599627370496 q1 q4 q3) else (r4_Round.j4 qr ji31 qn qj q1 q4 q3)))) = some (r1, r2) := H; have A49 := aK q1s; clear q1s
         by_cases c50 : (wrap64 (qu + ji31)) > 1024
         · rw [if_pos c50] at H
           have q1t : decide (1024 < (wrap64 (qu + ji31))) = true := decide_eq_true c50; clear c50; replace H := Option.bind_eq_some_iff.mp H; obtain ⟨qv, q1u, H⟩ := H; replace H : ((r4_signed.f qv q1).bind fun qw => (some (qw, 20))) = some (r1, r2) := H; have A51 := aK q1u; clear q1u; replace H := Option.bind_eq_some_iff.mp H; obtain ⟨qw, q1v, H⟩ := H; replace H : (some (qw, 20)) = some (r1, r2) := H; have A52 := aK q1v; clear q1v
           simp only [Option.some.injEq, Prod.mk.injEq] at H
           obtain ⟨rfl, rfl⟩ := H; obtain ⟨q26, q27, eo53⟩ := Kd.V_slice HO_8.out; subst eo53
           try go_wp2_with (first | ((with_reducible refine gate_callee (f := 86) rfl ?_); refine goesL_ (some 74) rfl rfl Try.func86 (by kernel_rfl) rfl #[.slice q26 qc.length q27] rfl LMq ?_; (with_reducible refine (r2_Len.calls qr _ _ qc qu _ ?side1 ?side2 A49.out).mono ?_); (case side1 => exact kC (Kd.V_reads' HO_8.out).2.2); (case side2 => exact (Kd.V_reads' HO_8.out).2.1); rintro e w54 ⟨rfl, hb⟩; refine ⟨_, rfl, ?_⟩; replace HO_8 := aK (Kd.V_below (kV HO_8) hb); replace HO_466002 := aK (Kd.V_below (kV HO_466002) hb); replace q0 := aK (blk_below (g := q2) (o := .cells #[.bool q1, .int .i64 q4, .slice qd q3.length qe] 77 (0, 0)) (kB q0) hb); replace HB := aK (below_step (kHs HB q8) hb); (try clear hb); (try clear hb2); (try clear hk); (try clear hi)))
           replace HO_8 := aK (Kd.V_drew HO_8.out); replace HO_466002 := aK (Kd.V_drew HO_466002.out); replace q0 := aK (blk_drew q0.out); replace HB := aK (below_drew1 HB.out); refine start_ (n := 9) (S := fun w' => w'.cell? ⟨q2, 0, none⟩ = some (.bool q1) ∧ w'.cell? ⟨q2, 1, none⟩ = some (.int .i64 q4) ∧ w'.cell? ⟨q2, 2, none⟩ = some (.slice qd q3.length qe)) (ds := []) #[false, false, false, false, false, false, false, false, false] (by kernel_rfl) rfl rfl ⟨bc q0 0, bc q0 1, bc q0 2⟩ (fun hHeld => ?_); refine with_tabW r4_Round.tab20 r4_Round.bits20 (fun HT_ HW_ => ?_)
           generalize w54.drew = w55 at HO_8 HO_466002 q0 HB hHeld ⊢
           refine pure_ (i := 0) (N := some 78) (v := ?_) (a' := ?_) #[true, false, false, false, false, false, false, false, false] rfl rfl (any_of HT_.out (by kernel_rfl)) (fun _ _ _ h => h) (Or.inl ⟨by rfl, ?_⟩) ?_ ?_; rotate_left
           · intro w'
             go_simp
             with_reducible rfl
           rotate_left
           · exact APq
           refine pure_ (i := 2) (N := some 80) (v := ?_) (a' := ?_) #[true, false, true, false, false, false, false, false, false] rfl rfl (any_of HT_.out (by kernel_rfl)) (fun _ _ _ h => h) (Or.inl ⟨by rfl, ?_⟩) ?_ ?_; rotate_left
           · intro w'
             go_simp
             with_reducible rfl
           rotate_left
           · exact APq
           refine pure_ (i := 4) (N := some 82) (v := ?_) (a' := ?_) #[true, false, true, false, true, false, false, false, false] rfl rfl (any_of HT_.out (by kernel_rfl)) (fun _ _ _ h => h) (Or.inl ⟨by rfl, ?_⟩) ?_ ?_; rotate_left
           · intro w'
             go_simp
             with_reducible rfl
           rotate_left
           · exact APq
           refine take_ (i := 1) (N := some 79) (v := ?_) (a' := ?_) #[true, true, true, false, true, false, false, false, false] rfl rfl (take_ofW HT_.out HW_.out (by kernel_rfl)) (fun _ _ _ h => h) (Or.inl ⟨by rfl, ?_⟩) hHeld ?_ ?_; rotate_left
           · rintro w' ⟨s0, s1, s2⟩
             go_simp
             with_reducible rfl
           rotate_left
           · exact APq
           refine take_ (i := 5) (N := some 83) (v := ?_) (a' := ?_) #[true, true, true, false, true, true, false, false, false] rfl rfl (take_ofW HT_.out HW_.out (by kernel_rfl)) (fun _ _ _ h => h) (Or.inl ⟨by rfl, ?_⟩) hHeld ?_ ?_; rotate_left
           · rintro w' ⟨s0, s1, s2⟩
             go_simp
             with_reducible rfl
           rotate_left
           · exact APq
           refine one_ (i := 3) (N := some 81) #[true, true, true, true, true, true, false, false, false] rfl rfl (one_of HT_.out (by kernel_rfl)) (by decide) (fun K hK => ?_); refine goes_ Try.func87 (by kernel_rfl) rfl #[.bool q1, .int .i64 q6] (by rfl) rfl rfl LMq ?_
           with_reducible refine (r4_over.calls q1 q6 qv _ A51.out).mono ?_
           rintro e w' ⟨rfl, ⟨nd, rfl⟩⟩; refine ⟨_, rfl, ?_⟩; refine hK.out _ _ ⟨bc q0 0, bc q0 1, bc q0 2⟩ (fun hHeld => ?_); clear hK K; refine norm_ (a' := ?_) ?_ ?_; rotate_left
           · show Act.put _ (some 81) _ = _
             exact APq
           refine one_ (i := 6) (N := some 84) #[true, true, true, true, true, true, true, false, false] rfl rfl (one_of HT_.out (by kernel_rfl)) (by decide) (fun K hK => ?_); refine goes_ Try.func85 (by kernel_rfl) rfl #[.int .u64 qv, .bool q1] (by rfl) rfl rfl LMq ?_
           with_reducible refine (r4_signed.calls qv q1 qw _ A52.out).mono ?_
           rintro e w' ⟨rfl, ⟨nd, rfl⟩⟩; refine ⟨_, rfl, ?_⟩; refine hK.out _ _ ⟨bc q0 0, bc q0 1, bc q0 2⟩ (fun hHeld => ?_); clear hK K; refine norm_ (a' := ?_) ?_ ?_; rotate_left
           · show Act.put _ (some 84) _ = _
             exact APq
           refine pure_ (i := 7) (N := some 4) (v := ?_) (a' := ?_) #[true, true, true, true, true, true, true, true, false] rfl rfl (any_of HT_.out (by kernel_rfl)) (fun _ _ _ h => h) (Or.inl ⟨by rfl, ?_⟩) ?_ ?_; rotate_left
           · intro w'
             go_simp
             with_reducible rfl
           rotate_left
           · exact APq
           refine pure_ (i := 8) (N := some 5) (v := ?_) (a' := ?_) #[true, true, true, true, true, true, true, true, true] rfl rfl (any_of HT_.out (by kernel_rfl)) (fun _ _ _ h => h) (Or.inl ⟨by rfl, ?_⟩) ?_ ?_; rotate_left
           · intro w'
             go_simp
             with_reducible rfl
           rotate_left
           · exact APq
           refine done_ (done_of HT_.out (by kernel_rfl)) ?_
           try go_wp2
           go_ret2
           exact ⟨by first | rfl | (simp [errW_none, errW_some] <;> rfl) | (simp only [← hji31]; first | rfl | (simp [errW_none, errW_some] <;> rfl)) | (simp [*, errW_none, errW_some] <;> rfl), kHs HB q8⟩
         rw [if_neg c50] at H
         have q1t : decide (1024 < (wrap64 (qu + ji31))) = false := decide_eq_false c50; clear c50; replace H := Option.bind_eq_some_iff.mp H; obtain ⟨qj, q1w, H⟩ := H; replace H : (if qj = 9007199254740992 then (r4_Round.j4 qr (wrap64 (ji31 + 1)) qn 4503599627370496 q1 q4 q3) else (r4_Round.j4 qr ji31 qn qj q1 q4 q3)) = some (r1, r2) := H; have A56 := aK q1w; clear q1w; have q0x := aK H; clear H; obtain ⟨q1x, q1y, eo58⟩ := Kd.V_slice HO_8.out; subst eo58
         go_upto_if 88 with (first | ((with_reducible refine gate_callee (f := 86) rfl ?_); refine goesL_ (some 74) rfl rfl Try.func86 (by kernel_rfl) rfl #[.slice q1x qc.length q1y] rfl LMq ?_; (with_reducible refine (r2_Len.calls qr _ _ qc qu _ ?side1 ?side2 A49.out).mono ?_); (case side1 => exact kC (Kd.V_reads' HO_8.out).2.2); (case side2 => exact (Kd.V_reads' HO_8.out).2.1); rintro e w59 ⟨rfl, hb⟩; refine ⟨_, rfl, ?_⟩; replace HO_8 := aK (Kd.V_below (kV HO_8) hb); replace HO_466002 := aK (Kd.V_below (kV HO_466002) hb); replace q0 := aK (blk_below (g := q2) (o := .cells #[.bool q1, .int .i64 q4, .slice qd q3.length qe] 77 (0, 0)) (kB q0) hb); replace HB := aK (below_step (kHs HB q8) hb); (try clear hb); (try clear hb2); (try clear hk); (try clear hi)) | ((with_reducible refine gate_callee (f := 89) rfl ?_); refine goesL_ (some 86) rfl rfl Try.func89 (by kernel_rfl) rfl #[.slice q1x qc.length q1y] rfl LMq ?_; (with_reducible refine (r2_Low.calls qr _ _ qc qj _ ?side1 ?side2 A56.out).mono ?_); (case side1 => exact kC (Kd.V_reads' HO_8.out).2.2); (case side2 => exact (Kd.V_reads' HO_8.out).2.1); rintro e w60 ⟨rfl, hb⟩; refine ⟨_, rfl, ?_⟩; replace HO_8 := aK (Kd.V_below (kV HO_8) hb); replace HO_466002 := aK (Kd.V_below (kV HO_466002) hb); replace q0 := aK (blk_below (g := q2) (o := .cells #[.bool q1, .int .i64 q4, .slice qd q3.length qe] 77 (0, 0)) (kB q0) hb); replace HB := aK (below_step (kHs HB q8) hb); (try clear hb); (try clear hb2); (try clear hk); (try clear hi)))
         (try simp only [Act.put, List.setIfInBounds_toArray, List.set_cons_zero, List.set_cons_succ])
         go_cut [7, 13] (fun v7 v13 wc => ∃ (kq : Nat) (q03 : Int) (qo : Int), v7 = .int .i64 q03 ∧ v13 = .int .u64 qo ∧ Aside0 (r4_Round.j4 kq q03 qn qo q1 q4 q3 = some (r1, r2)) ∧ Aside0 (kq ≤ qr) ∧ Aside0 (Kd.V (Kd.int .u32) 124 wc w.heap.size (fun k_ => (P0_2_ k_ ∨ w.heap.size ≤ k_) ∧ k_ ≠ q2) (.slice qd q3.length qe) q3) ∧ Aside0 (wc.heap[q2]? = some (.cells #[.bool q1, .int .i64 q4, (.slice qd q3.length qe)] 77 (0, 0))) ∧ Aside0 (Below w.heap.size w wc))
         case first =>
          have H := q0x.out; clear q0x
          by_cases c61 : qj = 9007199254740992
          · rw [if_pos c61] at H
            have q01 : (qj == 9007199254740992) = true := beq_iff_eq.mpr c61; have q1z : (qj != 9007199254740992) = false := bne_eq_false_iff_eq.mpr c61; clear c61
            (first | rw [q01] | (simp only [i64_w, i32_w]; rw [q01]) | skip)
            have H' := aK H; clear H
            go_wp2
            go_meet
            case rel => exact ⟨_, (wrap64 (ji31 + 1)), (4503599627370496), (by first | rfl | (simp; done) | (simp only [← hji31] <;> (first | rfl | simp)) | (simp [*]; done)), RSq, (by first | exact H' | (subst_vars; exact H')), ⟨by have := HJ2.out; have := HJ5.out; have := q02.out; have := q1r.out; first | omega | exact Nat.le_refl _⟩, ⟨kV HO_466002⟩, ⟨kB q0⟩, ⟨kHs HB q8⟩⟩
          rw [if_neg c61] at H
          have q01 : (qj == 9007199254740992) = false := beq_eq_false_iff_ne.mpr c61; have q1z : (qj != 9007199254740992) = true := bne_iff_ne.mpr c61
          (first | rw [q01] | (simp only [i64_w, i32_w]; rw [q01]) | skip)
          have H' := aK H; clear H
          go_wp2
          go_meet
          case rel => exact ⟨_, (ji31), (qj), (by first | rfl | (simp; done) | (simp only [← hji31] <;> (first | rfl | simp)) | (simp [*]; done)), RSq, (by first | exact H' | (subst_vars; exact H')), ⟨by have := HJ2.out; have := HJ5.out; have := q02.out; have := q1r.out; first | omega | exact Nat.le_refl _⟩, ⟨kV HO_466002⟩, ⟨kB q0⟩, ⟨kHs HB q8⟩⟩
         case rest =>
          clear q0x; (try clear c1); (try clear c2); (try clear p2); (try clear c3); (try clear c4); (try clear c5); (try clear qm); (try clear c6); (try clear p6); (try clear c7); (try clear c8); (try clear q08); (try clear q09); (try clear q0h); (try clear c12); (try clear q0a); (try clear c23); (try clear qx); (try clear c37); (try clear c40); (try clear q00); (try clear c50); (try clear q1t); (try clear c61); (try clear q01); (try clear q1z); (try clear q0b q0c q0d); (try clear q0i q0j q0k); (try clear q0p q0q q0r); (try clear q16 q17 q18); (try clear q1f q1g q1h); (try clear q1l q1m q1n); (try clear q0e q0f q0g); (try clear q0l q0m q0n); (try clear q0s q0t q0u); (try clear q19 q1a q1b); (try clear q1i q1j q1k); (try clear q1o q1p q1q); (try clear p2); (try clear p6); obtain ⟨kq, q03, qo, rfl, rfl, HA, HJ56, HO_466002, q0, HB⟩ := hcut
          cases kq with
          | zero => exact absurd HA.out (by simp [r4_Round.j4])
          | succ kj56 =>
           have H := HA.out; clear HA
           simp only [r4_Round.j4] at H
           by_cases c62 : qo ≥ 4503599627370496
           · rw [if_pos c62] at H
             have q28 : decide (4503599627370496 ≤ qo) = true := decide_eq_true c62; clear c62; replace H := Option.bind_eq_some_iff.mp H; obtain ⟨q05, q20, H⟩ := H; replace H : (some (q05, qn)) = some (r1, r2) := H; have A63 := aK q20; clear q20
             simp only [Option.some.injEq, Prod.mk.injEq] at H
             obtain ⟨rfl, rfl⟩ := H; obtain ⟨_, _, _, _, _, _⟩ := W3q q0
             go_wp2_with (first | ((with_reducible refine gate_callee (f := 85) rfl ?_); refine goesL_ (some 102) rfl rfl Try.func85 (by kernel_rfl) rfl #[.int .u64 (IntKind.u64.wrap ((IntKind.u64.wrap ((IntKind.u64.wrap ((IntKind.u64.wrap (wrap64 (q03 + 1075))) * 4503599627370496)) + qo)) - 4503599627370496)), .bool q1] rfl LMq ?_; (with_reducible refine (r4_signed.calls (IntKind.u64.wrap ((IntKind.u64.wrap ((IntKind.u64.wrap ((IntKind.u64.wrap (wrap64 (q03 + 1075))) * 4503599627370496)) + qo)) - 4503599627370496)) q1 q05 _ A63.out).mono ?_); rintro e w' ⟨rfl, ⟨nd, rfl⟩⟩; refine ⟨_, rfl, ?_⟩))
             go_ret2
             exact ⟨by first | rfl | (simp [errW_none, errW_some] <;> rfl) | (simp only [← hji31]; first | rfl | (simp [errW_none, errW_some] <;> rfl)) | (simp [*, errW_none, errW_some] <;> rfl), kHs HB q8⟩
           rw [if_neg c62] at H
           have q28 : decide (4503599627370496 ≤ qo) = false := decide_eq_false c62; clear c62; replace H := Option.bind_eq_some_iff.mp H; obtain ⟨q06, q21, H⟩ := H; replace H : (some (q06, qn)) = some (r1, r2) := H; have A65 := aK q21; clear q21
           simp only [Option.some.injEq, Prod.mk.injEq] at H
           obtain ⟨rfl, rfl⟩ := H; obtain ⟨_, _, _, _, _, _⟩ := W3q q0
           go_wp2_with (first | ((with_reducible refine gate_callee (f := 85) rfl ?_); refine goesL_ (some 107) rfl rfl Try.func85 (by kernel_rfl) rfl #[.int .u64 qo, .bool q1] rfl LMq ?_; (with_reducible refine (r4_signed.calls qo q1 q06 _ A65.out).mono ?_); rintro e w' ⟨rfl, ⟨nd, rfl⟩⟩; refine ⟨_, rfl, ?_⟩))
           go_ret2
           exact ⟨by first | rfl | (simp [errW_none, errW_some] <;> rfl) | (simp only [← hji31]; first | rfl | (simp [errW_none, errW_some] <;> rfl)) | (simp [*, errW_none, errW_some] <;> rfl), kHs HB q8⟩
end Go.Proofs.Ythcgeekibomhiaa.X
