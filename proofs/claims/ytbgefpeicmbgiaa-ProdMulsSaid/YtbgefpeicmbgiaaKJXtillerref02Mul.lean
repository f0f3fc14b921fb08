import Derived.Test.YtbgefpeicmbgiaaKJ4
namespace Go.Proofs.Ytbgefpeicmbgiaa.X
open Go.RowKit Go.Proofs.YtbgefpeicmbgiaaW.PrintWords Go.Proofs.YtbgefpeicmbgiaaW.PrintLast Go.Proofs.YtbgefpeicmbgiaaW.PrintMore
attribute [local go_sem] max2_int min2_int max_two min_two max_three min_three max_four min_four   
set_option linter.unusedVariables false
set_option linter.unusedSimpArgs false
mutual
def r2_Mul.l0 : Nat → List Int → List Int → List Int → Int → Option (List Int)
 | 0, _, _, _, _ => none
 | k + 1, x0, x1, x5, x6 => if x6 < (x0.length : Int) then (r2_Mul.l1 k x0 x1 x5 x6 0 0) else ((r2_trim.f k x5).bind fun q5 => (some q5))
def r2_Mul.l1 : Nat → List Int → List Int → List Int → Int → Int → Int → Option (List Int)
 | 0, _, _, _, _, _, _ => none
 | k + 1, x0, x1, x5, x6, x7, x8 => if x8 < (x1.length : Int) then (if 0 ≤ (wrap64 (x6 + x8)) then (if (wrap64 (x6 + x8)) < (x5.length : Int) then (if 0 ≤ x6 then (if x6 < (x0.length : Int) then (if 0 ≤ x8 then (r2_Mul.l1 k x0 x1 (x5.set ((wrap64 (x6 + x8)) : Int).toNat ((Int.tmod (IntKind.u64.wrap ((IntKind.u64.wrap (x7 + (IntKind.u64.wrap (rd x5 (wrap64 (x6 + x8)))))) + (IntKind.u64.wrap ((IntKind.u64.wrap (rd x0 x6)) * (IntKind.u64.wrap (rd x1 x8)))))) 65536) % 4294967296)) x6 (IntKind.u64.wrap (Int.tdiv (IntKind.u64.wrap ((IntKind.u64.wrap (x7 + (IntKind.u64.wrap (rd x5 (wrap64 (x6 + x8)))))) + (IntKind.u64.wrap ((IntKind.u64.wrap (rd x0 x6)) * (IntKind.u64.wrap (rd x1 x8)))))) 65536)) (wrap64 (x8 + 1))) else (none)) else (none)) else (none)) else (none)) else (none)) else (if 0 ≤ (wrap64 (x6 + (x1.length : Int))) then (if (wrap64 (x6 + (x1.length : Int))) < (x5.length : Int) then (r2_Mul.l0 k x0 x1 (x5.set ((wrap64 (x6 + (x1.length : Int))) : Int).toNat ((x7) % 4294967296)) (wrap64 (x6 + 1))) else (none)) else (none))
end
def r2_Mul.f (k : Nat) (l0 : List Int) (l1 : List Int) : Option (List Int) := if 0 ≤ (wrap64 ((l0.length : Int) + (l1.length : Int))) then (if (wrap64 ((l0.length : Int) + (l1.length : Int)) : Int).toNat ≤ 70368744177664 then (r2_Mul.l0 k l0 l1 (List.replicate (wrap64 ((l0.length : Int) + (l1.length : Int)) : Int).toNat 0) 0) else (none)) else (none)
theorem r2_Mul.mono_l : ∀ k, (∀ y0 y1 y2 y3, LeO (r2_Mul.l0 k y0 y1 y2 y3) (r2_Mul.l0 (k + 1) y0 y1 y2 y3)) ∧ (∀ y0 y1 y2 y3 y4 y5, LeO (r2_Mul.l1 k y0 y1 y2 y3 y4 y5) (r2_Mul.l1 (k + 1) y0 y1 y2 y3 y4 y5))
 | 0 => ⟨fun _ _ _ _ r h => by simp [r2_Mul.l0] at h, fun _ _ _ _ _ _ r h => by simp [r2_Mul.l1] at h⟩
 | k + 1 => by
  obtain ⟨ih0, ih1⟩ := r2_Mul.mono_l k; refine ⟨?_, ?_⟩
  · intro y0 y1 y2 y3
    unfold r2_Mul.l0
    repeat' first
    | (with_reducible exact ih0 _ _ _ _)
    | (with_reducible exact ih1 _ _ _ _ _ _)
    | (with_reducible exact r2_trim.mono _ _)
    | (with_reducible exact LeO.refl _)
    | (with_reducible exact LeO.none _)
    | (with_reducible refine LeO.ite ?_ ?_)
    | (with_reducible refine LeO.bind ?_ (fun _ => ?_))
    | exact ih0 _ _ _ _
    | exact ih1 _ _ _ _ _ _
    | exact r2_trim.mono _ _
    | exact LeO.none _
    | refine LeO.ite ?_ ?_
    | refine LeO.bind ?_ (fun _ => ?_)
  intro y0 y1 y2 y3 y4 y5
  unfold r2_Mul.l1
  repeat' first
  | (with_reducible exact ih0 _ _ _ _)
  | (with_reducible exact ih1 _ _ _ _ _ _)
  | (with_reducible exact r2_trim.mono _ _)
  | (with_reducible exact LeO.refl _)
  | (with_reducible exact LeO.none _)
  | (with_reducible refine LeO.ite ?_ ?_)
  | (with_reducible refine LeO.bind ?_ (fun _ => ?_))
  | exact ih0 _ _ _ _
  | exact ih1 _ _ _ _ _ _
  | exact r2_trim.mono _ _
  | exact LeO.none _
  | refine LeO.ite ?_ ?_
  | refine LeO.bind ?_ (fun _ => ?_)
theorem r2_Mul.mono : ∀ a0 a1 k, LeO (r2_Mul.f k a0 a1) (r2_Mul.f (k + 1) a0 a1) := by
 intro a0 a1 k; obtain ⟨ih0, ih1⟩ := r2_Mul.mono_l k
 unfold r2_Mul.f
 repeat' first
  | (with_reducible exact ih0 _ _ _ _)
  | (with_reducible exact ih1 _ _ _ _ _ _)
  | (with_reducible exact r2_trim.mono _ _)
  | (with_reducible exact LeO.refl _)
  | (with_reducible exact LeO.none _)
  | (with_reducible refine LeO.ite ?_ ?_)
  | (with_reducible refine LeO.bind ?_ (fun _ => ?_))
  | exact ih0 _ _ _ _
  | exact ih1 _ _ _ _ _ _
  | exact r2_trim.mono _ _
  | exact LeO.none _
  | refine LeO.ite ?_ ?_
  | refine LeO.bind ?_ (fun _ => ?_)
set_option maxHeartbeats 8000000 in
set_option maxRecDepth 100000 in
theorem r2_Mul.calls (k : Nat) (A0 : Option Addr) (c0 : Nat) (l0 : List Int) (A1 : Option Addr) (c1 : Nat) (l1 : List Int) (r : List Int) (w : World) (hr0 : Kd.C (Kd.int .u32) w A0 l0.length l0) (hc0 : l0.length ≤ c0) (hr1 : Kd.C (Kd.int .u32) w A1 l1.length l1) (hc1 : l1.length ≤ c1) (h : r2_Mul.f k l0 l1 = some r) :
 Calls Try.prog 86 #[.slice A0 l0.length c0, .slice A1 l1.length c1] w fun e w' => ∃ v0_ : Value, e = .returned (v0_) ∧ Kd.V (Kd.int .u32) 41 w' w.heap.size (fun k_ => (w.heap.size ≤ k_)) v0_ r ∧ Below w.heap.size w w' := by
 have HR0 := Aside0.mk hr0; have HC0 := Aside0.mk hc0; clear hr0 hc0; have HR1 := Aside0.mk hr1; have HC1 := Aside0.mk hc1; clear hr1 hc1; have HB := Aside0.mk (Below.refl w.heap.size w); have H : (if 0 ≤ (wrap64 ((l0.length : Int) + (l1.length : Int))) then (if (wrap64 ((l0.length : Int) + (l1.length : Int)) : Int).toNat ≤ 70368744177664 then (r2_Mul.l0 k l0 l1 (List.replicate (wrap64 ((l0.length : Int) + (l1.length : Int)) : Int).toNat 0) 0) else (none)) else (none)) = some r := h; clear h; obtain ⟨ji3, hji3⟩ : ∃ j_ : Int, (wrap64 ((l0.length : Int) + (l1.length : Int))) = j_ := ⟨_, rfl⟩
 replace H : (if 0 ≤ (ji3) then (if (ji3 : Int).toNat ≤ 70368744177664 then (r2_Mul.l0 k l0 l1 (List.replicate (ji3 : Int).toNat 0) 0) else (none)) else (none)) = some r := by first | (rw [hji3] at H; exact H) | (simp only [hji3] at H ⊢; exact H)
 have hji3w : (IntKind.i64.wrap ((l0.length : Int) + (l1.length : Int))) = ji3 := (i64_w _).trans hji3
 by_cases c4 : 0 ≤ (ji3)
 · rw [if_pos c4] at H
   have qi := eq_true c4; have qj : decide (0 ≤ (ji3)) = true := decide_eq_true c4; clear c4
   by_cases c5 : (ji3 : Int).toNat ≤ 70368744177664
   · rw [if_pos c5] at H
     have qk := eq_true c5; have ql : decide ((ji3 : Int).toNat ≤ 70368744177664) = true := decide_eq_true c5; clear c5; obtain ⟨y476, hy476⟩ : ∃ y_ : List Int, y_ = (List.replicate (ji3 : Int).toNat 0) := ⟨_, rfl⟩
     replace H : (r2_Mul.l0 k l0 l1 y476 0) = some r := by first | (rw [hy476]; with_reducible exact H) | (have H2_ := (Option.bind_some _ _).symm.trans H; rw [hy476]; with_reducible exact H2_) | (have H2_ := (Option.bind_some _ _).symm.trans H; with_reducible exact H2_) | with_reducible exact H | (rw [hy476]; exact H) | exact H
     have Ny476 := Aside0.mk hy476; clear hy476; have H' := Aside0.mk H; clear H
     go_enter Try.func86, Try.ntmps86
     go_wp2_with (first | ((with_reducible refine gate_dst (N := 14) rfl ?_); refine Kd.R_make (Kd.int .u32) _ 41 rfl (N := 14) rfl 64 _ _ rfl ji3 rfl rfl Try.underlying64 (.int .u32 0) 4 info41 rfl (by decide) (by omega) 0 (ok := fun _ => True) (okp := fun _ => True) rfl (fun _ hk => hk) trivial (of_decide_eq_true ASq) (Nat.le_trans (Nat.mul_le_mul_right _ (of_decide_eq_true ASq : ji3.toNat ≤ 70368744177664)) (by omega)) (Below.refl _ _) (Nat.le_refl _) ?_; intro v477 w6 ho7 hb hg_ hnew_; clear hg_ hnew_; (first | rw [← Ny476.out] at ho7 | (simp only [Int.reduceToNat] at ho7; rw [← Ny476.out] at ho7)); have q6 := Aside0.mk (Kd.R_lower (Kd.R_newM (M := fun k_ => (w.heap.size ≤ k_)) ho7 (below_size (kH HB)) (fun k_ h_ => h_)) (below_size (kH HB))); replace HB := Aside0.mk (below_step (kH HB) hb); clear hb ho7))
     repeat (go_quiet (first | ((with_reducible refine gate_dst (N := 14) rfl ?_); refine Kd.R_make (Kd.int .u32) _ 41 rfl (N := 14) rfl 64 _ _ rfl ji3 rfl rfl Try.underlying64 (.int .u32 0) 4 info41 rfl (by decide) (by omega) 0 (ok := fun _ => True) (okp := fun _ => True) rfl (fun _ hk => hk) trivial (of_decide_eq_true ASq) (Nat.le_trans (Nat.mul_le_mul_right _ (of_decide_eq_true ASq : ji3.toNat ≤ 70368744177664)) (by omega)) (Below.refl _ _) (Nat.le_refl _) ?_; intro v477 w6 ho7 hb hg_ hnew_; clear hg_ hnew_; (first | rw [← Ny476.out] at ho7 | (simp only [Int.reduceToNat] at ho7; rw [← Ny476.out] at ho7)); have q6 := Aside0.mk (Kd.R_lower (Kd.R_newM (M := fun k_ => (w.heap.size ≤ k_)) ho7 (below_size (kH HB)) (fun k_ h_ => h_)) (below_size (kH HB))); replace HB := Aside0.mk (below_step (kH HB) hb); clear hb ho7)); try go_wp2_with (first | ((with_reducible refine gate_dst (N := 14) rfl ?_); refine Kd.R_make (Kd.int .u32) _ 41 rfl (N := 14) rfl 64 _ _ rfl ji3 rfl rfl Try.underlying64 (.int .u32 0) 4 info41 rfl (by decide) (by omega) 0 (ok := fun _ => True) (okp := fun _ => True) rfl (fun _ hk => hk) trivial (of_decide_eq_true ASq) (Nat.le_trans (Nat.mul_le_mul_right _ (of_decide_eq_true ASq : ji3.toNat ≤ 70368744177664)) (by omega)) (Below.refl _ _) (Nat.le_refl _) ?_; intro v477 w6 ho7 hb hg_ hnew_; clear hg_ hnew_; (first | rw [← Ny476.out] at ho7 | (simp only [Int.reduceToNat] at ho7; rw [← Ny476.out] at ho7)); have q6 := Aside0.mk (Kd.R_lower (Kd.R_newM (M := fun k_ => (w.heap.size ≤ k_)) ho7 (below_size (kH HB)) (fun k_ h_ => h_)) (below_size (kH HB))); replace HB := Aside0.mk (below_step (kH HB) hb); clear hb ho7)))
     go_loopg [6] k (fun kq v6 w' => ∃ (q4 : List Int) (q0 : Int), v6 = .int .i64 q0 ∧ Aside0 (r2_Mul.l0 kq l0 l1 q4 q0 = some r) ∧ Aside0 (kq ≤ k) ∧ Aside0 (Kd.R (Kd.int .u32) 41 w' w.heap.size (fun k_ => (w.heap.size ≤ k_)) v477 q4) ∧ Aside0 (Below w.heap.size w w'))
     case atStart => exact ⟨(y476), (0), RSq, (by first | exact H' | (subst_vars; exact H')), ⟨Nat.le_refl _⟩, ⟨by (with_reducible repeat (first | apply Kd.R_alloc | apply Kd.R_drewN | apply Kd.R_drew)); exact Kd.R_mono q6.out (fun _ hk => hk.1)⟩, ⟨kH HB⟩⟩
     case round =>
      clear H'; (try clear c1); (try clear p2); (try clear c4); (try clear qi); (try clear qj); (try clear c5); (try clear qk); (try clear ql); (try clear p6); obtain ⟨q4, q0, rfl, HA, HK1, HO_5, HB⟩ := hrel
      cases gk with
      | zero => exact absurd HA.out (by simp [r2_Mul.l0])
      | succ k1 =>
       have H := HA.out; clear HA
       simp only [r2_Mul.l0] at H
       by_cases c8 : q0 < (l0.length : Int)
       · rw [if_pos c8] at H
         have qm : decide (q0 < (l0.length : Int)) = true := decide_eq_true c8; clear c8; have H' := Aside0.mk H; clear H
         go_wp2
         repeat (go_quiet (fail); try go_wp2)
         go_loopg [7, 8] k1 (fun kq v7 v8 w' => ∃ (q1 : List Int) (q3 : Int) (q2 : Int), v7 = .int .u64 q3 ∧ v8 = .int .i64 q2 ∧ Aside0 (r2_Mul.l1 kq l0 l1 q1 q0 q3 q2 = some r) ∧ Aside0 (kq ≤ k1) ∧ Aside0 (Kd.R (Kd.int .u32) 41 w' w.heap.size (fun k_ => (w.heap.size ≤ k_)) v477 q1) ∧ Aside0 (Below w.heap.size w w'))
         case atStart => exact ⟨(q4), (0), (0), RSq, RSq, (by first | exact H' | (subst_vars; exact H')), ⟨Nat.le_refl _⟩, ⟨kR HO_5⟩, ⟨kH HB⟩⟩
         case round =>
          clear H'; (try clear c1); (try clear p2); (try clear c4); (try clear qi); (try clear qj); (try clear c5); (try clear qk); (try clear ql); (try clear p6); (try clear c8); (try clear qm); (try clear p2); (try clear p6); obtain ⟨q1, q3, q2, rfl, rfl, HA, HK2, HO_5, HB⟩ := hrel
          cases gk with
          | zero => exact absurd HA.out (by simp [r2_Mul.l1])
          | succ k2 =>
           have H := HA.out; clear HA
           simp only [r2_Mul.l1] at H
           by_cases c9 : q2 < (l1.length : Int)
           · rw [if_pos c9] at H
             have qq : decide (q2 < (l1.length : Int)) = true := decide_eq_true c9; clear c9; obtain ⟨ji10, hji10⟩ : ∃ j_ : Int, (wrap64 (q0 + q2)) = j_ := ⟨_, rfl⟩
             replace H : (if 0 ≤ (ji10) then (if (ji10) < (q1.length : Int) then (if 0 ≤ q0 then (if q0 < (l0.length : Int) then (if 0 ≤ q2 then (r2_Mul.l1 k2 l0 l1 (q1.set ((ji10) : Int).toNat ((Int.tmod (IntKind.u64.wrap ((IntKind.u64.wrap (q3 + (IntKind.u64.wrap (rd q1 (ji10))))) + (IntKind.u64.wrap ((IntKind.u64.wrap (rd l0 q0)) * (IntKind.u64.wrap (rd l1 q2)))))) 65536) % 4294967296)) q0 (IntKind.u64.wrap (Int.tdiv (IntKind.u64.wrap ((IntKind.u64.wrap (q3 + (IntKind.u64.wrap (rd q1 (ji10))))) + (IntKind.u64.wrap ((IntKind.u64.wrap (rd l0 q0)) * (IntKind.u64.wrap (rd l1 q2)))))) 65536)) (wrap64 (q2 + 1))) else (none)) else (none)) else (none)) else (none)) else (none)) = some r := by first | (rw [hji10] at H; exact H) | (simp only [hji10] at H ⊢; exact H)
             have hji10w : (IntKind.i64.wrap (q0 + q2)) = ji10 := (i64_w _).trans hji10
             by_cases c11 : 0 ≤ (ji10)
             · rw [if_pos c11] at H
               have c11b0 : decide (0 ≤ (ji10)) = true := decide_eq_true c11; clear c11
               by_cases c12 : (ji10) < (q1.length : Int)
               · rw [if_pos c12] at H
                 have c12b0 : decide ((ji10) < (q1.length : Int)) = true := decide_eq_true c12; clear c12
                 by_cases c13 : 0 ≤ q0
                 · rw [if_pos c13] at H
                   have c13b0 : decide (0 ≤ q0) = true := decide_eq_true c13; clear c13
                   by_cases c14 : q0 < (l0.length : Int)
                   · rw [if_pos c14] at H
                     have c14b0 : decide (q0 < (l0.length : Int)) = true := decide_eq_true c14; clear c14
                     by_cases c15 : 0 ≤ q2
                     · rw [if_pos c15] at H
                       have c15b0 : decide (0 ≤ q2) = true := decide_eq_true c15; clear c15; obtain ⟨y485, hy485⟩ : ∃ y_ : List Int, y_ = (q1.set ((ji10) : Int).toNat ((Int.tmod (IntKind.u64.wrap ((IntKind.u64.wrap (q3 + (IntKind.u64.wrap (rd q1 (ji10))))) + (IntKind.u64.wrap ((IntKind.u64.wrap (rd l0 q0)) * (IntKind.u64.wrap (rd l1 q2)))))) 65536) % 4294967296)) := ⟨_, rfl⟩
                       replace H : (r2_Mul.l1 k2 l0 l1 y485 q0 (IntKind.u64.wrap (Int.tdiv (IntKind.u64.wrap ((IntKind.u64.wrap (q3 + (IntKind.u64.wrap (rd q1 (ji10))))) + (IntKind.u64.wrap ((IntKind.u64.wrap (rd l0 q0)) * (IntKind.u64.wrap (rd l1 q2)))))) 65536)) (wrap64 (q2 + 1))) = some r := by first | (rw [hy485]; with_reducible exact H) | (have H2_ := (Option.bind_some _ _).symm.trans H; rw [hy485]; with_reducible exact H2_) | (have H2_ := (Option.bind_some _ _).symm.trans H; with_reducible exact H2_) | with_reducible exact H | (rw [hy485]; exact H) | exact H
                       have Ny485 := Aside0.mk hy485; clear hy485; have H' := Aside0.mk H; clear H; obtain ⟨Ao17, q7, eo17⟩ := Kd.R_slice HO_5.out; subst eo17; have p482 : 0 ≤ ((ji10) : Int) := of_decide_eq_true ASq; have q482 : (ji10) < (q1.length : Int) := of_decide_eq_true ASq; obtain ⟨ad482, e482, qr⟩ := Kd.at_int (Kd.R_reads' HO_5.out).2.2 (ji10) p482 q482
                       cases e482
                       replace p482 := eq_true p482; replace q482 := eq_true q482; have p483 : 0 ≤ (q0 : Int) := of_decide_eq_true ASq; have q483 : q0 < (l0.length : Int) := of_decide_eq_true ASq; obtain ⟨ad483, e483, q8⟩ := Kd.at_int HR0.out q0 p483 q483
                       cases e483
                       replace q8 := (HB.out.cell (World.block_lt_of_cell? w _ q8)).trans q8; replace p483 := eq_true p483; replace q483 := eq_true q483; have p484 : 0 ≤ (q2 : Int) := of_decide_eq_true ASq; have q484 : q2 < (l1.length : Int) := of_decide_eq_true ASq; obtain ⟨ad484, e484, q9⟩ := Kd.at_int HR1.out q2 p484 q484
                       cases e484
                       replace q9 := (HB.out.cell (World.block_lt_of_cell? w _ q9)).trans q9; replace p484 := eq_true p484; replace q484 := eq_true q484; have p16 : 0 ≤ ((ji10) : Int) := of_decide_eq_true ASq; have q16 : ((ji10) : Int) < ((q1.length : Int) : Int) := of_decide_eq_true ASq; obtain ⟨go16, co16, eo16, qn, gl16, cl16, HG16⟩ := Kd.R_form HO_5.out (by omega)
                       (first | cases eo16 | (injection eo16 with ea_ en_ ec_; (first | subst ea_ | (injection ea_ with ea_; subst ea_)); subst ec_; clear en_))
                       have GB16 := Aside0.mk qn; have GG16 := Aside0.mk HG16; clear qn gl16 HG16
                       (first | simp only [add_plain] at qr | skip)
                       obtain ⟨qa, qb⟩ := Kd.R_celln 0 HO_5.out ((ji10) : Int) p16 q16; replace p16 := eq_true p16; replace q16 := eq_true q16; have HP18 := Kd.R_putg HO_5.out ((ji10) : Int) ((Int.tmod (IntKind.u64.wrap ((IntKind.u64.wrap (q3 + (IntKind.u64.wrap (rd q1 (ji10))))) + (IntKind.u64.wrap ((IntKind.u64.wrap (rd l0 q0)) * (IntKind.u64.wrap (rd l1 q2)))))) 65536) % 4294967296)
                       go_wp2_with (first | ((with_reducible refine gate_store (t := 41) (p := 55) rfl ?_); (try (rw [drewN_self wr]; generalize hq_ : World.drewN wr _ = wr; replace HO_5 := Aside0.mk (Kd.R_at hq_ HO_5.out); replace HB := Aside0.mk (below_at hq_ HB.out); clear hq_; (try (obtain ⟨qa, qb⟩ := Kd.R_celln 0 HO_5.out ((ji10) : Int) (of_eq_true p16) (of_eq_true q16))); (try (have HP18 := Kd.R_putg HO_5.out ((ji10) : Int) ((Int.tmod (IntKind.u64.wrap ((IntKind.u64.wrap (q3 + (IntKind.u64.wrap (rd q1 (ji10))))) + (IntKind.u64.wrap ((IntKind.u64.wrap (rd l0 q0)) * (IntKind.u64.wrap (rd l1 q2)))))) 65536) % 4294967296))))); refine store_event (t := 41) (p := 55) (v := ?vo_w19) (w1 := (wr.setCell ⟨go16, ((ji10) : Int).toNat, none⟩ (.int .u32 ((Int.tmod (IntKind.u64.wrap ((IntKind.u64.wrap (q3 + (IntKind.u64.wrap (rd q1 (ji10))))) + (IntKind.u64.wrap ((IntKind.u64.wrap (rd l0 q0)) * (IntKind.u64.wrap (rd l1 q2)))))) 65536) % 4294967296)))) ?hg ?ho ?hn ?hr ?_; (case ho => rfl); (case hg => rfl); (case hn => rfl); (case hr => first | (go_simp; done) | (go_simp; rfl)); intro w19 hw; have hg : wr.grownBy w19 (some go16) := (by rw [hw]; exact HP18.2); have hp_ : Kd.R (Kd.int .u32) 41 w19 w.heap.size (fun k_ => (w.heap.size ≤ k_)) (.slice (some ⟨go16, 0, none⟩) q1.length q7) y485 := (by rw [hw, Ny485.out]; exact HP18.1); clear HP18; replace HO_5 := Aside0.mk (hp_); replace HB := Aside0.mk ((by rw [hw]; exact below_set (HB.out) GB16.out : Below w.heap.size w w19)); clear hg hw hp_))
                       repeat (go_quiet (first | ((with_reducible refine gate_store (t := 41) (p := 55) rfl ?_); (try (rw [drewN_self wr]; generalize hq_ : World.drewN wr _ = wr; replace HO_5 := Aside0.mk (Kd.R_at hq_ HO_5.out); replace HB := Aside0.mk (below_at hq_ HB.out); clear hq_; (try (obtain ⟨qa, qb⟩ := Kd.R_celln 0 HO_5.out ((ji10) : Int) (of_eq_true p16) (of_eq_true q16))); (try (have HP18 := Kd.R_putg HO_5.out ((ji10) : Int) ((Int.tmod (IntKind.u64.wrap ((IntKind.u64.wrap (q3 + (IntKind.u64.wrap (rd q1 (ji10))))) + (IntKind.u64.wrap ((IntKind.u64.wrap (rd l0 q0)) * (IntKind.u64.wrap (rd l1 q2)))))) 65536) % 4294967296))))); refine store_event (t := 41) (p := 55) (v := ?vo_w19) (w1 := (wr.setCell ⟨go16, ((ji10) : Int).toNat, none⟩ (.int .u32 ((Int.tmod (IntKind.u64.wrap ((IntKind.u64.wrap (q3 + (IntKind.u64.wrap (rd q1 (ji10))))) + (IntKind.u64.wrap ((IntKind.u64.wrap (rd l0 q0)) * (IntKind.u64.wrap (rd l1 q2)))))) 65536) % 4294967296)))) ?hg ?ho ?hn ?hr ?_; (case ho => rfl); (case hg => rfl); (case hn => rfl); (case hr => first | (go_simp; done) | (go_simp; rfl)); intro w19 hw; have hg : wr.grownBy w19 (some go16) := (by rw [hw]; exact HP18.2); have hp_ : Kd.R (Kd.int .u32) 41 w19 w.heap.size (fun k_ => (w.heap.size ≤ k_)) (.slice (some ⟨go16, 0, none⟩) q1.length q7) y485 := (by rw [hw, Ny485.out]; exact HP18.1); clear HP18; replace HO_5 := Aside0.mk (hp_); replace HB := Aside0.mk ((by rw [hw]; exact below_set (HB.out) GB16.out : Below w.heap.size w w19)); clear hg hw hp_)); try go_wp2_with (first | ((with_reducible refine gate_store (t := 41) (p := 55) rfl ?_); (try (rw [drewN_self wr]; generalize hq_ : World.drewN wr _ = wr; replace HO_5 := Aside0.mk (Kd.R_at hq_ HO_5.out); replace HB := Aside0.mk (below_at hq_ HB.out); clear hq_; (try (obtain ⟨qa, qb⟩ := Kd.R_celln 0 HO_5.out ((ji10) : Int) (of_eq_true p16) (of_eq_true q16))); (try (have HP18 := Kd.R_putg HO_5.out ((ji10) : Int) ((Int.tmod (IntKind.u64.wrap ((IntKind.u64.wrap (q3 + (IntKind.u64.wrap (rd q1 (ji10))))) + (IntKind.u64.wrap ((IntKind.u64.wrap (rd l0 q0)) * (IntKind.u64.wrap (rd l1 q2)))))) 65536) % 4294967296))))); refine store_event (t := 41) (p := 55) (v := ?vo_w19) (w1 := (wr.setCell ⟨go16, ((ji10) : Int).toNat, none⟩ (.int .u32 ((Int.tmod (IntKind.u64.wrap ((IntKind.u64.wrap (q3 + (IntKind.u64.wrap (rd q1 (ji10))))) + (IntKind.u64.wrap ((IntKind.u64.wrap (rd l0 q0)) * (IntKind.u64.wrap (rd l1 q2)))))) 65536) % 4294967296)))) ?hg ?ho ?hn ?hr ?_; (case ho => rfl); (case hg => rfl); (case hn => rfl); (case hr => first | (go_simp; done) | (go_simp; rfl)); intro w19 hw; have hg : wr.grownBy w19 (some go16) := (by rw [hw]; exact HP18.2); have hp_ : Kd.R (Kd.int .u32) 41 w19 w.heap.size (fun k_ => (w.heap.size ≤ k_)) (.slice (some ⟨go16, 0, none⟩) q1.length q7) y485 := (by rw [hw, Ny485.out]; exact HP18.1); clear HP18; replace HO_5 := Aside0.mk (hp_); replace HB := Aside0.mk ((by rw [hw]; exact below_set (HB.out) GB16.out : Below w.heap.size w w19)); clear hg hw hp_)))
                       go_roundg k2
                       case measure => have := HK1.out; have := HK2.out; omega
                       case rel => exact ⟨(y485), (IntKind.u64.wrap (Int.tdiv (IntKind.u64.wrap ((IntKind.u64.wrap (q3 + (IntKind.u64.wrap (rd q1 (ji10))))) + (IntKind.u64.wrap ((IntKind.u64.wrap (rd l0 q0)) * (IntKind.u64.wrap (rd l1 q2)))))) 65536)), (wrap64 (q2 + 1)), (by first | rfl | (simp; done) | (simp only [← hji10] <;> (first | rfl | simp)) | (simp [*]; done)), RSq, (by first | exact H' | (subst_vars; exact H')), ⟨by have := HK1.out; have := HK2.out; omega⟩, ⟨kR HO_5⟩, ⟨kH HB⟩⟩
                     rw [if_neg c15] at H
                     exact absurd H (by simp)
                   rw [if_neg c14] at H
                   exact absurd H (by simp)
                 rw [if_neg c13] at H
                 exact absurd H (by simp)
               rw [if_neg c12] at H
               exact absurd H (by simp)
             rw [if_neg c11] at H
             exact absurd H (by simp)
           rw [if_neg c9] at H
           have qq : decide (q2 < (l1.length : Int)) = false := decide_eq_false c9; clear c9; obtain ⟨ji20, hji20⟩ : ∃ j_ : Int, (wrap64 (q0 + (l1.length : Int))) = j_ := ⟨_, rfl⟩
           replace H : (if 0 ≤ (ji20) then (if (ji20) < (q1.length : Int) then (r2_Mul.l0 k2 l0 l1 (q1.set ((ji20) : Int).toNat ((q3) % 4294967296)) (wrap64 (q0 + 1))) else (none)) else (none)) = some r := by first | (rw [hji20] at H; exact H) | (simp only [hji20] at H ⊢; exact H)
           have hji20w : (IntKind.i64.wrap (q0 + (l1.length : Int))) = ji20 := (i64_w _).trans hji20
           by_cases c21 : 0 ≤ (ji20)
           · rw [if_pos c21] at H
             have c21b0 : decide (0 ≤ (ji20)) = true := decide_eq_true c21; clear c21
             by_cases c22 : (ji20) < (q1.length : Int)
             · rw [if_pos c22] at H
               have c22b0 : decide ((ji20) < (q1.length : Int)) = true := decide_eq_true c22; clear c22; obtain ⟨y486, hy486⟩ : ∃ y_ : List Int, y_ = (q1.set ((ji20) : Int).toNat ((q3) % 4294967296)) := ⟨_, rfl⟩
               replace H : (r2_Mul.l0 k2 l0 l1 y486 (wrap64 (q0 + 1))) = some r := by first | (rw [hy486]; with_reducible exact H) | (have H2_ := (Option.bind_some _ _).symm.trans H; rw [hy486]; with_reducible exact H2_) | (have H2_ := (Option.bind_some _ _).symm.trans H; with_reducible exact H2_) | with_reducible exact H | (rw [hy486]; exact H) | exact H
               have Ny486 := Aside0.mk hy486; clear hy486; have H' := Aside0.mk H; clear H; have p23 : 0 ≤ ((ji20) : Int) := of_decide_eq_true ASq; have q23 : ((ji20) : Int) < ((q1.length : Int) : Int) := of_decide_eq_true ASq; obtain ⟨go23, qc, eo23, qo, gl23, cl23, HG23⟩ := Kd.R_form HO_5.out (by omega)
               (first | cases eo23 | (injection eo23 with ea_ en_ ec_; (first | subst ea_ | (injection ea_ with ea_; subst ea_)); subst ec_; clear en_))
               have GB23 := Aside0.mk qo; have GG23 := Aside0.mk HG23; clear qo gl23 HG23; obtain ⟨qd, qe⟩ := Kd.R_celln 0 HO_5.out ((ji20) : Int) p23 q23; replace p23 := eq_true p23; replace q23 := eq_true q23; have HP24 := Kd.R_putg HO_5.out ((ji20) : Int) ((q3) % 4294967296)
               go_wp2_with (first | ((with_reducible refine gate_store (t := 41) (p := 65) rfl ?_); (try (rw [drewN_self wr]; generalize hq_ : World.drewN wr _ = wr; replace HO_5 := Aside0.mk (Kd.R_at hq_ HO_5.out); replace HB := Aside0.mk (below_at hq_ HB.out); clear hq_; (try (obtain ⟨qd, qe⟩ := Kd.R_celln 0 HO_5.out ((ji20) : Int) (of_eq_true p23) (of_eq_true q23))); (try (have HP24 := Kd.R_putg HO_5.out ((ji20) : Int) ((q3) % 4294967296))))); refine store_event (t := 41) (p := 65) (v := ?vo_w25) (w1 := (wr.setCell ⟨go23, ((ji20) : Int).toNat, none⟩ (.int .u32 ((q3) % 4294967296)))) ?hg ?ho ?hn ?hr ?_; (case ho => rfl); (case hg => rfl); (case hn => rfl); (case hr => first | (go_simp; done) | (go_simp; rfl)); intro w25 hw; have hg : wr.grownBy w25 (some go23) := (by rw [hw]; exact HP24.2); have hp_ : Kd.R (Kd.int .u32) 41 w25 w.heap.size (fun k_ => (w.heap.size ≤ k_)) (.slice (some ⟨go23, 0, none⟩) q1.length qc) y486 := (by rw [hw, Ny486.out]; exact HP24.1); clear HP24; replace HO_5 := Aside0.mk (hp_); replace HB := Aside0.mk ((by rw [hw]; exact below_set (HB.out) GB23.out : Below w.heap.size w w25)); clear hg hw hp_))
               repeat (go_quiet (first | ((with_reducible refine gate_store (t := 41) (p := 65) rfl ?_); (try (rw [drewN_self wr]; generalize hq_ : World.drewN wr _ = wr; replace HO_5 := Aside0.mk (Kd.R_at hq_ HO_5.out); replace HB := Aside0.mk (below_at hq_ HB.out); clear hq_; (try (obtain ⟨qd, qe⟩ := Kd.R_celln 0 HO_5.out ((ji20) : Int) (of_eq_true p23) (of_eq_true q23))); (try (have HP24 := Kd.R_putg HO_5.out ((ji20) : Int) ((q3) % 4294967296))))); refine store_event (t := 41) (p := 65) (v := ?vo_w25) (w1 := (wr.setCell ⟨go23, ((ji20) : Int).toNat, none⟩ (.int .u32 ((q3) % 4294967296)))) ?hg ?ho ?hn ?hr ?_; (case ho => rfl); (case hg => rfl); (case hn => rfl); (case hr => first | (go_simp; done) | (go_simp; rfl)); intro w25 hw; have hg : wr.grownBy w25 (some go23) := (by rw [hw]; exact HP24.2); have hp_ : Kd.R (Kd.int .u32) 41 w25 w.heap.size (fun k_ => (w.heap.size ≤ k_)) (.slice (some ⟨go23, 0, none⟩) q1.length qc) y486 := (by rw [hw, Ny486.out]; exact HP24.1); clear HP24; replace HO_5 := Aside0.mk (hp_); replace HB := Aside0.mk ((by rw [hw]; exact below_set (HB.out) GB23.out : Below w.heap.size w w25)); clear hg hw hp_)); try go_wp2_with (first | ((with_reducible refine gate_store (t := 41) (p := 65) rfl ?_); (try (rw [drewN_self wr]; generalize hq_ : World.drewN wr _ = wr; replace HO_5 := Aside0.mk (Kd.R_at hq_ HO_5.out); replace HB := Aside0.mk (below_at hq_ HB.out); clear hq_; (try (obtain ⟨qd, qe⟩ := Kd.R_celln 0 HO_5.out ((ji20) : Int) (of_eq_true p23) (of_eq_true q23))); (try (have HP24 := Kd.R_putg HO_5.out ((ji20) : Int) ((q3) % 4294967296))))); refine store_event (t := 41) (p := 65) (v := ?vo_w25) (w1 := (wr.setCell ⟨go23, ((ji20) : Int).toNat, none⟩ (.int .u32 ((q3) % 4294967296)))) ?hg ?ho ?hn ?hr ?_; (case ho => rfl); (case hg => rfl); (case hn => rfl); (case hr => first | (go_simp; done) | (go_simp; rfl)); intro w25 hw; have hg : wr.grownBy w25 (some go23) := (by rw [hw]; exact HP24.2); have hp_ : Kd.R (Kd.int .u32) 41 w25 w.heap.size (fun k_ => (w.heap.size ≤ k_)) (.slice (some ⟨go23, 0, none⟩) q1.length qc) y486 := (by rw [hw, Ny486.out]; exact HP24.1); clear HP24; replace HO_5 := Aside0.mk (hp_); replace HB := Aside0.mk ((by rw [hw]; exact below_set (HB.out) GB23.out : Below w.heap.size w w25)); clear hg hw hp_)))
               go_roundg k2
               case measure => have := HK1.out; have := HK2.out; omega
               case rel => exact ⟨(y486), (wrap64 (q0 + 1)), RSq, (by first | exact H' | (subst_vars; exact H')), ⟨by have := HK1.out; have := HK2.out; omega⟩, ⟨kR HO_5⟩, ⟨kH HB⟩⟩
             rw [if_neg c22] at H
             exact absurd H (by simp)
           rw [if_neg c21] at H
           exact absurd H (by simp)
       rw [if_neg c8] at H
       have qm : decide (q0 < (l0.length : Int)) = false := decide_eq_false c8; clear c8; replace H := Option.bind_eq_some_iff.mp H; obtain ⟨q5, qp, H⟩ := H; replace H : (some q5) = some r := H; have A26 := Aside0.mk qp; clear qp; obtain rfl := Option.some.inj H; obtain ⟨qf, qg, eo27⟩ := Kd.R_slice HO_5.out; subst eo27
       go_wp2_with (first | (go_at_call 70; (with_reducible refine (r2_trim.calls k1 (fun k_ => some k_ = (.slice qf q4.length qg : Value).ownBlock) _ _ q4 q5 _ ?side1 A26.out).mono ?_); (case side1 => exact Kd.R_V (Kd.R_tight rfl (HO_5.out))); rintro e w28 ⟨v480, rfl, ho0, hb⟩; have qh := Aside0.mk (Kd.V_lower (Kd.V_mono (ok' := fun k_ => (w.heap.size ≤ k_)) ho0 (fun k_ hk_ => Or.elim hk_ (fun hs_ => ((HO_5.out).1 k_ hs_.symm)) (fun hn_ => (Nat.le_trans (below_size (kH HB)) hn_)))) (below_size (kH HB))); replace HO_5 := Aside0.mk (Kd.R_below (kR HO_5) hb); replace HB := Aside0.mk (below_step (kH HB) hb); (try clear hb); (try clear hb2); (try clear hk); (try clear hi); (try clear ho0)))
       repeat (go_quiet (first | (go_at_call 70; (with_reducible refine (r2_trim.calls k1 (fun k_ => some k_ = (.slice qf q4.length qg : Value).ownBlock) _ _ q4 q5 _ ?side1 A26.out).mono ?_); (case side1 => exact Kd.R_V (Kd.R_tight rfl (HO_5.out))); rintro e w28 ⟨v480, rfl, ho0, hb⟩; have qh := Aside0.mk (Kd.V_lower (Kd.V_mono (ok' := fun k_ => (w.heap.size ≤ k_)) ho0 (fun k_ hk_ => Or.elim hk_ (fun hs_ => ((HO_5.out).1 k_ hs_.symm)) (fun hn_ => (Nat.le_trans (below_size (kH HB)) hn_)))) (below_size (kH HB))); replace HO_5 := Aside0.mk (Kd.R_below (kR HO_5) hb); replace HB := Aside0.mk (below_step (kH HB) hb); (try clear hb); (try clear hb2); (try clear hk); (try clear hi); (try clear ho0))); try go_wp2_with (first | (go_at_call 70; (with_reducible refine (r2_trim.calls k1 (fun k_ => some k_ = (.slice qf q4.length qg : Value).ownBlock) _ _ q4 q5 _ ?side1 A26.out).mono ?_); (case side1 => exact Kd.R_V (Kd.R_tight rfl (HO_5.out))); rintro e w28 ⟨v480, rfl, ho0, hb⟩; have qh := Aside0.mk (Kd.V_lower (Kd.V_mono (ok' := fun k_ => (w.heap.size ≤ k_)) ho0 (fun k_ hk_ => Or.elim hk_ (fun hs_ => ((HO_5.out).1 k_ hs_.symm)) (fun hn_ => (Nat.le_trans (below_size (kH HB)) hn_)))) (below_size (kH HB))); replace HO_5 := Aside0.mk (Kd.R_below (kR HO_5) hb); replace HB := Aside0.mk (below_step (kH HB) hb); (try clear hb); (try clear hb2); (try clear hk); (try clear hi); (try clear ho0))))
       go_ret
       exact ⟨_, by first | rfl | (simp [errW_none, errW_some] <;> rfl) | (simp only [← hji3]; first | rfl | (simp [errW_none, errW_some] <;> rfl)) | (simp [*, errW_none, errW_some] <;> rfl), by (with_reducible repeat (first | apply Kd.V_alloc | apply Kd.V_drewN | apply Kd.V_drew)); exact qh.out, kH HB⟩
   rw [if_neg c5] at H
   exact absurd H (by simp)
 rw [if_neg c4] at H
 exact absurd H (by simp)
end Go.Proofs.Ytbgefpeicmbgiaa.X
