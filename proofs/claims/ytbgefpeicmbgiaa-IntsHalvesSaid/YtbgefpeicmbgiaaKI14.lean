import Derived.Test.YtbgefpeicmbgiaaKIBaseC
import Derived.Test.YtbgefpeicmbgiaaKIWWords
import Derived.Test.YtbgefpeicmbgiaaKI4
section
namespace Go.Proofs.Ytbgefpeicmbgiaa.X
open Go.RowKit Go.Proofs.YtbgefpeicmbgiaaW.PrintWords Go.Proofs.YtbgefpeicmbgiaaW.PrintLast Go.Proofs.YtbgefpeicmbgiaaW.PrintMore
attribute [local go_sem] max2_int min2_int max_two min_two max_three min_three max_four min_four   
set_option linter.unusedVariables false
set_option linter.unusedSimpArgs false
def r2_trim.l0 : Nat → List Int → Int → Option (List Int)
 | 0, _, _ => none
 | k + 1, x0, x3 => if x3 > 0 then (if 0 ≤ (wrap64 (x3 - 1)) then (if (wrap64 (x3 - 1)) < (x0.length : Int) then (if (rd x0 (wrap64 (x3 - 1))) = 0 then (r2_trim.l0 k x0 (wrap64 (x3 - 1))) else (if 0 ≤ x3 then (if x3 ≤ (x0.length : Int) then (some (x0.take (x3 : Int).toNat)) else (none)) else (none))) else (none)) else (none)) else (if 0 ≤ x3 then (if x3 ≤ (x0.length : Int) then (some (x0.take (x3 : Int).toNat)) else (none)) else (none))
def r2_trim.f (k : Nat) (l0 : List Int) : Option (List Int) := r2_trim.l0 k l0 (l0.length : Int)
theorem r2_trim.mono_l : ∀ k, (∀ y0 y1, LeO (r2_trim.l0 k y0 y1) (r2_trim.l0 (k + 1) y0 y1))
 | 0 => fun _ _ r h => by simp [r2_trim.l0] at h
 | k + 1 => by
  have ih0 := r2_trim.mono_l k
  · intro y0 y1
    unfold r2_trim.l0
    repeat' first
    | (with_reducible exact ih0 _ _)
    | (with_reducible exact LeO.refl _)
    | (with_reducible exact LeO.none _)
    | (with_reducible refine LeO.ite ?_ ?_)
    | (with_reducible refine LeO.bind ?_ (fun _ => ?_))
    | exact ih0 _ _
    | exact LeO.none _
    | refine LeO.ite ?_ ?_
    | refine LeO.bind ?_ (fun _ => ?_)
theorem r2_trim.mono : ∀ a0 k, LeO (r2_trim.f k a0) (r2_trim.f (k + 1) a0) := by
 intro a0 k; have ih0 := r2_trim.mono_l k
 unfold r2_trim.f
 repeat' first
  | (with_reducible exact ih0 _ _)
  | (with_reducible exact LeO.refl _)
  | (with_reducible exact LeO.none _)
  | (with_reducible refine LeO.ite ?_ ?_)
  | (with_reducible refine LeO.bind ?_ (fun _ => ?_))
  | exact ih0 _ _
  | exact LeO.none _
  | refine LeO.ite ?_ ?_
  | refine LeO.bind ?_ (fun _ => ?_)
set_option maxHeartbeats 8000000 in
set_option maxRecDepth 100000 in
theorem r2_trim.calls (k : Nat) (P0_ : Nat → Prop) (A0 : Option Addr) (c0 : Nat) (l0 : List Int) (r : List Int) (w : World) (hs0 : Kd.V (Kd.int .u32) 41 w w.heap.size (fun k_ => P0_ k_) (.slice A0 l0.length c0) l0) (h : r2_trim.f k l0 = some r) :
 Calls Try.prog 70 #[.slice A0 l0.length c0] w fun e w' => ∃ v0_ : Value, e = .returned (v0_) ∧ Kd.V (Kd.int .u32) 41 w' w.heap.size (fun k_ => (P0_ k_ ∨ w.heap.size ≤ k_)) v0_ r ∧ Below w.heap.size w w' := by
 have HO0 := Aside0.mk (show Kd.V (Kd.int .u32) 41 w w.heap.size (fun k_ => (P0_ k_ ∨ w.heap.size ≤ k_)) (.slice A0 l0.length c0) l0 from Kd.V_mono hs0 (fun k_ hk => .inl hk)); have HB := Aside0.mk (Below.refl w.heap.size w); have H : (r2_trim.l0 k l0 (l0.length : Int)) = some r := h; clear h; have H' := Aside0.mk H; clear H
 go_enter Try.func70, Try.ntmps70
 go_wp2
 go_loopg [3] k (fun kq v3 w' => ∃ (q0 : Int), v3 = .int .i64 q0 ∧ Aside0 (r2_trim.l0 kq l0 q0 = some r) ∧ Aside0 (kq ≤ k) ∧ Aside0 (Kd.V (Kd.int .u32) 41 w' w.heap.size (fun k_ => (P0_ k_ ∨ w.heap.size ≤ k_)) (.slice A0 l0.length c0) l0) ∧ Aside0 (Below w.heap.size w w'))
 case atStart => exact ⟨((l0.length : Int)), RSq, (by first | exact H' | (subst_vars; exact H')), ⟨Nat.le_refl _⟩, ⟨kV HO0⟩, ⟨kH HB⟩⟩
 case round =>
  clear H'; obtain ⟨q0, rfl, HA, HK1, HO_0, HB⟩ := hrel
  cases gk with
  | zero => exact absurd HA.out (by simp [r2_trim.l0])
  | succ k1 =>
   have H := HA.out; clear HA
   simp only [r2_trim.l0] at H
   by_cases c2 : q0 > 0
   · rw [if_pos c2] at H
     have q1 : decide (0 < q0) = true := decide_eq_true c2; clear c2; obtain ⟨ji3, hji3⟩ : ∃ j_ : Int, (wrap64 (q0 - 1)) = j_ := ⟨_, rfl⟩
     replace H : (if 0 ≤ (ji3) then (if (ji3) < (l0.length : Int) then (if (rd l0 (ji3)) = 0 then (r2_trim.l0 k1 l0 ji3) else (if 0 ≤ q0 then (if q0 ≤ (l0.length : Int) then (some (l0.take (q0 : Int).toNat)) else (none)) else (none))) else (none)) else (none)) = some r := by first | (rw [hji3] at H; exact H) | (simp only [hji3] at H ⊢; exact H)
     have hji3w : (IntKind.i64.wrap (q0 - 1)) = ji3 := (i64_w _).trans hji3
     by_cases c4 : 0 ≤ (ji3)
     · rw [if_pos c4] at H
       have c4b0 : decide (0 ≤ (ji3)) = true := decide_eq_true c4; clear c4
       by_cases c5 : (ji3) < (l0.length : Int)
       · rw [if_pos c5] at H
         have c5b0 : decide ((ji3) < (l0.length : Int)) = true := decide_eq_true c5; clear c5
         by_cases c6 : (rd l0 (ji3)) = 0
         · rw [if_pos c6] at H
           have q2 : ((rd l0 (ji3)) == 0) = true := beq_iff_eq.mpr c6; have q3 : ((rd l0 (ji3)) != 0) = false := bne_eq_false_iff_eq.mpr c6; clear c6; have H' := Aside0.mk H; clear H; have p115 : 0 ≤ ((ji3) : Int) := of_decide_eq_true ASq; have q115 : (ji3) < (l0.length : Int) := of_decide_eq_true ASq; obtain ⟨ad115, e115, q4⟩ := Kd.at_int (Kd.V_reads' HO_0.out).2.2 (ji3) p115 q115
           cases e115
           replace p115 := eq_true p115; replace q115 := eq_true q115
           go_wp2
           go_roundg k1
           case measure => have := HK1.out; omega
           case rel => exact ⟨(ji3), (by first | rfl | (simp; done) | (simp only [← hji3] <;> (first | rfl | simp)) | (simp [*]; done)), (by first | exact H' | (subst_vars; exact H')), ⟨by have := HK1.out; omega⟩, ⟨kV HO_0⟩, ⟨kH HB⟩⟩
         rw [if_neg c6] at H
         have q2 : ((rd l0 (ji3)) == 0) = false := beq_eq_false_iff_ne.mpr c6; have q3 : ((rd l0 (ji3)) != 0) = true := bne_iff_ne.mpr c6
         by_cases c7 : 0 ≤ q0
         · rw [if_pos c7] at H
           have c7b0 := eq_true c7; have c7b1 : decide (0 ≤ q0) = true := decide_eq_true c7; clear c7
           by_cases c8 : q0 ≤ (l0.length : Int)
           · rw [if_pos c8] at H
             have c8b0 := eq_true c8; have c8b1 : decide (q0 ≤ (l0.length : Int)) = true := decide_eq_true c8; clear c8; obtain ⟨y116, hy116⟩ : ∃ y_ : List Int, y_ = (l0.take (q0 : Int).toNat) := ⟨_, rfl⟩
             replace H : (some y116) = some r := by first | (rw [hy116]; with_reducible exact H) | (have H2_ := (Option.bind_some _ _).symm.trans H; rw [hy116]; with_reducible exact H2_) | (have H2_ := (Option.bind_some _ _).symm.trans H; with_reducible exact H2_) | with_reducible exact H | (rw [hy116]; exact H) | exact H
             have Ny116 := Aside0.mk hy116; clear hy116; obtain rfl := Option.some.inj H; have p115 : 0 ≤ ((ji3) : Int) := of_decide_eq_true ASq; have q115 : (ji3) < (l0.length : Int) := of_decide_eq_true ASq; obtain ⟨ad115, e115, q4⟩ := Kd.at_int (Kd.V_reads' HO_0.out).2.2 (ji3) p115 q115
             cases e115
             replace p115 := eq_true p115; replace q115 := eq_true q115; have q9 : (q0 : Int) ≤ ((l0.length : Int) : Int) := of_decide_eq_true ASq; obtain ⟨i09, hi09, _, hsz9, _⟩ := info_parts info41; have hroom9 : l0.length ≤ c0 := (Kd.V_reads' HO_0.out).2.1; have hC9 : Kd.F (Kd.int .u32) _ _ (some ad115) l0.length l0 := (Kd.V_at (base := w.heap.size) HO_0.out).2.2; have hcut9 := cut_to_cap (P := Try.prog) 64 41 .i64 Try.underlying64 hi09 (some ad115) l0.length c0 q0 (of_decide_eq_true ASq) q9 hroom9; have hr9 := Kd.F_take (m := (q0 : Int).toNat) hC9 (by omega); have hy9 : y116.length = (q0 : Int).toNat := (by rw [Ny116.out, List.length_take]; omega)
             rw [← Ny116.out] at hr9
             rw [← hy9] at hcut9
             have q5 := Aside0.mk (show Kd.V (Kd.int .u32) 41 _ w.heap.size _ (.slice (some ad115) y116.length y116.length) y116 from Kd.V_mk (by omega) hr9); have HC120 := Aside0.mk (show y116.length ≤ y116.length from by omega); clear hr9 hC9 hroom9 hi09 hsz9; have KY9 := Aside0.mk hy9; clear hy9; replace q9 := eq_true q9
             go_wp2
             go_ret
             exact ⟨_, by first | rfl | (simp [errW_none, errW_some] <;> rfl) | (simp only [← hji3]; first | rfl | (simp [errW_none, errW_some] <;> rfl)) | (simp [*, errW_none, errW_some] <;> rfl), by (with_reducible repeat (first | apply Kd.V_alloc | apply Kd.V_drewN | apply Kd.V_drew)); exact q5.out, kH HB⟩
           rw [if_neg c8] at H
           exact absurd H (by simp)
         rw [if_neg c7] at H
         exact absurd H (by simp)
       rw [if_neg c5] at H
       exact absurd H (by simp)
     rw [if_neg c4] at H
     exact absurd H (by simp)
   rw [if_neg c2] at H
   have q1 : decide (0 < q0) = false := decide_eq_false c2; clear c2
   by_cases c10 : 0 ≤ q0
   · rw [if_pos c10] at H
     have c10b0 := eq_true c10; have c10b1 : decide (0 ≤ q0) = true := decide_eq_true c10; clear c10
     by_cases c11 : q0 ≤ (l0.length : Int)
     · rw [if_pos c11] at H
       have c11b0 := eq_true c11; have c11b1 : decide (q0 ≤ (l0.length : Int)) = true := decide_eq_true c11; clear c11; obtain ⟨y121, hy121⟩ : ∃ y_ : List Int, y_ = (l0.take (q0 : Int).toNat) := ⟨_, rfl⟩
       replace H : (some y121) = some r := by first | (rw [hy121]; with_reducible exact H) | (have H2_ := (Option.bind_some _ _).symm.trans H; rw [hy121]; with_reducible exact H2_) | (have H2_ := (Option.bind_some _ _).symm.trans H; with_reducible exact H2_) | with_reducible exact H | (rw [hy121]; exact H) | exact H
       have Ny121 := Aside0.mk hy121; clear hy121; obtain rfl := Option.some.inj H; have q12 : (q0 : Int) ≤ ((l0.length : Int) : Int) := of_decide_eq_true ASq; obtain ⟨i012, hi012, _, hsz12, _⟩ := info_parts info41; have hroom12 : l0.length ≤ c0 := (Kd.V_reads' HO_0.out).2.1; have hC12 : Kd.F (Kd.int .u32) _ _ A0 l0.length l0 := (Kd.V_at (base := w.heap.size) HO_0.out).2.2; have hcut12 := cut_to_cap (P := Try.prog) 64 41 .i64 Try.underlying64 hi012 A0 l0.length c0 q0 (of_decide_eq_true ASq) q12 hroom12; have hr12 := Kd.F_take (m := (q0 : Int).toNat) hC12 (by omega); have hy12 : y121.length = (q0 : Int).toNat := (by rw [Ny121.out, List.length_take]; omega)
       rw [← Ny121.out] at hr12
       rw [← hy12] at hcut12
       have q6 := Aside0.mk (show Kd.V (Kd.int .u32) 41 _ w.heap.size _ (.slice A0 y121.length y121.length) y121 from Kd.V_mk (by omega) hr12); have HC125 := Aside0.mk (show y121.length ≤ y121.length from by omega); clear hr12 hC12 hroom12 hi012 hsz12; have KY12 := Aside0.mk hy12; clear hy12; replace q12 := eq_true q12
       go_wp2
       go_ret
       exact ⟨_, by first | rfl | (simp [errW_none, errW_some] <;> rfl) | (simp [*, errW_none, errW_some] <;> rfl), by (with_reducible repeat (first | apply Kd.V_alloc | apply Kd.V_drewN | apply Kd.V_drew)); exact q6.out, kH HB⟩
     rw [if_neg c11] at H
     exact absurd H (by simp)
   rw [if_neg c10] at H
   exact absurd H (by simp)
end Go.Proofs.Ytbgefpeicmbgiaa.X
end
section
namespace Go.Proofs.Ytbgefpeicmbgiaa.X
open Go.RowKit Go.Proofs.YtbgefpeicmbgiaaW.PrintWords Go.Proofs.YtbgefpeicmbgiaaW.PrintLast Go.Proofs.YtbgefpeicmbgiaaW.PrintMore
attribute [local go_sem] max2_int min2_int max_two min_two max_three min_three max_four min_four   
set_option linter.unusedVariables false
set_option linter.unusedSimpArgs false
def r2_Of.f (k : Nat) (a0 : Int) : Option (List Int) := (r2_trim.f k (([(Int.tmod a0 65536) % 4294967296, (Int.tmod (IntKind.u64.wrap (Int.tdiv a0 65536)) 65536) % 4294967296, (Int.tmod (IntKind.u64.wrap (Int.tdiv a0 4294967296)) 65536) % 4294967296, (IntKind.u64.wrap (Int.tdiv a0 281474976710656)) % 4294967296] : List Int))).bind fun q0 => (some q0)
theorem r2_Of.mono : ∀ a0 k, LeO (r2_Of.f k a0) (r2_Of.f (k + 1) a0) := by
 intro a0 k
 unfold r2_Of.f
 repeat' first
  | (with_reducible exact r2_trim.mono _ _)
  | (with_reducible exact LeO.refl _)
  | (with_reducible exact LeO.none _)
  | (with_reducible refine LeO.ite ?_ ?_)
  | (with_reducible refine LeO.bind ?_ (fun _ => ?_))
  | exact r2_trim.mono _ _
  | exact LeO.none _
  | refine LeO.ite ?_ ?_
  | refine LeO.bind ?_ (fun _ => ?_)
set_option maxHeartbeats 8000000 in
set_option maxRecDepth 100000 in
theorem r2_Of.calls (k : Nat) (a0 : Int) (r : List Int) (w : World) (h : r2_Of.f k a0 = some r) :
 Calls Try.prog 33 #[.int .u64 a0] w fun e w' => ∃ v0_ : Value, e = .returned (v0_) ∧ Kd.V (Kd.int .u32) 41 w' w.heap.size (fun k_ => (w.heap.size ≤ k_)) v0_ r ∧ Below w.heap.size w w' := by
 have HB := Aside0.mk (Below.refl w.heap.size w); have H : ((r2_trim.f k (([(Int.tmod a0 65536) % 4294967296, (Int.tmod (IntKind.u64.wrap (Int.tdiv a0 65536)) 65536) % 4294967296, (Int.tmod (IntKind.u64.wrap (Int.tdiv a0 4294967296)) 65536) % 4294967296, (IntKind.u64.wrap (Int.tdiv a0 281474976710656)) % 4294967296] : List Int))).bind fun q0 => (some q0)) = some r := h; clear h; obtain ⟨y126, hy126⟩ : ∃ y_ : List Int, y_ = (([(Int.tmod a0 65536) % 4294967296, (Int.tmod (IntKind.u64.wrap (Int.tdiv a0 65536)) 65536) % 4294967296, (Int.tmod (IntKind.u64.wrap (Int.tdiv a0 4294967296)) 65536) % 4294967296, (IntKind.u64.wrap (Int.tdiv a0 281474976710656)) % 4294967296] : List Int)) := ⟨_, rfl⟩
 replace H : ((r2_trim.f k y126).bind fun q0 => (some q0)) = some r := by first | (rw [hy126]; with_reducible exact H) | (have H2_ := (Option.bind_some _ _).symm.trans H; rw [hy126]; with_reducible exact H2_) | (have H2_ := (Option.bind_some _ _).symm.trans H; with_reducible exact H2_) | with_reducible exact H | (rw [hy126]; exact H) | exact H
 have Ny126 := Aside0.mk hy126; clear hy126; replace H := Option.bind_eq_some_iff.mp H; obtain ⟨q0, A20, H⟩ := H; replace H : (some q0) = some r := H; have A2 := Aside0.mk A20; clear A20; obtain rfl := Option.some.inj H
 go_enter Try.func33, Try.ntmps33
 go_wp2_with (first | ((with_reducible refine gate_dst (N := 17) rfl ?_); refine Kd.R_lit (Kd.int .u32) _ 41 ?hg (N := 17) ?hd (xs := ([(Int.tmod a0 65536) % 4294967296, (Int.tmod (IntKind.u64.wrap (Int.tdiv a0 65536)) 65536) % 4294967296, (Int.tmod (IntKind.u64.wrap (Int.tdiv a0 4294967296)) 65536) % 4294967296, (IntKind.u64.wrap (Int.tdiv a0 281474976710656)) % 4294967296] : List Int)) (inner := [.int .u32 ((Int.tmod a0 65536) % 4294967296), .int .u32 ((Int.tmod (IntKind.u64.wrap (Int.tdiv a0 65536)) 65536) % 4294967296), .int .u32 ((Int.tmod (IntKind.u64.wrap (Int.tdiv a0 4294967296)) 65536) % 4294967296), .int .u32 ((IntKind.u64.wrap (Int.tdiv a0 281474976710656)) % 4294967296)]) (ok := fun _ => True) (okp := fun _ => True) ?hr ?hp (fun _ hk => hk) trivial (Below.refl _ _) (Nat.le_refl _) (by simp) ?_; (case hd => rfl); (case hg => rfl); (case hr => first | (go_simp; done) | (go_simp; rfl)); (case hp => exact (Reps.one (show Kd.M (Kd.int .u32) _ _ _ ((Int.tmod a0 65536) % 4294967296) [.int .u32 ((Int.tmod a0 65536) % 4294967296)] from rfl) (Reps.one (show Kd.M (Kd.int .u32) _ _ _ ((Int.tmod (IntKind.u64.wrap (Int.tdiv a0 65536)) 65536) % 4294967296) [.int .u32 ((Int.tmod (IntKind.u64.wrap (Int.tdiv a0 65536)) 65536) % 4294967296)] from rfl) (Reps.one (show Kd.M (Kd.int .u32) _ _ _ ((Int.tmod (IntKind.u64.wrap (Int.tdiv a0 4294967296)) 65536) % 4294967296) [.int .u32 ((Int.tmod (IntKind.u64.wrap (Int.tdiv a0 4294967296)) 65536) % 4294967296)] from rfl) (Reps.one (show Kd.M (Kd.int .u32) _ _ _ ((IntKind.u64.wrap (Int.tdiv a0 281474976710656)) % 4294967296) [.int .u32 ((IntKind.u64.wrap (Int.tdiv a0 281474976710656)) % 4294967296)] from rfl) (Reps.none _ _)))))); intro v127 w3 ho4 hb hg_ hnew_; clear hg_ hnew_; (first | rw [← Ny126.out] at ho4 | (simp only [Int.reduceToNat] at ho4; rw [← Ny126.out] at ho4)); have q1 := Aside0.mk (Kd.R_lower (Kd.R_newM (M := fun k_ => (w.heap.size ≤ k_)) ho4 (below_size (kH HB)) (fun k_ h_ => h_)) (below_size (kH HB))); replace HB := Aside0.mk (below_step (kH HB) hb); clear hb ho4; obtain ⟨Ao5, co5, eo5⟩ := Kd.R_slice q1.out; subst eo5) | ((with_reducible refine gate_callee (f := 70) rfl ?_); refine goesL_ (some 18) rfl rfl Try.func70 (by kernel_rfl) rfl #[.slice Ao5 y126.length co5] rfl LMq ?_; (with_reducible refine (r2_trim.calls k (fun k_ => some k_ = (.slice Ao5 y126.length co5 : Value).ownBlock) _ _ y126 q0 _ ?side1 A2.out).mono ?_); (case side1 => exact Kd.R_V (Kd.R_tight rfl (q1.out))); rintro e w6 ⟨v130, rfl, ho0, hb⟩; refine ⟨_, rfl, ?_⟩; have q2 := Aside0.mk (Kd.V_lower (Kd.V_mono (ok' := fun k_ => (w.heap.size ≤ k_)) ho0 (fun k_ hk_ => Or.elim hk_ (fun hs_ => ((q1.out).1 k_ hs_.symm).1) (fun hn_ => (Nat.le_trans (below_size (kH HB)) hn_)))) (below_size (kH HB))); replace q1 := Aside0.mk (Kd.R_below (kR q1) hb); replace HB := Aside0.mk (below_step (kH HB) hb); (try clear hb); (try clear hb2); (try clear hk); (try clear hi); (try clear ho0)))
 go_ret
 exact ⟨_, by first | rfl | (simp [errW_none, errW_some] <;> rfl) | (simp [*, errW_none, errW_some] <;> rfl), by (with_reducible repeat (first | apply Kd.V_alloc | apply Kd.V_drewN | apply Kd.V_drew)); exact q2.out, kH HB⟩
end Go.Proofs.Ytbgefpeicmbgiaa.X
end
section
namespace Go.Proofs.Ytbgefpeicmbgiaa.X
open Go.RowKit Go.Proofs.YtbgefpeicmbgiaaW.PrintWords Go.Proofs.YtbgefpeicmbgiaaW.PrintLast Go.Proofs.YtbgefpeicmbgiaaW.PrintMore
attribute [local go_sem] max2_int min2_int max_two min_two max_three min_three max_four min_four   
set_option linter.unusedVariables false
set_option linter.unusedSimpArgs false
def r2_Len.l0 : Nat → Int → Int → Option (Int)
 | 0, _, _ => none
 | k + 1, x3, x4 => if x4 > 0 then (r2_Len.l0 k (wrap64 (x3 + 1)) ((Int.tdiv x4 2) % 4294967296)) else (some x3)
def r2_Len.f (k : Nat) (l0 : List Int) : Option (Int) := if (l0.length : Int) = 0 then (some 0) else (if 0 ≤ (wrap64 ((l0.length : Int) - 1)) then (if (wrap64 ((l0.length : Int) - 1)) < (l0.length : Int) then (r2_Len.l0 k (wrap64 (16 * (wrap64 ((l0.length : Int) - 1)))) (rd l0 (wrap64 ((l0.length : Int) - 1)))) else (none)) else (none))
theorem r2_Len.mono_l : ∀ k, (∀ y0 y1, LeO (r2_Len.l0 k y0 y1) (r2_Len.l0 (k + 1) y0 y1))
 | 0 => fun _ _ r h => by simp [r2_Len.l0] at h
 | k + 1 => by
  have ih0 := r2_Len.mono_l k
  · intro y0 y1
    unfold r2_Len.l0
    repeat' first
    | (with_reducible exact ih0 _ _)
    | (with_reducible exact LeO.refl _)
    | (with_reducible exact LeO.none _)
    | (with_reducible refine LeO.ite ?_ ?_)
    | (with_reducible refine LeO.bind ?_ (fun _ => ?_))
    | exact ih0 _ _
    | exact LeO.none _
    | refine LeO.ite ?_ ?_
    | refine LeO.bind ?_ (fun _ => ?_)
theorem r2_Len.mono : ∀ a0 k, LeO (r2_Len.f k a0) (r2_Len.f (k + 1) a0) := by
 intro a0 k; have ih0 := r2_Len.mono_l k
 unfold r2_Len.f
 repeat' first
  | (with_reducible exact ih0 _ _)
  | (with_reducible exact LeO.refl _)
  | (with_reducible exact LeO.none _)
  | (with_reducible refine LeO.ite ?_ ?_)
  | (with_reducible refine LeO.bind ?_ (fun _ => ?_))
  | exact ih0 _ _
  | exact LeO.none _
  | refine LeO.ite ?_ ?_
  | refine LeO.bind ?_ (fun _ => ?_)
set_option maxHeartbeats 8000000 in
set_option maxRecDepth 100000 in
theorem r2_Len.calls (k : Nat) (A0 : Option Addr) (c0 : Nat) (l0 : List Int) (r : Int) (w : World) (hr0 : Kd.C (Kd.int .u32) w A0 l0.length l0) (hc0 : l0.length ≤ c0) (h : r2_Len.f k l0 = some r) :
 Calls Try.prog 68 #[.slice A0 l0.length c0] w fun e w' => e = .returned (.int .i64 r) ∧ Below w.heap.size w w' := by
 have HR0 := Aside0.mk hr0; have HC0 := Aside0.mk hc0; clear hr0 hc0; have HB := Aside0.mk (Below.refl w.heap.size w); have H : (if (l0.length : Int) = 0 then (some 0) else (if 0 ≤ (wrap64 ((l0.length : Int) - 1)) then (if (wrap64 ((l0.length : Int) - 1)) < (l0.length : Int) then (r2_Len.l0 k (wrap64 (16 * (wrap64 ((l0.length : Int) - 1)))) (rd l0 (wrap64 ((l0.length : Int) - 1)))) else (none)) else (none))) = some r := h; clear h
 by_cases c2 : (l0.length : Int) = 0
 · rw [if_pos c2] at H
   have q3 : ((l0.length : Int) == 0) = true := beq_iff_eq.mpr c2; have q4 : ((l0.length : Int) != 0) = false := bne_eq_false_iff_eq.mpr c2; clear c2; obtain rfl := Option.some.inj H
   go_enter Try.func68, Try.ntmps68
   go_wp2
   go_ret
   exact ⟨by first | rfl | (simp [errW_none, errW_some] <;> rfl) | (simp [*, errW_none, errW_some] <;> rfl), kH HB⟩
 rw [if_neg c2] at H
 have q3 : ((l0.length : Int) == 0) = false := beq_eq_false_iff_ne.mpr c2; have q4 : ((l0.length : Int) != 0) = true := bne_iff_ne.mpr c2
 have q5 : ¬ (l0 = []) := fun h_ => c2 (by rw [h_]; rfl)
 obtain ⟨ji3, hji3⟩ : ∃ j_ : Int, (wrap64 ((l0.length : Int) - 1)) = j_ := ⟨_, rfl⟩
 replace H : (if 0 ≤ (ji3) then (if (ji3) < (l0.length : Int) then (r2_Len.l0 k (wrap64 (16 * (ji3))) (rd l0 (ji3))) else (none)) else (none)) = some r := by first | (rw [hji3] at H; exact H) | (simp only [hji3] at H ⊢; exact H)
 have hji3w : (IntKind.i64.wrap ((l0.length : Int) - 1)) = ji3 := (i64_w _).trans hji3
 by_cases c4 : 0 ≤ (ji3)
 · rw [if_pos c4] at H
   have q6 : decide (0 ≤ (ji3)) = true := decide_eq_true c4; clear c4
   by_cases c5 : (ji3) < (l0.length : Int)
   · rw [if_pos c5] at H
     have q7 : decide ((ji3) < (l0.length : Int)) = true := decide_eq_true c5; clear c5; have H' := Aside0.mk H; clear H; have p137 : 0 ≤ ((ji3) : Int) := of_decide_eq_true ASq; have q137 : (ji3) < (l0.length : Int) := of_decide_eq_true ASq; obtain ⟨ad137, e137, q8⟩ := Kd.at_int HR0.out (ji3) p137 q137
     cases e137
     replace p137 := eq_true p137; replace q137 := eq_true q137
     go_enter Try.func68, Try.ntmps68
     go_wp2
     go_loopg [3, 4] k (fun kq v3 v4 w' => ∃ (q2 : Int) (q0 : Int), v3 = .int .i64 q2 ∧ v4 = .int .u32 q0 ∧ Aside0 (r2_Len.l0 kq q2 q0 = some r) ∧ Aside0 (kq ≤ k) ∧ Aside0 (Below w.heap.size w w'))
     case atStart => exact ⟨(wrap64 (16 * (ji3))), (rd l0 (ji3)), (by first | rfl | (simp; done) | (simp only [← hji3] <;> (first | rfl | simp)) | (simp [*]; done)), (by first | rfl | (simp; done) | (simp only [← hji3] <;> (first | rfl | simp)) | (simp [*]; done)), (by first | exact H' | (subst_vars; exact H')), ⟨Nat.le_refl _⟩, ⟨kH HB⟩⟩
     case round =>
      clear H'; (try clear p1); (try clear q1); (try clear hx1); (try clear c2); (try clear q3); (try clear q4); (try clear q5); (try clear p2); (try clear c4); (try clear q6); (try clear c5); (try clear q7); (try clear q8); (try clear p137); (try clear q137); obtain ⟨q2, q0, rfl, rfl, HA, HK1, HB⟩ := hrel
      cases gk with
      | zero => exact absurd HA.out (by simp [r2_Len.l0])
      | succ k1 =>
       have H := HA.out; clear HA
       simp only [r2_Len.l0] at H
       by_cases c6 : q0 > 0
       · rw [if_pos c6] at H
         have q9 : decide (0 < q0) = true := decide_eq_true c6; clear c6; have H' := Aside0.mk H; clear H
         go_wp2
         go_roundg k1
         case measure => have := HK1.out; omega
         case rel => exact ⟨(wrap64 (q2 + 1)), ((Int.tdiv q0 2) % 4294967296), RSq, RSq, (by first | exact H' | (subst_vars; exact H')), ⟨by have := HK1.out; omega⟩, ⟨kH HB⟩⟩
       rw [if_neg c6] at H
       have q9 : decide (0 < q0) = false := decide_eq_false c6; clear c6; obtain rfl := Option.some.inj H
       go_wp2
       go_ret
       exact ⟨by first | rfl | (simp [errW_none, errW_some] <;> rfl) | (simp only [← hji3]; first | rfl | (simp [errW_none, errW_some] <;> rfl)) | (simp [*, errW_none, errW_some] <;> rfl), kH HB⟩
   rw [if_neg c5] at H
   exact absurd H (by simp)
 rw [if_neg c4] at H
 exact absurd H (by simp)
end Go.Proofs.Ytbgefpeicmbgiaa.X
end
section
namespace Go.Proofs.Ytbgefpeicmbgiaa.X
open Go.RowKit Go.Proofs.YtbgefpeicmbgiaaW.PrintWords Go.Proofs.YtbgefpeicmbgiaaW.PrintLast Go.Proofs.YtbgefpeicmbgiaaW.PrintMore
attribute [local go_sem] max2_int min2_int max_two min_two max_three min_three max_four min_four   
set_option linter.unusedVariables false
set_option linter.unusedSimpArgs false
def r2_Low.l0 : Nat → List Int → Int → Int → Option (Int)
 | 0, _, _, _ => none
 | k + 1, x0, x3, x4 => if x4 ≥ 0 then (if 0 ≤ x4 then (if x4 < (x0.length : Int) then (r2_Low.l0 k x0 (IntKind.u64.wrap ((IntKind.u64.wrap (65536 * x3)) + (IntKind.u64.wrap (rd x0 x4)))) (wrap64 (x4 - 1))) else (none)) else (none)) else (some x3)
def r2_Low.f (k : Nat) (l0 : List Int) : Option (Int) := if 4 < (l0.length : Int) then (r2_Low.l0 k l0 0 (4 - 1)) else (r2_Low.l0 k l0 0 (wrap64 ((l0.length : Int) - 1)))
theorem r2_Low.mono_l : ∀ k, (∀ y0 y1 y2, LeO (r2_Low.l0 k y0 y1 y2) (r2_Low.l0 (k + 1) y0 y1 y2))
 | 0 => fun _ _ _ r h => by simp [r2_Low.l0] at h
 | k + 1 => by
  have ih0 := r2_Low.mono_l k
  · intro y0 y1 y2
    unfold r2_Low.l0
    repeat' first
    | (with_reducible exact ih0 _ _ _)
    | (with_reducible exact LeO.refl _)
    | (with_reducible exact LeO.none _)
    | (with_reducible refine LeO.ite ?_ ?_)
    | (with_reducible refine LeO.bind ?_ (fun _ => ?_))
    | exact ih0 _ _ _
    | exact LeO.none _
    | refine LeO.ite ?_ ?_
    | refine LeO.bind ?_ (fun _ => ?_)
theorem r2_Low.mono : ∀ a0 k, LeO (r2_Low.f k a0) (r2_Low.f (k + 1) a0) := by
 intro a0 k; have ih0 := r2_Low.mono_l k
 unfold r2_Low.f
 repeat' first
  | (with_reducible exact ih0 _ _ _)
  | (with_reducible exact LeO.refl _)
  | (with_reducible exact LeO.none _)
  | (with_reducible refine LeO.ite ?_ ?_)
  | (with_reducible refine LeO.bind ?_ (fun _ => ?_))
  | exact ih0 _ _ _
  | exact LeO.none _
  | refine LeO.ite ?_ ?_
  | refine LeO.bind ?_ (fun _ => ?_)
set_option maxHeartbeats 8000000 in
set_option maxRecDepth 100000 in
theorem r2_Low.calls (k : Nat) (A0 : Option Addr) (c0 : Nat) (l0 : List Int) (r : Int) (w : World) (hr0 : Kd.C (Kd.int .u32) w A0 l0.length l0) (hc0 : l0.length ≤ c0) (h : r2_Low.f k l0 = some r) :
 Calls Try.prog 41 #[.slice A0 l0.length c0] w fun e w' => e = .returned (.int .u64 r) ∧ Below w.heap.size w w' := by
 have HR0 := Aside0.mk hr0; have HC0 := Aside0.mk hc0; clear hr0 hc0; have HB := Aside0.mk (Below.refl w.heap.size w); have H : (if 4 < (l0.length : Int) then (r2_Low.l0 k l0 0 (4 - 1)) else (r2_Low.l0 k l0 0 (wrap64 ((l0.length : Int) - 1)))) = some r := h; clear h
 by_cases c2 : 4 < (l0.length : Int)
 · rw [if_pos c2] at H
   have c2i := eq_true c2; have q4 : decide (4 < (l0.length : Int)) = true := decide_eq_true c2; have q5 : decide (4 < l0.length) = true := decide_eq_true (by omega); clear c2; have H' := Aside0.mk H; clear H
   go_enter Try.func41, Try.ntmps41
   go_wp2
   go_loopg [3, 4] k (fun kq v3 v4 w' => ∃ (q1 : Int) (q0 : Int), v3 = .int .u64 q1 ∧ v4 = .int .i64 q0 ∧ Aside0 (r2_Low.l0 kq l0 q1 q0 = some r) ∧ Aside0 (kq ≤ k) ∧ Aside0 (Below w.heap.size w w'))
   case atStart => exact ⟨(0), (4 - 1), RSq, RSq, (by first | exact H' | (subst_vars; exact H')), ⟨Nat.le_refl _⟩, ⟨kH HB⟩⟩
   case round =>
    clear H'; (try clear c2); (try clear q4); (try clear q5); (try clear p2); obtain ⟨q1, q0, rfl, rfl, HA, HK1, HB⟩ := hrel
    cases gk with
    | zero => exact absurd HA.out (by simp [r2_Low.l0])
    | succ k1 =>
     have H := HA.out; clear HA
     simp only [r2_Low.l0] at H
     by_cases c3 : q0 ≥ 0
     · rw [if_pos c3] at H
       have q6 : decide (0 ≤ q0) = true := decide_eq_true c3; clear c3
       by_cases c4 : 0 ≤ q0
       · rw [if_pos c4] at H
         have q7 : decide (0 ≤ q0) = true := decide_eq_true c4; clear c4
         by_cases c5 : q0 < (l0.length : Int)
         · rw [if_pos c5] at H
           have q8 : decide (q0 < (l0.length : Int)) = true := decide_eq_true c5; clear c5; have H' := Aside0.mk H; clear H; have p208 : 0 ≤ (q0 : Int) := of_decide_eq_true ASq; have q208 : q0 < (l0.length : Int) := of_decide_eq_true ASq; obtain ⟨ad208, e208, q3⟩ := Kd.at_int HR0.out q0 p208 q208
           cases e208
           replace q3 := (HB.out.cell (World.block_lt_of_cell? w _ q3)).trans q3; replace p208 := eq_true p208; replace q208 := eq_true q208
           go_wp2
           go_roundg k1
           case measure => have := HK1.out; omega
           case rel => exact ⟨(IntKind.u64.wrap ((IntKind.u64.wrap (65536 * q1)) + (IntKind.u64.wrap (rd l0 q0)))), (wrap64 (q0 - 1)), RSq, RSq, (by first | exact H' | (subst_vars; exact H')), ⟨by have := HK1.out; omega⟩, ⟨kH HB⟩⟩
         rw [if_neg c5] at H
         exact absurd H (by simp)
       rw [if_neg c4] at H
       exact absurd H (by simp)
     rw [if_neg c3] at H
     have q6 : decide (0 ≤ q0) = false := decide_eq_false c3; clear c3; obtain rfl := Option.some.inj H
     go_wp2
     go_ret
     exact ⟨by first | rfl | (simp [errW_none, errW_some] <;> rfl) | (simp [*, errW_none, errW_some] <;> rfl), kH HB⟩
 rw [if_neg c2] at H
 have c2i := eq_false c2; have q4 : decide (4 < (l0.length : Int)) = false := decide_eq_false c2; have q5 : decide (4 < l0.length) = false := decide_eq_false (by omega); clear c2; have H' := Aside0.mk H; clear H
 go_enter Try.func41, Try.ntmps41
 go_wp2
 go_loopg [3, 4] k (fun kq v3 v4 w' => ∃ (q1 : Int) (q0 : Int), v3 = .int .u64 q1 ∧ v4 = .int .i64 q0 ∧ Aside0 (r2_Low.l0 kq l0 q1 q0 = some r) ∧ Aside0 (kq ≤ k) ∧ Aside0 (Below w.heap.size w w'))
 case atStart => exact ⟨(0), (wrap64 ((l0.length : Int) - 1)), RSq, RSq, (by first | exact H' | (subst_vars; exact H')), ⟨Nat.le_refl _⟩, ⟨kH HB⟩⟩
 case round =>
  clear H'; (try clear c2); (try clear q4); (try clear q5); (try clear p2); (try clear q2); (try clear hx2); (try clear c3); (try clear q6); (try clear c4); (try clear q7); (try clear c5); (try clear q8); (try clear q3); (try clear p2); (try clear p208); (try clear q208); obtain ⟨q1, q0, rfl, rfl, HA, HK1, HB⟩ := hrel
  cases gk with
  | zero => exact absurd HA.out (by simp [r2_Low.l0])
  | succ k1 =>
   have H := HA.out; clear HA
   simp only [r2_Low.l0] at H
   by_cases c6 : q0 ≥ 0
   · rw [if_pos c6] at H
     have q9 : decide (0 ≤ q0) = true := decide_eq_true c6; clear c6
     by_cases c7 : 0 ≤ q0
     · rw [if_pos c7] at H
       have c7b0 : decide (0 ≤ q0) = true := decide_eq_true c7; clear c7
       by_cases c8 : q0 < (l0.length : Int)
       · rw [if_pos c8] at H
         have c8b0 : decide (q0 < (l0.length : Int)) = true := decide_eq_true c8; clear c8; have H' := Aside0.mk H; clear H; have p208 : 0 ≤ (q0 : Int) := of_decide_eq_true ASq; have q208 : q0 < (l0.length : Int) := of_decide_eq_true ASq; obtain ⟨ad208, e208, q3⟩ := Kd.at_int HR0.out q0 p208 q208
         cases e208
         replace q3 := (HB.out.cell (World.block_lt_of_cell? w _ q3)).trans q3; replace p208 := eq_true p208; replace q208 := eq_true q208
         go_wp2
         go_roundg k1
         case measure => have := HK1.out; omega
         case rel => exact ⟨(IntKind.u64.wrap ((IntKind.u64.wrap (65536 * q1)) + (IntKind.u64.wrap (rd l0 q0)))), (wrap64 (q0 - 1)), RSq, RSq, (by first | exact H' | (subst_vars; exact H')), ⟨by have := HK1.out; omega⟩, ⟨kH HB⟩⟩
       rw [if_neg c8] at H
       exact absurd H (by simp)
     rw [if_neg c7] at H
     exact absurd H (by simp)
   rw [if_neg c6] at H
   have q9 : decide (0 ≤ q0) = false := decide_eq_false c6; clear c6; obtain rfl := Option.some.inj H
   go_wp2
   go_ret
   exact ⟨by first | rfl | (simp [errW_none, errW_some] <;> rfl) | (simp [*, errW_none, errW_some] <;> rfl), kH HB⟩
end Go.Proofs.Ytbgefpeicmbgiaa.X
end
section
namespace Go.Proofs.Ytbgefpeicmbgiaa.X
open Go.RowKit Go.Proofs.YtbgefpeicmbgiaaW.PrintWords Go.Proofs.YtbgefpeicmbgiaaW.PrintLast Go.Proofs.YtbgefpeicmbgiaaW.PrintMore
attribute [local go_sem] max2_int min2_int max_two min_two max_three min_three max_four min_four   
set_option linter.unusedVariables false
set_option linter.unusedSimpArgs false
def r2_at.f (l0 : List Int) (a1 : Int) : Option (Int) := if a1 ≥ 0 then (if a1 < (l0.length : Int) then (if 0 ≤ a1 then (some (rd l0 a1)) else (none)) else (some 0)) else (some 0)
set_option maxHeartbeats 8000000 in
set_option maxRecDepth 100000 in
theorem r2_at.calls (A0 : Option Addr) (c0 : Nat) (l0 : List Int) (a1 : Int) (r : Int) (w : World) (hr0 : Kd.C (Kd.int .u32) w A0 l0.length l0) (hc0 : l0.length ≤ c0) (h : r2_at.f l0 a1 = some r) :
 Calls Try.prog 78 #[.slice A0 l0.length c0, .int .i64 a1] w fun e w' => e = .returned (.int .u32 r) ∧ Drawn0 w w' := by
 have HR0 := Aside0.mk hr0; have HC0 := Aside0.mk hc0; clear hr0 hc0; have H : (if a1 ≥ 0 then (if a1 < (l0.length : Int) then (if 0 ≤ a1 then (some (rd l0 a1)) else (none)) else (some 0)) else (some 0)) = some r := h; clear h
 by_cases c3 : a1 ≥ 0
 · rw [if_pos c3] at H
   have q0 : decide (0 ≤ a1) = true := decide_eq_true c3; clear c3
   by_cases c4 : a1 < (l0.length : Int)
   · rw [if_pos c4] at H
     have q1 : decide (a1 < (l0.length : Int)) = true := decide_eq_true c4; clear c4
     by_cases c5 : 0 ≤ a1
     · rw [if_pos c5] at H
       have c5b0 : decide (0 ≤ a1) = true := decide_eq_true c5; clear c5; obtain rfl := Option.some.inj H; have p132 : 0 ≤ (a1 : Int) := of_decide_eq_true ASq; have q132 : a1 < (l0.length : Int) := of_decide_eq_true ASq; obtain ⟨ad132, e132, hx132_0⟩ := Kd.at_int HR0.out a1 p132 q132
       cases e132
       replace p132 := eq_true p132; replace q132 := eq_true q132
       go_enter Try.func78, Try.ntmps78
       go_wp2
       go_ret
       exact ⟨by first | rfl | (simp; done) | (simp [*]; done) | (simp [wrap64]; done), by repeat (first | exact Drawn0.refl _ | apply Drawn0.step)⟩
     rw [if_neg c5] at H
     exact absurd H (by simp)
   rw [if_neg c4] at H
   have q1 : decide (a1 < (l0.length : Int)) = false := decide_eq_false c4; clear c4; obtain rfl := Option.some.inj H
   go_enter Try.func78, Try.ntmps78
   go_wp2
   go_ret
   exact ⟨by first | rfl | (simp; done) | (simp [*]; done) | (simp [wrap64]; done), by repeat (first | exact Drawn0.refl _ | apply Drawn0.step)⟩
 rw [if_neg c3] at H
 have q0 : decide (0 ≤ a1) = false := decide_eq_false c3; clear c3; obtain rfl := Option.some.inj H
 go_enter Try.func78, Try.ntmps78
 go_wp2
 go_ret
 exact ⟨by first | rfl | (simp; done) | (simp [*]; done) | (simp [wrap64]; done), by repeat (first | exact Drawn0.refl _ | apply Drawn0.step)⟩
end Go.Proofs.Ytbgefpeicmbgiaa.X
end
section
namespace Go.Proofs.Ytbgefpeicmbgiaa.X
open Go.RowKit Go.Proofs.YtbgefpeicmbgiaaW.PrintWords Go.Proofs.YtbgefpeicmbgiaaW.PrintLast Go.Proofs.YtbgefpeicmbgiaaW.PrintMore
attribute [local go_sem] max2_int min2_int max_two min_two max_three min_three max_four min_four   
set_option linter.unusedVariables false
set_option linter.unusedSimpArgs false
mutual
def r2_Add.l0 : Nat → List Int → List Int → List Int → Int → Int → Option (List Int)
 | 0, _, _, _, _, _ => none
 | k + 1, x0, x1, x5, x6, x7 => if x7 < (x0.length : Int) then (r2_Add.j1 k x0 x1 x5 x6 x7 true) else (if x7 < (x1.length : Int) then (r2_Add.j1 k x0 x1 x5 x6 x7 true) else (r2_Add.j1 k x0 x1 x5 x6 x7 (decide (x6 > 0))))
def r2_Add.j1 : Nat → List Int → List Int → List Int → Int → Int → Bool → Option (List Int)
 | 0, _, _, _, _, _, _ => none
 | k + 1, x0, x1, x5, x6, x7, x21 => if x21 = true then ((r2_at.f x0 x7).bind fun q3 => ((r2_at.f x1 x7).bind fun q2 => (if x5.length < 35184372088832 then (r2_Add.l0 k x0 x1 (x5 ++ [(x6 + q3 + q2) % 65536]) (((x6 + q3 + q2) % 4294967296) / 65536) (wrap64 (x7 + 1))) else (none)))) else ((r2_trim.f k x5).bind fun q5 => (some q5))
end
def r2_Add.f (k : Nat) (l0 : List Int) (l1 : List Int) : Option (List Int) := r2_Add.l0 k l0 l1 ([] : List Int) 0 0
theorem r2_Add.mono_l : ∀ k, (∀ y0 y1 y2 y3 y4, LeO (r2_Add.l0 k y0 y1 y2 y3 y4) (r2_Add.l0 (k + 1) y0 y1 y2 y3 y4)) ∧ (∀ y0 y1 y2 y3 y4 y5, LeO (r2_Add.j1 k y0 y1 y2 y3 y4 y5) (r2_Add.j1 (k + 1) y0 y1 y2 y3 y4 y5))
 | 0 => ⟨fun _ _ _ _ _ r h => by simp [r2_Add.l0] at h, fun _ _ _ _ _ _ r h => by simp [r2_Add.j1] at h⟩
 | k + 1 => by
  obtain ⟨ih0, ih1⟩ := r2_Add.mono_l k; refine ⟨?_, ?_⟩
  · intro y0 y1 y2 y3 y4
    unfold r2_Add.l0
    repeat' first
    | (with_reducible exact ih0 _ _ _ _ _)
    | (with_reducible exact ih1 _ _ _ _ _ _)
    | (with_reducible exact r2_trim.mono _ _)
    | (with_reducible exact LeO.refl _)
    | (with_reducible exact LeO.none _)
    | (with_reducible refine LeO.ite ?_ ?_)
    | (with_reducible refine LeO.bind ?_ (fun _ => ?_))
    | exact ih0 _ _ _ _ _
    | exact ih1 _ _ _ _ _ _
    | exact r2_trim.mono _ _
    | exact LeO.none _
    | refine LeO.ite ?_ ?_
    | refine LeO.bind ?_ (fun _ => ?_)
  intro y0 y1 y2 y3 y4 y5
  unfold r2_Add.j1
  repeat' first
  | (with_reducible exact ih0 _ _ _ _ _)
  | (with_reducible exact ih1 _ _ _ _ _ _)
  | (with_reducible exact r2_trim.mono _ _)
  | (with_reducible exact LeO.refl _)
  | (with_reducible exact LeO.none _)
  | (with_reducible refine LeO.ite ?_ ?_)
  | (with_reducible refine LeO.bind ?_ (fun _ => ?_))
  | exact ih0 _ _ _ _ _
  | exact ih1 _ _ _ _ _ _
  | exact r2_trim.mono _ _
  | exact LeO.none _
  | refine LeO.ite ?_ ?_
  | refine LeO.bind ?_ (fun _ => ?_)
theorem r2_Add.mono : ∀ a0 a1 k, LeO (r2_Add.f k a0 a1) (r2_Add.f (k + 1) a0 a1) := by
 intro a0 a1 k; obtain ⟨ih0, ih1⟩ := r2_Add.mono_l k
 unfold r2_Add.f
 repeat' first
  | (with_reducible exact ih0 _ _ _ _ _)
  | (with_reducible exact ih1 _ _ _ _ _ _)
  | (with_reducible exact r2_trim.mono _ _)
  | (with_reducible exact LeO.refl _)
  | (with_reducible exact LeO.none _)
  | (with_reducible refine LeO.ite ?_ ?_)
  | (with_reducible refine LeO.bind ?_ (fun _ => ?_))
  | exact ih0 _ _ _ _ _
  | exact ih1 _ _ _ _ _ _
  | exact r2_trim.mono _ _
  | exact LeO.none _
  | refine LeO.ite ?_ ?_
  | refine LeO.bind ?_ (fun _ => ?_)
set_option maxHeartbeats 8000000 in
set_option maxRecDepth 100000 in
theorem r2_Add.calls (k : Nat) (A0 : Option Addr) (c0 : Nat) (l0 : List Int) (A1 : Option Addr) (c1 : Nat) (l1 : List Int) (r : List Int) (w : World) (hr0 : Kd.C (Kd.int .u32) w A0 l0.length l0) (hc0 : l0.length ≤ c0) (hr1 : Kd.C (Kd.int .u32) w A1 l1.length l1) (hc1 : l1.length ≤ c1) (h : r2_Add.f k l0 l1 = some r) :
 Calls Try.prog 77 #[.slice A0 l0.length c0, .slice A1 l1.length c1] w fun e w' => ∃ v0_ : Value, e = .returned (v0_) ∧ Kd.V (Kd.int .u32) 41 w' w.heap.size (fun k_ => (w.heap.size ≤ k_)) v0_ r ∧ Below w.heap.size w w' := by
 have HR0 := Aside0.mk hr0; have HC0 := Aside0.mk hc0; clear hr0 hc0; have HR1 := Aside0.mk hr1; have HC1 := Aside0.mk hc1; clear hr1 hc1; have HB := Aside0.mk (Below.refl w.heap.size w); have H : (r2_Add.l0 k l0 l1 ([] : List Int) 0 0) = some r := h; clear h; have H' := Aside0.mk H; clear H
 go_enter Try.func77, Try.ntmps77
 go_wp2
 go_loopg [5, 6, 7] k (fun kq v5 v6 v7 w' => ∃ (q1 : List Int) (q4 : Int) (q0 : Int), v6 = .int .u32 q4 ∧ v7 = .int .i64 q0 ∧ Aside0 (r2_Add.l0 kq l0 l1 q1 q4 q0 = some r) ∧ Aside0 (kq ≤ k) ∧ Aside0 (Kd.R (Kd.int .u32) 41 w' w.heap.size (fun k_ => (w.heap.size ≤ k_)) v5 q1) ∧ Aside0 (Below w.heap.size w w'))
 case atStart => exact ⟨(([] : List Int)), (0), (0), RSq, RSq, (by first | exact H' | (subst_vars; exact H')), ⟨Nat.le_refl _⟩, ⟨by first | exact Kd.R_nil _ _ _ _ _ | exact Kd.N_nil _ _ _ _ _ | exact Kd.V_nil _ _ _ _ _ | exact Kd.Q_nil _ _ _ _ _ | exact Kd.S_nil _ _ _ _ _ | exact Kd.R_nil _ _ _ 0 _ | exact Kd.R_nil _ _ _ 0 (fun k_ => w.heap.size ≤ k_)⟩, ⟨kH HB⟩⟩
 case round =>
  clear H'; (try clear c1); (try clear p2); obtain ⟨q1, q4, q0, rfl, rfl, HA, HK1, HO_5, HB⟩ := hrel
  cases gk with
  | zero => exact absurd HA.out (by simp [r2_Add.l0])
  | succ k1 =>
   have H := HA.out; clear HA
   simp only [r2_Add.l0] at H
   have HC3 := Aside0.mk H; clear H
   go_upto_region 4 with (fail)
   go_cut [21] (fun v21 wc => ∃ (kq : Nat) (q7 : Bool), v21 = .bool q7 ∧ Aside0 (r2_Add.j1 kq l0 l1 q1 q4 q0 q7 = some r) ∧ Aside0 (kq ≤ k1) ∧ Aside0 (Kd.R (Kd.int .u32) 41 wc w.heap.size (fun k_ => (w.heap.size ≤ k_)) u5 q1) ∧ Aside0 (Below w.heap.size w wc))
   case first =>
    have H := HC3.out; clear HC3
    by_cases c4 : q0 < (l0.length : Int)
    · rw [if_pos c4] at H
      have q6 : decide (q0 < (l0.length : Int)) = true := decide_eq_true c4; clear c4
      (first | rw [q6] | (simp only [i64_w, i32_w]; rw [q6]) | skip)
      have H' := Aside0.mk H; clear H
      go_wp2
      go_meet
      case rel => exact ⟨_, (true), RSq, (by first | exact H' | (subst_vars; exact H')), ⟨by have := HK1.out; first | omega | exact Nat.le_refl _⟩, ⟨kR HO_5⟩, ⟨kH HB⟩⟩
    rw [if_neg c4] at H
    have q6 : decide (q0 < (l0.length : Int)) = false := decide_eq_false c4; clear c4
    (first | rw [q6] | (simp only [i64_w, i32_w]; rw [q6]) | skip)
    by_cases c5 : q0 < (l1.length : Int)
    · rw [if_pos c5] at H
      have q8 : decide (q0 < (l1.length : Int)) = true := decide_eq_true c5; clear c5; have H' := Aside0.mk H; clear H
      go_wp2
      go_meet
      case rel => exact ⟨_, (true), RSq, (by first | exact H' | (subst_vars; exact H')), ⟨by have := HK1.out; first | omega | exact Nat.le_refl _⟩, ⟨kR HO_5⟩, ⟨kH HB⟩⟩
    rw [if_neg c5] at H
    have q8 : decide (q0 < (l1.length : Int)) = false := decide_eq_false c5; clear c5; have H' := Aside0.mk H; clear H
    go_wp2
    go_meet
    case rel => exact ⟨_, (decide (q4 > 0)), RSq, (by first | exact H' | (subst_vars; exact H')), ⟨by have := HK1.out; first | omega | exact Nat.le_refl _⟩, ⟨kR HO_5⟩, ⟨kH HB⟩⟩
   case rest =>
    clear HC3; (try clear c1); (try clear p2); (try clear c4); (try clear q6); (try clear c5); (try clear q8); (try clear p2); obtain ⟨kq, q7, rfl, HA, HJ2, HO_5, HB⟩ := hcut
    cases kq with
    | zero => exact absurd HA.out (by simp [r2_Add.j1])
    | succ kj2 =>
     have H := HA.out; clear HA
     simp only [r2_Add.j1] at H
     by_cases c6 : q7 = true
     · subst c6
       have H1 : ((r2_at.f l0 q0).bind fun q3 => ((r2_at.f l1 q0).bind fun q2 => (if q1.length < 35184372088832 then (r2_Add.l0 kj2 l0 l1 (q1 ++ [(q4 + q3 + q2) % 65536]) (((q4 + q3 + q2) % 4294967296) / 65536) (wrap64 (q0 + 1))) else (none)))) = some r := by rw [if_pos rfl] at H; exact H
       clear H; have H := H1; clear H1; replace H := Option.bind_eq_some_iff.mp H; obtain ⟨q3, A70, H⟩ := H; replace H : ((r2_at.f l1 q0).bind fun q2 => (if q1.length < 35184372088832 then (r2_Add.l0 kj2 l0 l1 (q1 ++ [(q4 + q3 + q2) % 65536]) (((q4 + q3 + q2) % 4294967296) / 65536) (wrap64 (q0 + 1))) else (none))) = some r := H; have A7 := Aside0.mk A70; clear A70; replace H := Option.bind_eq_some_iff.mp H; obtain ⟨q2, A80, H⟩ := H; replace H : (if q1.length < 35184372088832 then (r2_Add.l0 kj2 l0 l1 (q1 ++ [(q4 + q3 + q2) % 65536]) (((q4 + q3 + q2) % 4294967296) / 65536) (wrap64 (q0 + 1))) else (none)) = some r := H; have A8 := Aside0.mk A80; clear A80
       by_cases c9 : q1.length < 35184372088832
       · rw [if_pos c9] at H
         have LMc9 := Aside0.mk c9; clear c9; obtain ⟨y172, hy172⟩ : ∃ y_ : List Int, y_ = (q1 ++ [(q4 + q3 + q2) % 65536]) := ⟨_, rfl⟩
         replace H : (r2_Add.l0 kj2 l0 l1 y172 (((q4 + q3 + q2) % 4294967296) / 65536) (wrap64 (q0 + 1))) = some r := by first | (rw [hy172]; with_reducible exact H) | (have H2_ := (Option.bind_some _ _).symm.trans H; rw [hy172]; with_reducible exact H2_) | (have H2_ := (Option.bind_some _ _).symm.trans H; with_reducible exact H2_) | with_reducible exact H | (rw [hy172]; exact H) | exact H
         have Ny172 := Aside0.mk hy172; clear hy172; have H' := Aside0.mk H; clear H
         go_wp2_with (first | ((with_reducible refine gate_callee (f := 78) rfl ?_); refine goesL_ (some 27) rfl rfl Try.func78 (by kernel_rfl) rfl #[.slice A0 l0.length c0, .int .i64 q0] rfl LMq ?_; (with_reducible refine (r2_at.calls _ _ l0 q0 q3 _ ?side1 ?side2 A7.out).mono ?_); (case side1 => exact kC (Kd.C_below HR0.out HB.out)); (case side2 => exact HC0.out); rintro e w' ⟨rfl, ⟨nd, rfl⟩⟩; refine ⟨_, rfl, ?_⟩) | ((with_reducible refine gate_callee (f := 78) rfl ?_); refine goesL_ (some 31) rfl rfl Try.func78 (by kernel_rfl) rfl #[.slice A1 l1.length c1, .int .i64 q0] rfl LMq ?_; (with_reducible refine (r2_at.calls _ _ l1 q0 q2 _ ?side1 ?side2 A8.out).mono ?_); (case side1 => exact kC (Kd.C_below HR1.out (kH HB))); (case side2 => exact HC1.out); rintro e w' ⟨rfl, ⟨nd, rfl⟩⟩; refine ⟨_, rfl, ?_⟩) | ((with_reducible refine gate_builtin (b := .append) (xs := #[.tmp 33, .tmp 36]) rfl ?_); (try (refine gate_guard (by rfl) ?_; dsimp only)); at_builtin; refine Kd.R_append (Kd.int .u32) (w0 := w) w.heap.size rfl (.tmp 33) (.tmp 36) 64 41 (.int .u32 0) 4 rfl Try.underlying64 info41 rfl (by decide) (by omega) u5 q1 ((q4 + q3 + q2) % 65536) [.int .u32 ((q4 + q3 + q2) % 65536)] (fun k_ => (w.heap.size ≤ k_)) (fun _ => False) rfl rfl ?aP (fun _ hk => hk.elim) ?aF ?aO ?aB ?aS ?aL ?_; (case aP => exact rfl); (case aB => exact (kH HB)); (case aF => exact (fun k_ hk => (Nat.le_trans (below_size (kH HB)) hk))); (case aO => exact (kR HO_5)); (case aS => exact (below_size (kH HB))); (case aL => have := LMc9.out; omega); intro v173 w10 ho hb hg hat; rw [← Ny172.out] at ho; replace HB := Aside0.mk (hb); have qc := Aside0.mk (ho); clear HO_5; clear ho hb hg hat))
         go_roundg kj2
         case measure => have := HK1.out; have := HJ2.out; omega
         case rel => exact ⟨(y172), (((q4 + q3 + q2) % 4294967296) / 65536), (wrap64 (q0 + 1)), RSq, RSq, (by first | exact H' | (subst_vars; exact H')), ⟨by have := HK1.out; have := HJ2.out; omega⟩, ⟨kR qc⟩, ⟨kH HB⟩⟩
       rw [if_neg c9] at H
       exact absurd H (by simp)
     replace c6 := Bool.eq_false_iff.mpr c6; subst c6
     have H1 : ((r2_trim.f kj2 q1).bind fun q5 => (some q5)) = some r := by rw [if_neg (show ¬ (false = true) by decide)] at H; exact H
     clear H; have H := H1; clear H1; replace H := Option.bind_eq_some_iff.mp H; obtain ⟨q5, q9, H⟩ := H; replace H : (some q5) = some r := H; have A11 := Aside0.mk q9; clear q9; obtain rfl := Option.some.inj H; obtain ⟨qa, qb, eo12⟩ := Kd.R_slice HO_5.out; subst eo12
     go_wp2_with (first | ((with_reducible refine gate_callee (f := 70) rfl ?_); refine goesL_ (some 41) rfl rfl Try.func70 (by kernel_rfl) rfl #[.slice qa q1.length qb] rfl LMq ?_; (with_reducible refine (r2_trim.calls kj2 (fun k_ => some k_ = (.slice qa q1.length qb : Value).ownBlock) _ _ q1 q5 _ ?side1 A11.out).mono ?_); (case side1 => exact Kd.R_V (Kd.R_tight rfl (HO_5.out))); rintro e w13 ⟨v176, rfl, ho0, hb⟩; refine ⟨_, rfl, ?_⟩; have qd := Aside0.mk (Kd.V_lower (Kd.V_mono (ok' := fun k_ => (w.heap.size ≤ k_)) ho0 (fun k_ hk_ => Or.elim hk_ (fun hs_ => ((HO_5.out).1 k_ hs_.symm)) (fun hn_ => (Nat.le_trans (below_size (kH HB)) hn_)))) (below_size (kH HB))); replace HO_5 := Aside0.mk (Kd.R_below (kR HO_5) hb); replace HB := Aside0.mk (below_step (kH HB) hb); (try clear hb); (try clear hb2); (try clear hk); (try clear hi); (try clear ho0)))
     go_ret
     exact ⟨_, by first | rfl | (simp [errW_none, errW_some] <;> rfl) | (simp [*, errW_none, errW_some] <;> rfl), by (with_reducible repeat (first | apply Kd.V_alloc | apply Kd.V_drewN | apply Kd.V_drew)); exact qd.out, kH HB⟩
end Go.Proofs.Ytbgefpeicmbgiaa.X
end
section
namespace Go.Proofs.Ytbgefpeicmbgiaa.X
open Go.RowKit Go.Proofs.YtbgefpeicmbgiaaW.PrintWords Go.Proofs.YtbgefpeicmbgiaaW.PrintLast Go.Proofs.YtbgefpeicmbgiaaW.PrintMore
attribute [local go_sem] max2_int min2_int max_two min_two max_three min_three max_four min_four   
set_option linter.unusedVariables false
set_option linter.unusedSimpArgs false
def r2_Bit.l0 : Nat → Int → Int → Int → Option (Int)
 | 0, _, _, _ => none
 | k + 1, x1, x5, x6 => if x6 < (Int.tmod x1 16) then (r2_Bit.l0 k x1 ((Int.tdiv x5 2) % 4294967296) (wrap64 (x6 + 1))) else (some (wrap64 (Int.tmod x5 2)))
def r2_Bit.f (k : Nat) (l0 : List Int) (a1 : Int) : Option (Int) := (r2_at.f l0 (wrap64 (Int.tdiv a1 16))).bind fun q0 => (r2_Bit.l0 k a1 q0 0)
theorem r2_Bit.mono_l : ∀ k, (∀ y0 y1 y2, LeO (r2_Bit.l0 k y0 y1 y2) (r2_Bit.l0 (k + 1) y0 y1 y2))
 | 0 => fun _ _ _ r h => by simp [r2_Bit.l0] at h
 | k + 1 => by
  have ih0 := r2_Bit.mono_l k
  · intro y0 y1 y2
    unfold r2_Bit.l0
    repeat' first
    | (with_reducible exact ih0 _ _ _)
    | (with_reducible exact LeO.refl _)
    | (with_reducible exact LeO.none _)
    | (with_reducible refine LeO.ite ?_ ?_)
    | (with_reducible refine LeO.bind ?_ (fun _ => ?_))
    | exact ih0 _ _ _
    | exact LeO.none _
    | refine LeO.ite ?_ ?_
    | refine LeO.bind ?_ (fun _ => ?_)
theorem r2_Bit.mono : ∀ a0 a1 k, LeO (r2_Bit.f k a0 a1) (r2_Bit.f (k + 1) a0 a1) := by
 intro a0 a1 k; have ih0 := r2_Bit.mono_l k
 unfold r2_Bit.f
 repeat' first
  | (with_reducible exact ih0 _ _ _)
  | (with_reducible exact LeO.refl _)
  | (with_reducible exact LeO.none _)
  | (with_reducible refine LeO.ite ?_ ?_)
  | (with_reducible refine LeO.bind ?_ (fun _ => ?_))
  | exact ih0 _ _ _
  | exact LeO.none _
  | refine LeO.ite ?_ ?_
  | refine LeO.bind ?_ (fun _ => ?_)
set_option maxHeartbeats 8000000 in
set_option maxRecDepth 100000 in
theorem r2_Bit.calls (k : Nat) (A0 : Option Addr) (c0 : Nat) (l0 : List Int) (a1 : Int) (r : Int) (w : World) (hr0 : Kd.C (Kd.int .u32) w A0 l0.length l0) (hc0 : l0.length ≤ c0) (h : r2_Bit.f k l0 a1 = some r) :
 Calls Try.prog 75 #[.slice A0 l0.length c0, .int .i64 a1] w fun e w' => e = .returned (.int .i64 r) ∧ Below w.heap.size w w' := by
 have HR0 := Aside0.mk hr0; have HC0 := Aside0.mk hc0; clear hr0 hc0; have HB := Aside0.mk (Below.refl w.heap.size w); have H : ((r2_at.f l0 (wrap64 (Int.tdiv a1 16))).bind fun q0 => (r2_Bit.l0 k a1 q0 0)) = some r := h; clear h; replace H := Option.bind_eq_some_iff.mp H; obtain ⟨q0, A30, H⟩ := H; replace H : (r2_Bit.l0 k a1 q0 0) = some r := H; have A3 := Aside0.mk A30; clear A30; have H' := Aside0.mk H; clear H
 go_enter Try.func75, Try.ntmps75
 go_wp2_with (first | ((with_reducible refine gate_callee (f := 78) rfl ?_); refine goesL_ (some 10) rfl rfl Try.func78 (by kernel_rfl) rfl #[.slice A0 l0.length c0, .int .i64 (wrap64 (Int.tdiv a1 16))] rfl LMq ?_; (with_reducible refine (r2_at.calls _ _ l0 (wrap64 (Int.tdiv a1 16)) q0 _ ?side1 ?side2 A3.out).mono ?_); (case side1 => repeat (first | exact HR0.out | (with_reducible refine Kd.C_alloc ?_ _) | (with_reducible refine Kd.C_drewN ?_ _) | (with_reducible refine Kd.C_drew ?_))); (case side2 => exact HC0.out); rintro e w' ⟨rfl, ⟨nd, rfl⟩⟩; refine ⟨_, rfl, ?_⟩))
 go_loopg [5, 6] k (fun kq v5 v6 w' => ∃ (q2 : Int) (q1 : Int), v5 = .int .u32 q2 ∧ v6 = .int .i64 q1 ∧ Aside0 (r2_Bit.l0 kq a1 q2 q1 = some r) ∧ Aside0 (kq ≤ k) ∧ Aside0 (Below w.heap.size w w'))
 case atStart => exact ⟨(q0), (0), RSq, RSq, (by first | exact H' | (subst_vars; exact H')), ⟨Nat.le_refl _⟩, ⟨kH HB⟩⟩
 case round =>
  clear H'; (try clear p2); obtain ⟨q2, q1, rfl, rfl, HA, HK1, HB⟩ := hrel
  cases gk with
  | zero => exact absurd HA.out (by simp [r2_Bit.l0])
  | succ k1 =>
   have H := HA.out; clear HA
   simp only [r2_Bit.l0] at H
   by_cases c4 : q1 < (Int.tmod a1 16)
   · rw [if_pos c4] at H
     have q3 : decide (q1 < (Int.tmod a1 16)) = true := decide_eq_true c4; clear c4; have H' := Aside0.mk H; clear H
     go_wp2
     go_roundg k1
     case measure => have := HK1.out; omega
     case rel => exact ⟨((Int.tdiv q2 2) % 4294967296), (wrap64 (q1 + 1)), RSq, RSq, (by first | exact H' | (subst_vars; exact H')), ⟨by have := HK1.out; omega⟩, ⟨kH HB⟩⟩
   rw [if_neg c4] at H
   have q3 : decide (q1 < (Int.tmod a1 16)) = false := decide_eq_false c4; clear c4; obtain rfl := Option.some.inj H
   go_wp2
   go_ret
   exact ⟨by first | rfl | (simp [errW_none, errW_some] <;> rfl) | (simp [*, errW_none, errW_some] <;> rfl), kH HB⟩
end Go.Proofs.Ytbgefpeicmbgiaa.X
end
section
namespace Go.Proofs.Ytbgefpeicmbgiaa.X
open Go.RowKit Go.Proofs.YtbgefpeicmbgiaaW.PrintWords Go.Proofs.YtbgefpeicmbgiaaW.PrintLast Go.Proofs.YtbgefpeicmbgiaaW.PrintMore
attribute [local go_sem] max2_int min2_int max_two min_two max_three min_three max_four min_four   
set_option linter.unusedVariables false
set_option linter.unusedSimpArgs false
def r2_Cmp.l0 : Nat → List Int → List Int → Int → Option (Int)
 | 0, _, _, _ => none
 | k + 1, x0, x1, x5 => if x5 ≥ 0 then ((r2_at.f x0 x5).bind fun q4 => ((r2_at.f x1 x5).bind fun q3 => (if q4 < q3 then (some (-1)) else ((r2_at.f x0 x5).bind fun q2 => ((r2_at.f x1 x5).bind fun q1 => (if q2 > q1 then (some 1) else (r2_Cmp.l0 k x0 x1 (wrap64 (x5 - 1))))))))) else (some 0)
def r2_Cmp.f (k : Nat) (l0 : List Int) (l1 : List Int) : Option (Int) := if (l0.length : Int) < (l1.length : Int) then (r2_Cmp.l0 k l0 l1 (wrap64 ((l1.length : Int) - 1))) else (r2_Cmp.l0 k l0 l1 (wrap64 ((l0.length : Int) - 1)))
theorem r2_Cmp.mono_l : ∀ k, (∀ y0 y1 y2, LeO (r2_Cmp.l0 k y0 y1 y2) (r2_Cmp.l0 (k + 1) y0 y1 y2))
 | 0 => fun _ _ _ r h => by simp [r2_Cmp.l0] at h
 | k + 1 => by
  have ih0 := r2_Cmp.mono_l k
  · intro y0 y1 y2
    unfold r2_Cmp.l0
    repeat' first
    | (with_reducible exact ih0 _ _ _)
    | (with_reducible exact LeO.refl _)
    | (with_reducible exact LeO.none _)
    | (with_reducible refine LeO.ite ?_ ?_)
    | (with_reducible refine LeO.bind ?_ (fun _ => ?_))
    | exact ih0 _ _ _
    | exact LeO.none _
    | refine LeO.ite ?_ ?_
    | refine LeO.bind ?_ (fun _ => ?_)
theorem r2_Cmp.mono : ∀ a0 a1 k, LeO (r2_Cmp.f k a0 a1) (r2_Cmp.f (k + 1) a0 a1) := by
 intro a0 a1 k; have ih0 := r2_Cmp.mono_l k
 unfold r2_Cmp.f
 repeat' first
  | (with_reducible exact ih0 _ _ _)
  | (with_reducible exact LeO.refl _)
  | (with_reducible exact LeO.none _)
  | (with_reducible refine LeO.ite ?_ ?_)
  | (with_reducible refine LeO.bind ?_ (fun _ => ?_))
  | exact ih0 _ _ _
  | exact LeO.none _
  | refine LeO.ite ?_ ?_
  | refine LeO.bind ?_ (fun _ => ?_)
set_option maxHeartbeats 8000000 in
set_option maxRecDepth 100000 in
theorem r2_Cmp.calls (k : Nat) (A0 : Option Addr) (c0 : Nat) (l0 : List Int) (A1 : Option Addr) (c1 : Nat) (l1 : List Int) (r : Int) (w : World) (hr0 : Kd.C (Kd.int .u32) w A0 l0.length l0) (hc0 : l0.length ≤ c0) (hr1 : Kd.C (Kd.int .u32) w A1 l1.length l1) (hc1 : l1.length ≤ c1) (h : r2_Cmp.f k l0 l1 = some r) :
 Calls Try.prog 40 #[.slice A0 l0.length c0, .slice A1 l1.length c1] w fun e w' => e = .returned (.int .i64 r) ∧ Below w.heap.size w w' := by
 have HR0 := Aside0.mk hr0; have HC0 := Aside0.mk hc0; clear hr0 hc0; have HR1 := Aside0.mk hr1; have HC1 := Aside0.mk hc1; clear hr1 hc1; have HB := Aside0.mk (Below.refl w.heap.size w); have H : (if (l0.length : Int) < (l1.length : Int) then (r2_Cmp.l0 k l0 l1 (wrap64 ((l1.length : Int) - 1))) else (r2_Cmp.l0 k l0 l1 (wrap64 ((l0.length : Int) - 1)))) = some r := h; clear h
 by_cases c3 : (l0.length : Int) < (l1.length : Int)
 · rw [if_pos c3] at H
   have c3i := eq_true c3; have q5 : decide ((l0.length : Int) < (l1.length : Int)) = true := decide_eq_true c3; have q6 : decide (l0.length < l1.length) = true := decide_eq_true (Int.ofNat_lt.mp c3); clear c3; have H' := Aside0.mk H; clear H
   go_enter Try.func40, Try.ntmps40
   go_wp2
   go_loopg [5] k (fun kq v5 w' => ∃ (q0 : Int), v5 = .int .i64 q0 ∧ Aside0 (r2_Cmp.l0 kq l0 l1 q0 = some r) ∧ Aside0 (kq ≤ k) ∧ Aside0 (Below w.heap.size w w'))
   case atStart => exact ⟨(wrap64 ((l1.length : Int) - 1)), RSq, (by first | exact H' | (subst_vars; exact H')), ⟨Nat.le_refl _⟩, ⟨kH HB⟩⟩
   case round =>
    clear H'; (try clear c1); (try clear p2); (try clear c3); (try clear q5); (try clear q6); obtain ⟨q0, rfl, HA, HK1, HB⟩ := hrel
    cases gk with
    | zero => exact absurd HA.out (by simp [r2_Cmp.l0])
    | succ k1 =>
     have H := HA.out; clear HA
     simp only [r2_Cmp.l0] at H
     by_cases c4 : q0 ≥ 0
     · rw [if_pos c4] at H
       have q7 : decide (0 ≤ q0) = true := decide_eq_true c4; clear c4; replace H := Option.bind_eq_some_iff.mp H; obtain ⟨q4, A50, H⟩ := H; replace H : ((r2_at.f l1 q0).bind fun q3 => (if q4 < q3 then (some (-1)) else ((r2_at.f l0 q0).bind fun q2 => ((r2_at.f l1 q0).bind fun q1 => (if q2 > q1 then (some 1) else (r2_Cmp.l0 k1 l0 l1 (wrap64 (q0 - 1)))))))) = some r := H; have A5 := Aside0.mk A50; clear A50; replace H := Option.bind_eq_some_iff.mp H; obtain ⟨q3, A60, H⟩ := H; replace H : (if q4 < q3 then (some (-1)) else ((r2_at.f l0 q0).bind fun q2 => ((r2_at.f l1 q0).bind fun q1 => (if q2 > q1 then (some 1) else (r2_Cmp.l0 k1 l0 l1 (wrap64 (q0 - 1))))))) = some r := H; have A6 := Aside0.mk A60; clear A60
       by_cases c7 : q4 < q3
       · rw [if_pos c7] at H
         have q8 : decide (q4 < q3) = true := decide_eq_true c7; clear c7; obtain rfl := Option.some.inj H
         go_wp2_with (first | ((with_reducible refine gate_callee (f := 78) rfl ?_); refine goesL_ (some 18) rfl rfl Try.func78 (by kernel_rfl) rfl #[.slice A0 l0.length c0, .int .i64 q0] rfl LMq ?_; (with_reducible refine (r2_at.calls _ _ l0 q0 q4 _ ?side1 ?side2 A5.out).mono ?_); (case side1 => exact kC (Kd.C_below HR0.out HB.out)); (case side2 => exact HC0.out); rintro e w' ⟨rfl, ⟨nd, rfl⟩⟩; refine ⟨_, rfl, ?_⟩) | ((with_reducible refine gate_callee (f := 78) rfl ?_); refine goesL_ (some 21) rfl rfl Try.func78 (by kernel_rfl) rfl #[.slice A1 l1.length c1, .int .i64 q0] rfl LMq ?_; (with_reducible refine (r2_at.calls _ _ l1 q0 q3 _ ?side1 ?side2 A6.out).mono ?_); (case side1 => exact kC (Kd.C_below HR1.out (kH HB))); (case side2 => exact HC1.out); rintro e w' ⟨rfl, ⟨nd, rfl⟩⟩; refine ⟨_, rfl, ?_⟩))
         go_ret
         exact ⟨by first | rfl | (simp [errW_none, errW_some] <;> rfl) | (simp [*, errW_none, errW_some] <;> rfl), kH HB⟩
       rw [if_neg c7] at H
       have q8 : decide (q4 < q3) = false := decide_eq_false c7; clear c7; replace H := Option.bind_eq_some_iff.mp H; obtain ⟨q2, A80, H⟩ := H; replace H : ((r2_at.f l1 q0).bind fun q1 => (if q2 > q1 then (some 1) else (r2_Cmp.l0 k1 l0 l1 (wrap64 (q0 - 1))))) = some r := H; have A8 := Aside0.mk A80; clear A80; replace H := Option.bind_eq_some_iff.mp H; obtain ⟨q1, A90, H⟩ := H; replace H : (if q2 > q1 then (some 1) else (r2_Cmp.l0 k1 l0 l1 (wrap64 (q0 - 1)))) = some r := H; have A9 := Aside0.mk A90; clear A90
       by_cases c10 : q2 > q1
       · rw [if_pos c10] at H
         have q9 : decide (q1 < q2) = true := decide_eq_true c10; clear c10; obtain rfl := Option.some.inj H
         go_wp2_with (first | ((with_reducible refine gate_callee (f := 78) rfl ?_); refine goesL_ (some 18) rfl rfl Try.func78 (by kernel_rfl) rfl #[.slice A0 l0.length c0, .int .i64 q0] rfl LMq ?_; (with_reducible refine (r2_at.calls _ _ l0 q0 q4 _ ?side1 ?side2 A5.out).mono ?_); (case side1 => exact kC (Kd.C_below HR0.out HB.out)); (case side2 => exact HC0.out); rintro e w' ⟨rfl, ⟨nd, rfl⟩⟩; refine ⟨_, rfl, ?_⟩) | ((with_reducible refine gate_callee (f := 78) rfl ?_); refine goesL_ (some 21) rfl rfl Try.func78 (by kernel_rfl) rfl #[.slice A1 l1.length c1, .int .i64 q0] rfl LMq ?_; (with_reducible refine (r2_at.calls _ _ l1 q0 q3 _ ?side1 ?side2 A6.out).mono ?_); (case side1 => exact kC (Kd.C_below HR1.out (kH HB))); (case side2 => exact HC1.out); rintro e w' ⟨rfl, ⟨nd, rfl⟩⟩; refine ⟨_, rfl, ?_⟩) | ((with_reducible refine gate_callee (f := 78) rfl ?_); refine goesL_ (some 25) rfl rfl Try.func78 (by kernel_rfl) rfl #[.slice A0 l0.length c0, .int .i64 q0] rfl LMq ?_; (with_reducible refine (r2_at.calls _ _ l0 q0 q2 _ ?side1 ?side2 A8.out).mono ?_); (case side1 => exact kC (Kd.C_below HR0.out (kH HB))); (case side2 => exact HC0.out); rintro e w' ⟨rfl, ⟨nd, rfl⟩⟩; refine ⟨_, rfl, ?_⟩) | ((with_reducible refine gate_callee (f := 78) rfl ?_); refine goesL_ (some 28) rfl rfl Try.func78 (by kernel_rfl) rfl #[.slice A1 l1.length c1, .int .i64 q0] rfl LMq ?_; (with_reducible refine (r2_at.calls _ _ l1 q0 q1 _ ?side1 ?side2 A9.out).mono ?_); (case side1 => exact kC (Kd.C_below HR1.out (kH HB))); (case side2 => exact HC1.out); rintro e w' ⟨rfl, ⟨nd, rfl⟩⟩; refine ⟨_, rfl, ?_⟩))
         go_ret
         exact ⟨by first | rfl | (simp [errW_none, errW_some] <;> rfl) | (simp [*, errW_none, errW_some] <;> rfl), kH HB⟩
       rw [if_neg c10] at H
       have q9 : decide (q1 < q2) = false := decide_eq_false c10; clear c10; have H' := Aside0.mk H; clear H
       go_wp2_with (first | ((with_reducible refine gate_callee (f := 78) rfl ?_); refine goesL_ (some 18) rfl rfl Try.func78 (by kernel_rfl) rfl #[.slice A0 l0.length c0, .int .i64 q0] rfl LMq ?_; (with_reducible refine (r2_at.calls _ _ l0 q0 q4 _ ?side1 ?side2 A5.out).mono ?_); (case side1 => exact kC (Kd.C_below HR0.out HB.out)); (case side2 => exact HC0.out); rintro e w' ⟨rfl, ⟨nd, rfl⟩⟩; refine ⟨_, rfl, ?_⟩) | ((with_reducible refine gate_callee (f := 78) rfl ?_); refine goesL_ (some 21) rfl rfl Try.func78 (by kernel_rfl) rfl #[.slice A1 l1.length c1, .int .i64 q0] rfl LMq ?_; (with_reducible refine (r2_at.calls _ _ l1 q0 q3 _ ?side1 ?side2 A6.out).mono ?_); (case side1 => exact kC (Kd.C_below HR1.out (kH HB))); (case side2 => exact HC1.out); rintro e w' ⟨rfl, ⟨nd, rfl⟩⟩; refine ⟨_, rfl, ?_⟩) | ((with_reducible refine gate_callee (f := 78) rfl ?_); refine goesL_ (some 25) rfl rfl Try.func78 (by kernel_rfl) rfl #[.slice A0 l0.length c0, .int .i64 q0] rfl LMq ?_; (with_reducible refine (r2_at.calls _ _ l0 q0 q2 _ ?side1 ?side2 A8.out).mono ?_); (case side1 => exact kC (Kd.C_below HR0.out (kH HB))); (case side2 => exact HC0.out); rintro e w' ⟨rfl, ⟨nd, rfl⟩⟩; refine ⟨_, rfl, ?_⟩) | ((with_reducible refine gate_callee (f := 78) rfl ?_); refine goesL_ (some 28) rfl rfl Try.func78 (by kernel_rfl) rfl #[.slice A1 l1.length c1, .int .i64 q0] rfl LMq ?_; (with_reducible refine (r2_at.calls _ _ l1 q0 q1 _ ?side1 ?side2 A9.out).mono ?_); (case side1 => exact kC (Kd.C_below HR1.out (kH HB))); (case side2 => exact HC1.out); rintro e w' ⟨rfl, ⟨nd, rfl⟩⟩; refine ⟨_, rfl, ?_⟩))
       go_roundg k1
       case measure => have := HK1.out; omega
       case rel => exact ⟨(wrap64 (q0 - 1)), RSq, (by first | exact H' | (subst_vars; exact H')), ⟨by have := HK1.out; omega⟩, ⟨kH HB⟩⟩
     rw [if_neg c4] at H
     have q7 : decide (0 ≤ q0) = false := decide_eq_false c4; clear c4; obtain rfl := Option.some.inj H
     go_wp2
     go_ret
     exact ⟨by first | rfl | (simp [errW_none, errW_some] <;> rfl) | (simp [*, errW_none, errW_some] <;> rfl), kH HB⟩
 rw [if_neg c3] at H
 have c3i := eq_false c3; have q5 : decide ((l0.length : Int) < (l1.length : Int)) = false := decide_eq_false c3; have q6 : decide (l0.length < l1.length) = false := decide_eq_false (fun h => c3 (Int.ofNat_lt.mpr h)); clear c3; have H' := Aside0.mk H; clear H
 go_enter Try.func40, Try.ntmps40
 go_wp2
 go_loopg [5] k (fun kq v5 w' => ∃ (q0 : Int), v5 = .int .i64 q0 ∧ Aside0 (r2_Cmp.l0 kq l0 l1 q0 = some r) ∧ Aside0 (kq ≤ k) ∧ Aside0 (Below w.heap.size w w'))
 case atStart => exact ⟨(wrap64 ((l0.length : Int) - 1)), RSq, (by first | exact H' | (subst_vars; exact H')), ⟨Nat.le_refl _⟩, ⟨kH HB⟩⟩
 case round =>
  clear H'; (try clear c1); (try clear p2); (try clear c3); (try clear q5); (try clear q6); (try clear c4); (try clear q7); (try clear p6); (try clear c7); (try clear q8); (try clear c10); (try clear q9); (try clear p2); obtain ⟨q0, rfl, HA, HK1, HB⟩ := hrel
  cases gk with
  | zero => exact absurd HA.out (by simp [r2_Cmp.l0])
  | succ k1 =>
   have H := HA.out; clear HA
   simp only [r2_Cmp.l0] at H
   by_cases c11 : q0 ≥ 0
   · rw [if_pos c11] at H
     have qe : decide (0 ≤ q0) = true := decide_eq_true c11; clear c11; replace H := Option.bind_eq_some_iff.mp H; obtain ⟨q4, qa, H⟩ := H; replace H : ((r2_at.f l1 q0).bind fun q3 => (if q4 < q3 then (some (-1)) else ((r2_at.f l0 q0).bind fun q2 => ((r2_at.f l1 q0).bind fun q1 => (if q2 > q1 then (some 1) else (r2_Cmp.l0 k1 l0 l1 (wrap64 (q0 - 1)))))))) = some r := H; have A12 := Aside0.mk qa; clear qa; replace H := Option.bind_eq_some_iff.mp H; obtain ⟨q3, qb, H⟩ := H; replace H : (if q4 < q3 then (some (-1)) else ((r2_at.f l0 q0).bind fun q2 => ((r2_at.f l1 q0).bind fun q1 => (if q2 > q1 then (some 1) else (r2_Cmp.l0 k1 l0 l1 (wrap64 (q0 - 1))))))) = some r := H; have A13 := Aside0.mk qb; clear qb
     by_cases c14 : q4 < q3
     · rw [if_pos c14] at H
       have qf : decide (q4 < q3) = true := decide_eq_true c14; clear c14; obtain rfl := Option.some.inj H
       go_wp2_with (first | ((with_reducible refine gate_callee (f := 78) rfl ?_); refine goesL_ (some 18) rfl rfl Try.func78 (by kernel_rfl) rfl #[.slice A0 l0.length c0, .int .i64 q0] rfl LMq ?_; (with_reducible refine (r2_at.calls _ _ l0 q0 q4 _ ?side1 ?side2 A12.out).mono ?_); (case side1 => exact kC (Kd.C_below HR0.out HB.out)); (case side2 => exact HC0.out); rintro e w' ⟨rfl, ⟨nd, rfl⟩⟩; refine ⟨_, rfl, ?_⟩) | ((with_reducible refine gate_callee (f := 78) rfl ?_); refine goesL_ (some 21) rfl rfl Try.func78 (by kernel_rfl) rfl #[.slice A1 l1.length c1, .int .i64 q0] rfl LMq ?_; (with_reducible refine (r2_at.calls _ _ l1 q0 q3 _ ?side1 ?side2 A13.out).mono ?_); (case side1 => exact kC (Kd.C_below HR1.out (kH HB))); (case side2 => exact HC1.out); rintro e w' ⟨rfl, ⟨nd, rfl⟩⟩; refine ⟨_, rfl, ?_⟩))
       go_ret
       exact ⟨by first | rfl | (simp [errW_none, errW_some] <;> rfl) | (simp [*, errW_none, errW_some] <;> rfl), kH HB⟩
     rw [if_neg c14] at H
     have qf : decide (q4 < q3) = false := decide_eq_false c14; clear c14; replace H := Option.bind_eq_some_iff.mp H; obtain ⟨q2, qc, H⟩ := H; replace H : ((r2_at.f l1 q0).bind fun q1 => (if q2 > q1 then (some 1) else (r2_Cmp.l0 k1 l0 l1 (wrap64 (q0 - 1))))) = some r := H; have A15 := Aside0.mk qc; clear qc; replace H := Option.bind_eq_some_iff.mp H; obtain ⟨q1, qd, H⟩ := H; replace H : (if q2 > q1 then (some 1) else (r2_Cmp.l0 k1 l0 l1 (wrap64 (q0 - 1)))) = some r := H; have A16 := Aside0.mk qd; clear qd
     by_cases c17 : q2 > q1
     · rw [if_pos c17] at H
       have qg : decide (q1 < q2) = true := decide_eq_true c17; clear c17; obtain rfl := Option.some.inj H
       go_wp2_with (first | ((with_reducible refine gate_callee (f := 78) rfl ?_); refine goesL_ (some 18) rfl rfl Try.func78 (by kernel_rfl) rfl #[.slice A0 l0.length c0, .int .i64 q0] rfl LMq ?_; (with_reducible refine (r2_at.calls _ _ l0 q0 q4 _ ?side1 ?side2 A12.out).mono ?_); (case side1 => exact kC (Kd.C_below HR0.out HB.out)); (case side2 => exact HC0.out); rintro e w' ⟨rfl, ⟨nd, rfl⟩⟩; refine ⟨_, rfl, ?_⟩) | ((with_reducible refine gate_callee (f := 78) rfl ?_); refine goesL_ (some 21) rfl rfl Try.func78 (by kernel_rfl) rfl #[.slice A1 l1.length c1, .int .i64 q0] rfl LMq ?_; (with_reducible refine (r2_at.calls _ _ l1 q0 q3 _ ?side1 ?side2 A13.out).mono ?_); (case side1 => exact kC (Kd.C_below HR1.out (kH HB))); (case side2 => exact HC1.out); rintro e w' ⟨rfl, ⟨nd, rfl⟩⟩; refine ⟨_, rfl, ?_⟩) | ((with_reducible refine gate_callee (f := 78) rfl ?_); refine goesL_ (some 25) rfl rfl Try.func78 (by kernel_rfl) rfl #[.slice A0 l0.length c0, .int .i64 q0] rfl LMq ?_; (with_reducible refine (r2_at.calls _ _ l0 q0 q2 _ ?side1 ?side2 A15.out).mono ?_); (case side1 => exact kC (Kd.C_below HR0.out (kH HB))); (case side2 => exact HC0.out); rintro e w' ⟨rfl, ⟨nd, rfl⟩⟩; refine ⟨_, rfl, ?_⟩) | ((with_reducible refine gate_callee (f := 78) rfl ?_); refine goesL_ (some 28) rfl rfl Try.func78 (by kernel_rfl) rfl #[.slice A1 l1.length c1, .int .i64 q0] rfl LMq ?_; (with_reducible refine (r2_at.calls _ _ l1 q0 q1 _ ?side1 ?side2 A16.out).mono ?_); (case side1 => exact kC (Kd.C_below HR1.out (kH HB))); (case side2 => exact HC1.out); rintro e w' ⟨rfl, ⟨nd, rfl⟩⟩; refine ⟨_, rfl, ?_⟩))
       go_ret
       exact ⟨by first | rfl | (simp [errW_none, errW_some] <;> rfl) | (simp [*, errW_none, errW_some] <;> rfl), kH HB⟩
     rw [if_neg c17] at H
     have qg : decide (q1 < q2) = false := decide_eq_false c17; clear c17; have H' := Aside0.mk H; clear H
     go_wp2_with (first | ((with_reducible refine gate_callee (f := 78) rfl ?_); refine goesL_ (some 18) rfl rfl Try.func78 (by kernel_rfl) rfl #[.slice A0 l0.length c0, .int .i64 q0] rfl LMq ?_; (with_reducible refine (r2_at.calls _ _ l0 q0 q4 _ ?side1 ?side2 A12.out).mono ?_); (case side1 => exact kC (Kd.C_below HR0.out HB.out)); (case side2 => exact HC0.out); rintro e w' ⟨rfl, ⟨nd, rfl⟩⟩; refine ⟨_, rfl, ?_⟩) | ((with_reducible refine gate_callee (f := 78) rfl ?_); refine goesL_ (some 21) rfl rfl Try.func78 (by kernel_rfl) rfl #[.slice A1 l1.length c1, .int .i64 q0] rfl LMq ?_; (with_reducible refine (r2_at.calls _ _ l1 q0 q3 _ ?side1 ?side2 A13.out).mono ?_); (case side1 => exact kC (Kd.C_below HR1.out (kH HB))); (case side2 => exact HC1.out); rintro e w' ⟨rfl, ⟨nd, rfl⟩⟩; refine ⟨_, rfl, ?_⟩) | ((with_reducible refine gate_callee (f := 78) rfl ?_); refine goesL_ (some 25) rfl rfl Try.func78 (by kernel_rfl) rfl #[.slice A0 l0.length c0, .int .i64 q0] rfl LMq ?_; (with_reducible refine (r2_at.calls _ _ l0 q0 q2 _ ?side1 ?side2 A15.out).mono ?_); (case side1 => exact kC (Kd.C_below HR0.out (kH HB))); (case side2 => exact HC0.out); rintro e w' ⟨rfl, ⟨nd, rfl⟩⟩; refine ⟨_, rfl, ?_⟩) | ((with_reducible refine gate_callee (f := 78) rfl ?_); refine goesL_ (some 28) rfl rfl Try.func78 (by kernel_rfl) rfl #[.slice A1 l1.length c1, .int .i64 q0] rfl LMq ?_; (with_reducible refine (r2_at.calls _ _ l1 q0 q1 _ ?side1 ?side2 A16.out).mono ?_); (case side1 => exact kC (Kd.C_below HR1.out (kH HB))); (case side2 => exact HC1.out); rintro e w' ⟨rfl, ⟨nd, rfl⟩⟩; refine ⟨_, rfl, ?_⟩))
     go_roundg k1
     case measure => have := HK1.out; omega
     case rel => exact ⟨(wrap64 (q0 - 1)), RSq, (by first | exact H' | (subst_vars; exact H')), ⟨by have := HK1.out; omega⟩, ⟨kH HB⟩⟩
   rw [if_neg c11] at H
   have qe : decide (0 ≤ q0) = false := decide_eq_false c11; clear c11; obtain rfl := Option.some.inj H
   go_wp2
   go_ret
   exact ⟨by first | rfl | (simp [errW_none, errW_some] <;> rfl) | (simp [*, errW_none, errW_some] <;> rfl), kH HB⟩
end Go.Proofs.Ytbgefpeicmbgiaa.X
end
section
namespace Go.Proofs.Ytbgefpeicmbgiaa.X
open Go.RowKit Go.Proofs.YtbgefpeicmbgiaaW.PrintWords Go.Proofs.YtbgefpeicmbgiaaW.PrintLast Go.Proofs.YtbgefpeicmbgiaaW.PrintMore
attribute [local go_sem] max2_int min2_int max_two min_two max_three min_three max_four min_four   
set_option linter.unusedVariables false
set_option linter.unusedSimpArgs false
mutual
def r2_Shl.l0 : Nat → List Int → Int → List Int → Int → Int → Option (List Int)
 | 0, _, _, _, _, _ => none
 | k + 1, x0, x1, x5, x6, x7 => if x7 < (Int.tmod x1 16) then (r2_Shl.l0 k x0 x1 x5 ((2 * x6) % 4294967296) (wrap64 (x7 + 1))) else (r2_Shl.l1 k x0 x5 x6 0 0)
def r2_Shl.l1 : Nat → List Int → List Int → Int → Int → Int → Option (List Int)
 | 0, _, _, _, _, _ => none
 | k + 1, x0, x5, x6, x8, x9 => if x9 < (x0.length : Int) then (if 0 ≤ x9 then (if x5.length < 35184372088832 then (r2_Shl.l1 k x0 (x5 ++ [(x8 + ((rd x0 x9) * x6)) % 65536]) x6 (((x8 + ((rd x0 x9) * x6)) % 4294967296) / 65536) (wrap64 (x9 + 1))) else (none)) else (none)) else (if x5.length < 35184372088832 then ((r2_trim.f k (x5 ++ [x8])).bind fun q5 => (some q5)) else (none))
end
def r2_Shl.f (k : Nat) (l0 : List Int) (a1 : Int) : Option (List Int) := if (l0.length : Int) = 0 then (some ([] : List Int)) else (if 0 ≤ (wrap64 (Int.tdiv a1 16)) then (if (wrap64 (Int.tdiv a1 16) : Int).toNat ≤ 70368744177664 then (r2_Shl.l0 k l0 a1 (List.replicate (wrap64 (Int.tdiv a1 16) : Int).toNat 0) 1 0) else (none)) else (none))
theorem r2_Shl.mono_l : ∀ k, (∀ y0 y1 y2 y3 y4, LeO (r2_Shl.l0 k y0 y1 y2 y3 y4) (r2_Shl.l0 (k + 1) y0 y1 y2 y3 y4)) ∧ (∀ y0 y1 y2 y3 y4, LeO (r2_Shl.l1 k y0 y1 y2 y3 y4) (r2_Shl.l1 (k + 1) y0 y1 y2 y3 y4))
 | 0 => ⟨fun _ _ _ _ _ r h => by simp [r2_Shl.l0] at h, fun _ _ _ _ _ r h => by simp [r2_Shl.l1] at h⟩
 | k + 1 => by
  obtain ⟨ih0, ih1⟩ := r2_Shl.mono_l k; refine ⟨?_, ?_⟩
  · intro y0 y1 y2 y3 y4
    unfold r2_Shl.l0
    repeat' first
    | (with_reducible exact ih0 _ _ _ _ _)
    | (with_reducible exact ih1 _ _ _ _ _)
    | (with_reducible exact r2_trim.mono _ _)
    | (with_reducible exact LeO.refl _)
    | (with_reducible exact LeO.none _)
    | (with_reducible refine LeO.ite ?_ ?_)
    | (with_reducible refine LeO.bind ?_ (fun _ => ?_))
    | exact ih0 _ _ _ _ _
    | exact ih1 _ _ _ _ _
    | exact r2_trim.mono _ _
    | exact LeO.none _
    | refine LeO.ite ?_ ?_
    | refine LeO.bind ?_ (fun _ => ?_)
  intro y0 y1 y2 y3 y4
  unfold r2_Shl.l1
  repeat' first
  | (with_reducible exact ih0 _ _ _ _ _)
  | (with_reducible exact ih1 _ _ _ _ _)
  | (with_reducible exact r2_trim.mono _ _)
  | (with_reducible exact LeO.refl _)
  | (with_reducible exact LeO.none _)
  | (with_reducible refine LeO.ite ?_ ?_)
  | (with_reducible refine LeO.bind ?_ (fun _ => ?_))
  | exact ih0 _ _ _ _ _
  | exact ih1 _ _ _ _ _
  | exact r2_trim.mono _ _
  | exact LeO.none _
  | refine LeO.ite ?_ ?_
  | refine LeO.bind ?_ (fun _ => ?_)
theorem r2_Shl.mono : ∀ a0 a1 k, LeO (r2_Shl.f k a0 a1) (r2_Shl.f (k + 1) a0 a1) := by
 intro a0 a1 k; obtain ⟨ih0, ih1⟩ := r2_Shl.mono_l k
 unfold r2_Shl.f
 repeat' first
  | (with_reducible exact ih0 _ _ _ _ _)
  | (with_reducible exact ih1 _ _ _ _ _)
  | (with_reducible exact r2_trim.mono _ _)
  | (with_reducible exact LeO.refl _)
  | (with_reducible exact LeO.none _)
  | (with_reducible refine LeO.ite ?_ ?_)
  | (with_reducible refine LeO.bind ?_ (fun _ => ?_))
  | exact ih0 _ _ _ _ _
  | exact ih1 _ _ _ _ _
  | exact r2_trim.mono _ _
  | exact LeO.none _
  | refine LeO.ite ?_ ?_
  | refine LeO.bind ?_ (fun _ => ?_)
set_option maxHeartbeats 8000000 in
set_option maxRecDepth 100000 in
theorem r2_Shl.calls (k : Nat) (A0 : Option Addr) (c0 : Nat) (l0 : List Int) (a1 : Int) (r : List Int) (w : World) (hr0 : Kd.C (Kd.int .u32) w A0 l0.length l0) (hc0 : l0.length ≤ c0) (h : r2_Shl.f k l0 a1 = some r) :
 Calls Try.prog 73 #[.slice A0 l0.length c0, .int .i64 a1] w fun e w' => ∃ v0_ : Value, e = .returned (v0_) ∧ Kd.V (Kd.int .u32) 41 w' w.heap.size (fun k_ => (w.heap.size ≤ k_)) v0_ r ∧ Below w.heap.size w w' := by
 have HR0 := Aside0.mk hr0; have HC0 := Aside0.mk hc0; clear hr0 hc0; have HB := Aside0.mk (Below.refl w.heap.size w); have H : (if (l0.length : Int) = 0 then (some ([] : List Int)) else (if 0 ≤ (wrap64 (Int.tdiv a1 16)) then (if (wrap64 (Int.tdiv a1 16) : Int).toNat ≤ 70368744177664 then (r2_Shl.l0 k l0 a1 (List.replicate (wrap64 (Int.tdiv a1 16) : Int).toNat 0) 1 0) else (none)) else (none))) = some r := h; clear h
 by_cases c3 : (l0.length : Int) = 0
 · rw [if_pos c3] at H
   have q7 : ((l0.length : Int) == 0) = true := beq_iff_eq.mpr c3; have q8 : ((l0.length : Int) != 0) = false := bne_eq_false_iff_eq.mpr c3; clear c3; obtain rfl := Option.some.inj H
   go_enter Try.func73, Try.ntmps73
   go_wp2
   go_ret
   exact ⟨_, by first | rfl | (simp [errW_none, errW_some] <;> rfl) | (simp [*, errW_none, errW_some] <;> rfl), Kd.R_V (by first | exact Kd.R_nil _ _ _ _ _ | exact Kd.N_nil _ _ _ _ _ | exact Kd.V_nil _ _ _ _ _ | exact Kd.Q_nil _ _ _ _ _ | exact Kd.S_nil _ _ _ _ _ | exact Kd.R_nil _ _ _ 0 _ | exact Kd.R_nil _ _ _ 0 (fun k_ => w.heap.size ≤ k_)), kH HB⟩
 rw [if_neg c3] at H
 have q7 : ((l0.length : Int) == 0) = false := beq_eq_false_iff_ne.mpr c3; have q8 : ((l0.length : Int) != 0) = true := bne_iff_ne.mpr c3
 have qa : ¬ (l0 = []) := fun h_ => c3 (by rw [h_]; rfl)
 obtain ⟨ji4, hji4⟩ : ∃ j_ : Int, (wrap64 (Int.tdiv a1 16)) = j_ := ⟨_, rfl⟩
 replace H : (if 0 ≤ (ji4) then (if (ji4 : Int).toNat ≤ 70368744177664 then (r2_Shl.l0 k l0 a1 (List.replicate (ji4 : Int).toNat 0) 1 0) else (none)) else (none)) = some r := by first | (rw [hji4] at H; exact H) | (simp only [hji4] at H ⊢; exact H)
 have hji4w : (IntKind.i64.wrap (Int.tdiv a1 16)) = ji4 := (i64_w _).trans hji4
 by_cases c5 : 0 ≤ (ji4)
 · rw [if_pos c5] at H
   have qb := eq_true c5; have qc : decide (0 ≤ (ji4)) = true := decide_eq_true c5; clear c5
   by_cases c6 : (ji4 : Int).toNat ≤ 70368744177664
   · rw [if_pos c6] at H
     have qd := eq_true c6; have qe : decide ((ji4 : Int).toNat ≤ 70368744177664) = true := decide_eq_true c6; clear c6; obtain ⟨y138, hy138⟩ : ∃ y_ : List Int, y_ = (List.replicate (ji4 : Int).toNat 0) := ⟨_, rfl⟩
     replace H : (r2_Shl.l0 k l0 a1 y138 1 0) = some r := by first | (rw [hy138]; with_reducible exact H) | (have H2_ := (Option.bind_some _ _).symm.trans H; rw [hy138]; with_reducible exact H2_) | (have H2_ := (Option.bind_some _ _).symm.trans H; with_reducible exact H2_) | with_reducible exact H | (rw [hy138]; exact H) | exact H
     have Ny138 := Aside0.mk hy138; clear hy138; have H' := Aside0.mk H; clear H
     go_enter Try.func73, Try.ntmps73
     go_wp2_with (first | ((with_reducible refine gate_dst (N := 15) rfl ?_); refine Kd.R_make (Kd.int .u32) _ 41 rfl (N := 15) rfl 64 _ _ rfl ji4 rfl rfl Try.underlying64 (.int .u32 0) 4 info41 rfl (by decide) (by omega) 0 (ok := fun _ => True) (okp := fun _ => True) rfl (fun _ hk => hk) trivial (of_decide_eq_true ASq) (Nat.le_trans (Nat.mul_le_mul_right _ (of_decide_eq_true ASq : ji4.toNat ≤ 70368744177664)) (by omega)) (Below.refl _ _) (Nat.le_refl _) ?_; intro v139 w7 ho8 hb hg_ hnew_; clear hg_ hnew_; (first | rw [← Ny138.out] at ho8 | (simp only [Int.reduceToNat] at ho8; rw [← Ny138.out] at ho8)); have qj := Aside0.mk (Kd.R_lower (Kd.R_newM (M := fun k_ => (w.heap.size ≤ k_)) ho8 (below_size (kH HB)) (fun k_ h_ => h_)) (below_size (kH HB))); replace HB := Aside0.mk (below_step (kH HB) hb); clear hb ho8))
     go_loopg [6, 7] k (fun kq v6 v7 w' => ∃ (q1 : Int) (q4 : Int), v6 = .int .u32 q1 ∧ v7 = .int .i64 q4 ∧ Aside0 (r2_Shl.l0 kq l0 a1 y138 q1 q4 = some r) ∧ Aside0 (kq ≤ k) ∧ Aside0 (Kd.R (Kd.int .u32) 41 w' w.heap.size (fun k_ => (w.heap.size ≤ k_)) v139 y138) ∧ Aside0 (Below w.heap.size w w'))
     case atStart => exact ⟨(1), (0), RSq, RSq, (by first | exact H' | (subst_vars; exact H')), ⟨Nat.le_refl _⟩, ⟨by (with_reducible repeat (first | apply Kd.R_alloc | apply Kd.R_drewN | apply Kd.R_drew)); exact Kd.R_mono qj.out (fun _ hk => hk.1)⟩, ⟨kH HB⟩⟩
     case round =>
      clear H'; (try clear p2); (try clear c3); (try clear q7); (try clear q8); (try clear qa); (try clear c5); (try clear qb); (try clear qc); (try clear c6); (try clear qd); (try clear qe); (try clear p6); (try clear c7); obtain ⟨q1, q4, rfl, rfl, HA, HK1, HO_5, HB⟩ := hrel
      cases gk with
      | zero => exact absurd HA.out (by simp [r2_Shl.l0])
      | succ k1 =>
       have H := HA.out; clear HA
       simp only [r2_Shl.l0] at H
       by_cases c9 : q4 < (Int.tmod a1 16)
       · rw [if_pos c9] at H
         have qf : decide (q4 < (Int.tmod a1 16)) = true := decide_eq_true c9; clear c9; have H' := Aside0.mk H; clear H
         go_wp2
         go_roundg k1
         case measure => have := HK1.out; omega
         case rel => exact ⟨((2 * q1) % 4294967296), (wrap64 (q4 + 1)), RSq, RSq, (by first | exact H' | (subst_vars; exact H')), ⟨by have := HK1.out; omega⟩, ⟨kR HO_5⟩, ⟨kH HB⟩⟩
       rw [if_neg c9] at H
       have qf : decide (q4 < (Int.tmod a1 16)) = false := decide_eq_false c9; clear c9; have H' := Aside0.mk H; clear H
       go_wp2
       go_loopg [5, 8, 9] k1 (fun kq v5 v8 v9 w' => ∃ (q3 : List Int) (q2 : Int) (q0 : Int), v8 = .int .u32 q2 ∧ v9 = .int .i64 q0 ∧ Aside0 (r2_Shl.l1 kq l0 q3 q1 q2 q0 = some r) ∧ Aside0 (kq ≤ k1) ∧ Aside0 (Kd.R (Kd.int .u32) 41 w' w.heap.size (fun k_ => (w.heap.size ≤ k_)) v5 q3) ∧ Aside0 (Below w.heap.size w w'))
       case atStart => exact ⟨(y138), (0), (0), RSq, RSq, (by first | exact H' | (subst_vars; exact H')), ⟨Nat.le_refl _⟩, ⟨kR HO_5⟩, ⟨kH HB⟩⟩
       case round =>
        clear H'; (try clear p2); (try clear c3); (try clear q7); (try clear q8); (try clear qa); (try clear c5); (try clear qb); (try clear qc); (try clear c6); (try clear qd); (try clear qe); (try clear p6); (try clear c7); (try clear c9); (try clear qf); (try clear p2); (try clear p6); obtain ⟨q3, q2, q0, rfl, rfl, HA, HK2, HO_5, HB⟩ := hrel
        cases gk with
        | zero => exact absurd HA.out (by simp [r2_Shl.l1])
        | succ k2 =>
         have H := HA.out; clear HA
         simp only [r2_Shl.l1] at H
         by_cases c10 : q0 < (l0.length : Int)
         · rw [if_pos c10] at H
           have qk : decide (q0 < (l0.length : Int)) = true := decide_eq_true c10; clear c10
           by_cases c11 : 0 ≤ q0
           · rw [if_pos c11] at H
             have c11b0 : decide (0 ≤ q0) = true := decide_eq_true c11; clear c11
             by_cases c12 : q3.length < 35184372088832
             · rw [if_pos c12] at H
               have LMc12 := Aside0.mk c12; clear c12; obtain ⟨y142, hy142⟩ : ∃ y_ : List Int, y_ = (q3 ++ [(q2 + ((rd l0 q0) * q1)) % 65536]) := ⟨_, rfl⟩
               replace H : (r2_Shl.l1 k2 l0 y142 q1 (((q2 + ((rd l0 q0) * q1)) % 4294967296) / 65536) (wrap64 (q0 + 1))) = some r := by first | (rw [hy142]; with_reducible exact H) | (have H2_ := (Option.bind_some _ _).symm.trans H; rw [hy142]; with_reducible exact H2_) | (have H2_ := (Option.bind_some _ _).symm.trans H; with_reducible exact H2_) | with_reducible exact H | (rw [hy142]; exact H) | exact H
               have Ny142 := Aside0.mk hy142; clear hy142; have H' := Aside0.mk H; clear H; have p141 : 0 ≤ (q0 : Int) := of_decide_eq_true ASq; have q141 : q0 < (l0.length : Int) := of_decide_eq_true ASq; obtain ⟨ad141, e141, q9⟩ := Kd.at_int HR0.out q0 p141 q141
               cases e141
               replace q9 := (HB.out.cell (World.block_lt_of_cell? w _ q9)).trans q9; replace p141 := eq_true p141; replace q141 := eq_true q141
               go_wp2_with (first | ((with_reducible refine gate_builtin (b := .append) (xs := #[.tmp 38, .tmp 41]) rfl ?_); at_builtin; refine Kd.R_append (Kd.int .u32) (w0 := w) w.heap.size rfl (.tmp 38) (.tmp 41) 64 41 (.int .u32 0) 4 rfl Try.underlying64 info41 rfl (by decide) (by omega) u5 q3 ((q2 + ((rd l0 q0) * q1)) % 65536) [.int .u32 ((q2 + ((rd l0 q0) * q1)) % 65536)] (fun k_ => (w.heap.size ≤ k_)) (fun _ => False) rfl rfl ?aP (fun _ hk => hk.elim) ?aF ?aO ?aB ?aS ?aL ?_; (case aP => exact rfl); (case aB => exact (kH HB)); (case aF => exact (fun k_ hk => (Nat.le_trans (below_size (kH HB)) hk))); (case aO => exact (kR HO_5)); (case aS => exact (below_size (kH HB))); (case aL => have := LMc12.out; omega); intro v143 w13 ho hb hg hat; rw [← Ny142.out] at ho; replace HB := Aside0.mk (hb); have ql := Aside0.mk (ho); clear HO_5; clear ho hb hg hat))
               go_roundg k2
               case measure => have := HK1.out; have := HK2.out; omega
               case rel => exact ⟨(y142), (((q2 + ((rd l0 q0) * q1)) % 4294967296) / 65536), (wrap64 (q0 + 1)), RSq, RSq, (by first | exact H' | (subst_vars; exact H')), ⟨by have := HK1.out; have := HK2.out; omega⟩, ⟨kR ql⟩, ⟨kH HB⟩⟩
             rw [if_neg c12] at H
             exact absurd H (by simp)
           rw [if_neg c11] at H
           exact absurd H (by simp)
         rw [if_neg c10] at H
         have qk : decide (q0 < (l0.length : Int)) = false := decide_eq_false c10; clear c10
         by_cases c14 : q3.length < 35184372088832
         · rw [if_pos c14] at H
           have LMc14 := Aside0.mk c14; clear c14; obtain ⟨y145, hy145⟩ : ∃ y_ : List Int, y_ = (q3 ++ [q2]) := ⟨_, rfl⟩
           replace H : ((r2_trim.f k2 y145).bind fun q5 => (some q5)) = some r := by first | (rw [hy145]; with_reducible exact H) | (have H2_ := (Option.bind_some _ _).symm.trans H; rw [hy145]; with_reducible exact H2_) | (have H2_ := (Option.bind_some _ _).symm.trans H; with_reducible exact H2_) | with_reducible exact H | (rw [hy145]; exact H) | exact H
           have Ny145 := Aside0.mk hy145; clear hy145; replace H := Option.bind_eq_some_iff.mp H; obtain ⟨q5, qg, H⟩ := H; replace H : (some q5) = some r := H; have A15 := Aside0.mk qg; clear qg; obtain rfl := Option.some.inj H
           go_wp2_with (first | ((with_reducible refine gate_builtin (b := .append) (xs := #[.tmp 45, .tmp 47]) rfl ?_); at_builtin; refine Kd.R_append (Kd.int .u32) (w0 := w) w.heap.size rfl (.tmp 45) (.tmp 47) 64 41 (.int .u32 0) 4 rfl Try.underlying64 info41 rfl (by decide) (by omega) u5 q3 q2 [.int .u32 q2] (fun k_ => (w.heap.size ≤ k_)) (fun _ => False) rfl rfl ?aP (fun _ hk => hk.elim) ?aF ?aO ?aB ?aS ?aL ?_; (case aP => exact rfl); (case aB => exact (kH HB)); (case aF => exact (fun k_ hk => (Nat.le_trans (below_size (kH HB)) hk))); (case aO => exact (kR HO_5)); (case aS => exact (below_size (kH HB))); (case aL => have := LMc14.out; omega); intro v146 w16 ho hb hg hat; rw [← Ny145.out] at ho; replace HB := Aside0.mk (hb); have q6 := Aside0.mk (ho); clear HO_5; clear ho hb hg hat; obtain ⟨qh, qi, eo17⟩ := Kd.R_slice q6.out; subst eo17) | ((with_reducible refine gate_callee (f := 70) rfl ?_); refine goesL_ (some 49) rfl rfl Try.func70 (by kernel_rfl) rfl #[.slice qh y145.length qi] rfl LMq ?_; (with_reducible refine (r2_trim.calls k2 (fun k_ => some k_ = (.slice qh y145.length qi : Value).ownBlock) _ _ y145 q5 _ ?side1 A15.out).mono ?_); (case side1 => exact Kd.R_V (Kd.R_tight rfl (q6.out))); rintro e w18 ⟨v149, rfl, ho0, hb⟩; refine ⟨_, rfl, ?_⟩; have qm := Aside0.mk (Kd.V_lower (Kd.V_mono (ok' := fun k_ => (w.heap.size ≤ k_)) ho0 (fun k_ hk_ => Or.elim hk_ (fun hs_ => ((q6.out).1 k_ hs_.symm)) (fun hn_ => (Nat.le_trans (below_size (kH HB)) hn_)))) (below_size (kH HB))); replace q6 := Aside0.mk (Kd.R_below (kR q6) hb); replace HB := Aside0.mk (below_step (kH HB) hb); (try clear hb); (try clear hb2); (try clear hk); (try clear hi); (try clear ho0)))
           go_ret
           exact ⟨_, by first | rfl | (simp [errW_none, errW_some] <;> rfl) | (simp only [← hji4]; first | rfl | (simp [errW_none, errW_some] <;> rfl)) | (simp [*, errW_none, errW_some] <;> rfl), by (with_reducible repeat (first | apply Kd.V_alloc | apply Kd.V_drewN | apply Kd.V_drew)); exact qm.out, kH HB⟩
         rw [if_neg c14] at H
         exact absurd H (by simp)
   rw [if_neg c6] at H
   exact absurd H (by simp)
 rw [if_neg c5] at H
 exact absurd H (by simp)
end Go.Proofs.Ytbgefpeicmbgiaa.X
end
section
namespace Go.Proofs.Ytbgefpeicmbgiaa.X
open Go.RowKit Go.Proofs.YtbgefpeicmbgiaaW.PrintWords Go.Proofs.YtbgefpeicmbgiaaW.PrintLast Go.Proofs.YtbgefpeicmbgiaaW.PrintMore
attribute [local go_sem] max2_int min2_int max_two min_two max_three min_three max_four min_four   
set_option linter.unusedVariables false
set_option linter.unusedSimpArgs false
def r2_Sub.l0 : Nat → List Int → List Int → List Int → Int → Int → Option (List Int)
 | 0, _, _, _, _, _ => none
 | k + 1, x0, x1, x5, x6, x7 => if x7 < (x0.length : Int) then ((r2_at.f x0 x7).bind fun q2 => ((r2_at.f x1 x7).bind fun q1 => (if x5.length < 35184372088832 then (r2_Sub.l0 k x0 x1 (x5 ++ [(65536 + q2 - q1 - x6) % 65536]) ((1 - (((65536 + q2 - q1 - x6) % 4294967296) / 65536)) % 4294967296) (wrap64 (x7 + 1))) else (none)))) else ((r2_trim.f k x5).bind fun q5 => (some q5))
def r2_Sub.f (k : Nat) (l0 : List Int) (l1 : List Int) : Option (List Int) := r2_Sub.l0 k l0 l1 ([] : List Int) 0 0
theorem r2_Sub.mono_l : ∀ k, (∀ y0 y1 y2 y3 y4, LeO (r2_Sub.l0 k y0 y1 y2 y3 y4) (r2_Sub.l0 (k + 1) y0 y1 y2 y3 y4))
 | 0 => fun _ _ _ _ _ r h => by simp [r2_Sub.l0] at h
 | k + 1 => by
  have ih0 := r2_Sub.mono_l k
  · intro y0 y1 y2 y3 y4
    unfold r2_Sub.l0
    repeat' first
    | (with_reducible exact ih0 _ _ _ _ _)
    | (with_reducible exact r2_trim.mono _ _)
    | (with_reducible exact LeO.refl _)
    | (with_reducible exact LeO.none _)
    | (with_reducible refine LeO.ite ?_ ?_)
    | (with_reducible refine LeO.bind ?_ (fun _ => ?_))
    | exact ih0 _ _ _ _ _
    | exact r2_trim.mono _ _
    | exact LeO.none _
    | refine LeO.ite ?_ ?_
    | refine LeO.bind ?_ (fun _ => ?_)
theorem r2_Sub.mono : ∀ a0 a1 k, LeO (r2_Sub.f k a0 a1) (r2_Sub.f (k + 1) a0 a1) := by
 intro a0 a1 k; have ih0 := r2_Sub.mono_l k
 unfold r2_Sub.f
 repeat' first
  | (with_reducible exact ih0 _ _ _ _ _)
  | (with_reducible exact r2_trim.mono _ _)
  | (with_reducible exact LeO.refl _)
  | (with_reducible exact LeO.none _)
  | (with_reducible refine LeO.ite ?_ ?_)
  | (with_reducible refine LeO.bind ?_ (fun _ => ?_))
  | exact ih0 _ _ _ _ _
  | exact r2_trim.mono _ _
  | exact LeO.none _
  | refine LeO.ite ?_ ?_
  | refine LeO.bind ?_ (fun _ => ?_)
set_option maxHeartbeats 8000000 in
set_option maxRecDepth 100000 in
theorem r2_Sub.calls (k : Nat) (A0 : Option Addr) (c0 : Nat) (l0 : List Int) (A1 : Option Addr) (c1 : Nat) (l1 : List Int) (r : List Int) (w : World) (hr0 : Kd.C (Kd.int .u32) w A0 l0.length l0) (hc0 : l0.length ≤ c0) (hr1 : Kd.C (Kd.int .u32) w A1 l1.length l1) (hc1 : l1.length ≤ c1) (h : r2_Sub.f k l0 l1 = some r) :
 Calls Try.prog 76 #[.slice A0 l0.length c0, .slice A1 l1.length c1] w fun e w' => ∃ v0_ : Value, e = .returned (v0_) ∧ Kd.V (Kd.int .u32) 41 w' w.heap.size (fun k_ => (w.heap.size ≤ k_)) v0_ r ∧ Below w.heap.size w w' := by
 have HR0 := Aside0.mk hr0; have HC0 := Aside0.mk hc0; clear hr0 hc0; have HR1 := Aside0.mk hr1; have HC1 := Aside0.mk hc1; clear hr1 hc1; have HB := Aside0.mk (Below.refl w.heap.size w); have H : (r2_Sub.l0 k l0 l1 ([] : List Int) 0 0) = some r := h; clear h; have H' := Aside0.mk H; clear H
 go_enter Try.func76, Try.ntmps76
 go_wp2
 go_loopg [5, 6, 7] k (fun kq v5 v6 v7 w' => ∃ (q3 : List Int) (q4 : Int) (q0 : Int), v6 = .int .u32 q4 ∧ v7 = .int .i64 q0 ∧ Aside0 (r2_Sub.l0 kq l0 l1 q3 q4 q0 = some r) ∧ Aside0 (kq ≤ k) ∧ Aside0 (Kd.R (Kd.int .u32) 41 w' w.heap.size (fun k_ => (w.heap.size ≤ k_)) v5 q3) ∧ Aside0 (Below w.heap.size w w'))
 case atStart => exact ⟨(([] : List Int)), (0), (0), RSq, RSq, (by first | exact H' | (subst_vars; exact H')), ⟨Nat.le_refl _⟩, ⟨by first | exact Kd.R_nil _ _ _ _ _ | exact Kd.N_nil _ _ _ _ _ | exact Kd.V_nil _ _ _ _ _ | exact Kd.Q_nil _ _ _ _ _ | exact Kd.S_nil _ _ _ _ _ | exact Kd.R_nil _ _ _ 0 _ | exact Kd.R_nil _ _ _ 0 (fun k_ => w.heap.size ≤ k_)⟩, ⟨kH HB⟩⟩
 case round =>
  clear H'; (try clear c1); (try clear p2); obtain ⟨q3, q4, q0, rfl, rfl, HA, HK1, HO_5, HB⟩ := hrel
  cases gk with
  | zero => exact absurd HA.out (by simp [r2_Sub.l0])
  | succ k1 =>
   have H := HA.out; clear HA
   simp only [r2_Sub.l0] at H
   by_cases c3 : q0 < (l0.length : Int)
   · rw [if_pos c3] at H
     have q6 : decide (q0 < (l0.length : Int)) = true := decide_eq_true c3; clear c3; replace H := Option.bind_eq_some_iff.mp H; obtain ⟨q2, A40, H⟩ := H; replace H : ((r2_at.f l1 q0).bind fun q1 => (if q3.length < 35184372088832 then (r2_Sub.l0 k1 l0 l1 (q3 ++ [(65536 + q2 - q1 - q4) % 65536]) ((1 - (((65536 + q2 - q1 - q4) % 4294967296) / 65536)) % 4294967296) (wrap64 (q0 + 1))) else (none))) = some r := H; have A4 := Aside0.mk A40; clear A40; replace H := Option.bind_eq_some_iff.mp H; obtain ⟨q1, A50, H⟩ := H; replace H : (if q3.length < 35184372088832 then (r2_Sub.l0 k1 l0 l1 (q3 ++ [(65536 + q2 - q1 - q4) % 65536]) ((1 - (((65536 + q2 - q1 - q4) % 4294967296) / 65536)) % 4294967296) (wrap64 (q0 + 1))) else (none)) = some r := H; have A5 := Aside0.mk A50; clear A50
     by_cases c6 : q3.length < 35184372088832
     · rw [if_pos c6] at H
       have LMc6 := Aside0.mk c6; clear c6; obtain ⟨y164, hy164⟩ : ∃ y_ : List Int, y_ = (q3 ++ [(65536 + q2 - q1 - q4) % 65536]) := ⟨_, rfl⟩
       replace H : (r2_Sub.l0 k1 l0 l1 y164 ((1 - (((65536 + q2 - q1 - q4) % 4294967296) / 65536)) % 4294967296) (wrap64 (q0 + 1))) = some r := by first | (rw [hy164]; with_reducible exact H) | (have H2_ := (Option.bind_some _ _).symm.trans H; rw [hy164]; with_reducible exact H2_) | (have H2_ := (Option.bind_some _ _).symm.trans H; with_reducible exact H2_) | with_reducible exact H | (rw [hy164]; exact H) | exact H
       have Ny164 := Aside0.mk hy164; clear hy164; have H' := Aside0.mk H; clear H
       go_wp2_with (first | ((with_reducible refine gate_callee (f := 78) rfl ?_); refine goesL_ (some 17) rfl rfl Try.func78 (by kernel_rfl) rfl #[.slice A0 l0.length c0, .int .i64 q0] rfl LMq ?_; (with_reducible refine (r2_at.calls _ _ l0 q0 q2 _ ?side1 ?side2 A4.out).mono ?_); (case side1 => exact kC (Kd.C_below HR0.out HB.out)); (case side2 => exact HC0.out); rintro e w' ⟨rfl, ⟨nd, rfl⟩⟩; refine ⟨_, rfl, ?_⟩) | ((with_reducible refine gate_callee (f := 78) rfl ?_); refine goesL_ (some 21) rfl rfl Try.func78 (by kernel_rfl) rfl #[.slice A1 l1.length c1, .int .i64 q0] rfl LMq ?_; (with_reducible refine (r2_at.calls _ _ l1 q0 q1 _ ?side1 ?side2 A5.out).mono ?_); (case side1 => exact kC (Kd.C_below HR1.out (kH HB))); (case side2 => exact HC1.out); rintro e w' ⟨rfl, ⟨nd, rfl⟩⟩; refine ⟨_, rfl, ?_⟩) | ((with_reducible refine gate_builtin (b := .append) (xs := #[.tmp 25, .tmp 28]) rfl ?_); at_builtin; refine Kd.R_append (Kd.int .u32) (w0 := w) w.heap.size rfl (.tmp 25) (.tmp 28) 64 41 (.int .u32 0) 4 rfl Try.underlying64 info41 rfl (by decide) (by omega) u5 q3 ((65536 + q2 - q1 - q4) % 65536) [.int .u32 ((65536 + q2 - q1 - q4) % 65536)] (fun k_ => (w.heap.size ≤ k_)) (fun _ => False) rfl rfl ?aP (fun _ hk => hk.elim) ?aF ?aO ?aB ?aS ?aL ?_; (case aP => exact rfl); (case aB => exact (kH HB)); (case aF => exact (fun k_ hk => (Nat.le_trans (below_size (kH HB)) hk))); (case aO => exact (kR HO_5)); (case aS => exact (below_size (kH HB))); (case aL => have := LMc6.out; omega); intro v165 w7 ho hb hg hat; rw [← Ny164.out] at ho; replace HB := Aside0.mk (hb); have q7 := Aside0.mk (ho); clear HO_5; clear ho hb hg hat))
       go_roundg k1
       case measure => have := HK1.out; omega
       case rel => exact ⟨(y164), ((1 - (((65536 + q2 - q1 - q4) % 4294967296) / 65536)) % 4294967296), (wrap64 (q0 + 1)), RSq, RSq, (by first | exact H' | (subst_vars; exact H')), ⟨by have := HK1.out; omega⟩, ⟨kR q7⟩, ⟨kH HB⟩⟩
     rw [if_neg c6] at H
     exact absurd H (by simp)
   rw [if_neg c3] at H
   have q6 : decide (q0 < (l0.length : Int)) = false := decide_eq_false c3; clear c3; replace H := Option.bind_eq_some_iff.mp H; obtain ⟨q5, A80, H⟩ := H; replace H : (some q5) = some r := H; have A8 := Aside0.mk A80; clear A80; obtain rfl := Option.some.inj H; obtain ⟨Ao9, co9, eo9⟩ := Kd.R_slice HO_5.out; subst eo9
   go_wp2_with (first | ((with_reducible refine gate_callee (f := 70) rfl ?_); refine goesL_ (some 34) rfl rfl Try.func70 (by kernel_rfl) rfl #[.slice Ao9 q3.length co9] rfl LMq ?_; (with_reducible refine (r2_trim.calls k1 (fun k_ => some k_ = (.slice Ao9 q3.length co9 : Value).ownBlock) _ _ q3 q5 _ ?side1 A8.out).mono ?_); (case side1 => exact Kd.R_V (Kd.R_tight rfl (HO_5.out))); rintro e w10 ⟨v168, rfl, ho0, hb⟩; refine ⟨_, rfl, ?_⟩; have q8 := Aside0.mk (Kd.V_lower (Kd.V_mono (ok' := fun k_ => (w.heap.size ≤ k_)) ho0 (fun k_ hk_ => Or.elim hk_ (fun hs_ => ((HO_5.out).1 k_ hs_.symm)) (fun hn_ => (Nat.le_trans (below_size (kH HB)) hn_)))) (below_size (kH HB))); replace HO_5 := Aside0.mk (Kd.R_below (kR HO_5) hb); replace HB := Aside0.mk (below_step (kH HB) hb); (try clear hb); (try clear hb2); (try clear hk); (try clear hi); (try clear ho0)))
   go_ret
   exact ⟨_, by first | rfl | (simp [errW_none, errW_some] <;> rfl) | (simp [*, errW_none, errW_some] <;> rfl), by (with_reducible repeat (first | apply Kd.V_alloc | apply Kd.V_drewN | apply Kd.V_drew)); exact q8.out, kH HB⟩
end Go.Proofs.Ytbgefpeicmbgiaa.X
end
section
namespace Go.Proofs.Ytbgefpeicmbgiaa.X
open Go.RowKit Go.Proofs.YtbgefpeicmbgiaaW.PrintWords Go.Proofs.YtbgefpeicmbgiaaW.PrintLast Go.Proofs.YtbgefpeicmbgiaaW.PrintMore
attribute [local go_sem] max2_int min2_int max_two min_two max_three min_three max_four min_four   
set_option linter.unusedVariables false
set_option linter.unusedSimpArgs false
def r4_over.f (a0 : Bool) (a1 : Int) : Option (Int) := if a1 = 2 then (some 9218868437227405311) else (if a1 = 3 then (if a0 = true then (some 9218868437227405311) else (if a1 = 4 then (some 9218868437227405311) else (some 9218868437227405312))) else (if a1 = 4 then (if a0 = true then (some 9218868437227405312) else (some 9218868437227405311)) else (some 9218868437227405312)))
set_option maxHeartbeats 8000000 in
set_option maxRecDepth 100000 in
theorem r4_over.calls (a0 : Bool) (a1 : Int) (r : Int) (w : World) (h : r4_over.f a0 a1 = some r) :
 Calls Try.prog 69 #[.bool a0, .int .i64 a1] w fun e w' => e = .returned (.int .u64 r) ∧ Drawn0 w w' := by
 have H : (if a1 = 2 then (some 9218868437227405311) else (if a1 = 3 then (if a0 = true then (some 9218868437227405311) else (if a1 = 4 then (some 9218868437227405311) else (some 9218868437227405312))) else (if a1 = 4 then (if a0 = true then (some 9218868437227405312) else (some 9218868437227405311)) else (some 9218868437227405312)))) = some r := h; clear h
 by_cases c3 : a1 = 2
 · rw [if_pos c3] at H
   have q0 : (a1 == 2) = true := beq_iff_eq.mpr c3; have q1 : (a1 != 2) = false := bne_eq_false_iff_eq.mpr c3; clear c3; obtain rfl := Option.some.inj H
   go_enter Try.func69, Try.ntmps69
   go_wp2
   go_ret
   exact ⟨by first | rfl | (simp; done) | (simp [*]; done) | (simp [wrap64]; done), by repeat (first | exact Drawn0.refl _ | apply Drawn0.step)⟩
 rw [if_neg c3] at H
 have q0 : (a1 == 2) = false := beq_eq_false_iff_ne.mpr c3; have q1 : (a1 != 2) = true := bne_iff_ne.mpr c3
 by_cases c4 : a1 = 3
 · rw [if_pos c4] at H
   have q2 : (a1 == 3) = true := beq_iff_eq.mpr c4; have q3 : (a1 != 3) = false := bne_eq_false_iff_eq.mpr c4; clear c4
   by_cases c5 : a0 = true
   · subst c5
     have H1 : (some 9218868437227405311) = some r := by rw [if_pos rfl] at H; exact H
     clear H; have H := H1; clear H1; obtain rfl := Option.some.inj H
     go_enter Try.func69, Try.ntmps69
     go_wp2
     go_ret
     exact ⟨by first | rfl | (simp; done) | (simp [*]; done) | (simp [wrap64]; done), by repeat (first | exact Drawn0.refl _ | apply Drawn0.step)⟩
   replace c5 := Bool.eq_false_iff.mpr c5; subst c5
   have H1 : (if a1 = 4 then (some 9218868437227405311) else (some 9218868437227405312)) = some r := by rw [if_neg (show ¬ (false = true) by decide)] at H; exact H
   clear H; have H := H1; clear H1
   by_cases c6 : a1 = 4
   · rw [if_pos c6] at H
     have q4 : (a1 == 4) = true := beq_iff_eq.mpr c6; have q5 : (a1 != 4) = false := bne_eq_false_iff_eq.mpr c6; clear c6; obtain rfl := Option.some.inj H
     go_enter Try.func69, Try.ntmps69
     go_wp2
     go_ret
     exact ⟨by first | rfl | (simp; done) | (simp [*]; done) | (simp [wrap64]; done), by repeat (first | exact Drawn0.refl _ | apply Drawn0.step)⟩
   rw [if_neg c6] at H
   have q4 : (a1 == 4) = false := beq_eq_false_iff_ne.mpr c6; have q5 : (a1 != 4) = true := bne_iff_ne.mpr c6; obtain rfl := Option.some.inj H
   go_enter Try.func69, Try.ntmps69
   go_wp2
   go_ret
   exact ⟨by first | rfl | (simp; done) | (simp [*]; done) | (simp [wrap64]; done), by repeat (first | exact Drawn0.refl _ | apply Drawn0.step)⟩
 rw [if_neg c4] at H
 have q2 : (a1 == 3) = false := beq_eq_false_iff_ne.mpr c4; have q3 : (a1 != 3) = true := bne_iff_ne.mpr c4
 by_cases c7 : a1 = 4
 · rw [if_pos c7] at H
   have q6 : (a1 == 4) = true := beq_iff_eq.mpr c7; have q7 : (a1 != 4) = false := bne_eq_false_iff_eq.mpr c7; clear c7
   by_cases c8 : a0 = true
   · subst c8
     have H1 : (some 9218868437227405312) = some r := by rw [if_pos rfl] at H; exact H
     clear H; have H := H1; clear H1; obtain rfl := Option.some.inj H
     go_enter Try.func69, Try.ntmps69
     go_wp2
     go_ret
     exact ⟨by first | rfl | (simp; done) | (simp [*]; done) | (simp [wrap64]; done), by repeat (first | exact Drawn0.refl _ | apply Drawn0.step)⟩
   replace c8 := Bool.eq_false_iff.mpr c8; subst c8
   have H1 : (some 9218868437227405311) = some r := by rw [if_neg (show ¬ (false = true) by decide)] at H; exact H
   clear H; have H := H1; clear H1; obtain rfl := Option.some.inj H
   go_enter Try.func69, Try.ntmps69
   go_wp2
   go_ret
   exact ⟨by first | rfl | (simp; done) | (simp [*]; done) | (simp [wrap64]; done), by repeat (first | exact Drawn0.refl _ | apply Drawn0.step)⟩
 rw [if_neg c7] at H
 have q6 : (a1 == 4) = false := beq_eq_false_iff_ne.mpr c7; have q7 : (a1 != 4) = true := bne_iff_ne.mpr c7; obtain rfl := Option.some.inj H
 go_enter Try.func69, Try.ntmps69
 go_wp2
 go_ret
 exact ⟨by first | rfl | (simp; done) | (simp [*]; done) | (simp [wrap64]; done), by repeat (first | exact Drawn0.refl _ | apply Drawn0.step)⟩
end Go.Proofs.Ytbgefpeicmbgiaa.X
end
section
namespace Go.Proofs.Ytbgefpeicmbgiaa.X
open Go.RowKit Go.Proofs.YtbgefpeicmbgiaaW.PrintWords Go.Proofs.YtbgefpeicmbgiaaW.PrintLast Go.Proofs.YtbgefpeicmbgiaaW.PrintMore
attribute [local go_sem] max2_int min2_int max_two min_two max_three min_three max_four min_four   
set_option linter.unusedVariables false
set_option linter.unusedSimpArgs false
def r4_signed.f (a0 : Int) (a1 : Bool) : Option (Int) := if a1 = true then (some (IntKind.u64.wrap (a0 + 9223372036854775808))) else (some a0)
set_option maxHeartbeats 8000000 in
set_option maxRecDepth 100000 in
theorem r4_signed.calls (a0 : Int) (a1 : Bool) (r : Int) (w : World) (h : r4_signed.f a0 a1 = some r) :
 Calls Try.prog 67 #[.int .u64 a0, .bool a1] w fun e w' => e = .returned (.int .u64 r) ∧ Drawn0 w w' := by
 have H : (if a1 = true then (some (IntKind.u64.wrap (a0 + 9223372036854775808))) else (some a0)) = some r := h; clear h
 by_cases c3 : a1 = true
 · subst c3
   have H1 : (some (IntKind.u64.wrap (a0 + 9223372036854775808))) = some r := by rw [if_pos rfl] at H; exact H
   clear H; have H := H1; clear H1; obtain rfl := Option.some.inj H
   go_enter Try.func67, Try.ntmps67
   go_wp2
   go_ret
   exact ⟨by first | rfl | (simp; done) | (simp [*]; done) | (simp [wrap64]; done), by repeat (first | exact Drawn0.refl _ | apply Drawn0.step)⟩
 replace c3 := Bool.eq_false_iff.mpr c3; subst c3
 have H1 : (some a0) = some r := by rw [if_neg (show ¬ (false = true) by decide)] at H; exact H
 clear H; have H := H1; clear H1; obtain rfl := Option.some.inj H
 go_enter Try.func67, Try.ntmps67
 go_wp2
 go_ret
 exact ⟨by first | rfl | (simp; done) | (simp [*]; done) | (simp [wrap64]; done), by repeat (first | exact Drawn0.refl _ | apply Drawn0.step)⟩
end Go.Proofs.Ytbgefpeicmbgiaa.X
end
section
namespace Go.Proofs.Ytbgefpeicmbgiaa
set_option linter.unusedVariables false
set_option linter.unusedSimpArgs false
open Go.RowKit Go.Proofs.YtbgefpeicmbgiaaW.PrintWords
def nv : List Int → Nat
  | [] => 0
  | d :: l => d.toNat + 65536 * nv l
def nok (l : List Int) : Prop := ∀ d ∈ l, 0 ≤ d ∧ d < 65536
def ln (n : Nat) : List Int := if h : n = 0 then [] else ((n % 65536 : Nat) : Int) :: ln (n / 65536)
termination_by n
decreasing_by omega
theorem ln_zero : ln 0 = [] := by rw [ln]; rfl
theorem ln_pos {n : Nat} (h : n ≠ 0) : ln n = ((n % 65536 : Nat) : Int) :: ln (n / 65536) := by rw [ln, dif_neg h]
theorem nv_ln (n : Nat) : nv (ln n) = n := by
  induction n using Nat.strongRecOn with
  | _ n ih =>
    by_cases h : n = 0
    · subst h; rw [ln_zero]; rfl
    · rw [ln_pos h]
      show ((n % 65536 : Nat) : Int).toNat + 65536 * nv (ln (n / 65536)) = n
      rw [ih _ (by omega)]
      omega
theorem nok_nil : nok [] := fun d h => by cases h
theorem nok_cons {d : Int} {l : List Int} (h0 : 0 ≤ d) (h1 : d < 65536) (h : nok l) : nok (d :: l) := fun e he => by
  cases he with
  | head => exact ⟨h0, h1⟩
  | tail _ he => exact h e he
theorem nok_append {a b : List Int} (ha : nok a) (hb : nok b) : nok (a ++ b) := fun d hd => by
  rcases List.mem_append.1 hd with h | h
  · exact ha d h
  · exact hb d h
theorem nok_one {d : Int} (h0 : 0 ≤ d) (h1 : d < 65536) : nok [d] := nok_cons h0 h1 nok_nil
theorem nok_ln (n : Nat) : nok (ln n) := by
  induction n using Nat.strongRecOn with
  | _ n ih =>
    by_cases h : n = 0
    · subst h; rw [ln_zero]; exact nok_nil
    · rw [ln_pos h]
      exact nok_cons (by omega) (by omega) (ih _ (by omega))
theorem nv_append (a b : List Int) : nv (a ++ b) = nv a + 65536 ^ a.length * nv b := by
  induction a with
  | nil => simp [nv]
  | cons d a ih =>
    show d.toNat + 65536 * nv (a ++ b) = d.toNat + 65536 * nv a + 65536 ^ (a.length + 1) * nv b
    rw [ih, Nat.mul_add, Nat.pow_succ, Nat.mul_comm (65536 ^ a.length) 65536, Nat.mul_assoc, Nat.add_assoc]
theorem nv_one (d : Int) : nv [d] = d.toNat := by simp [nv]
theorem nv_lt {l : List Int} (h : nok l) : nv l < 65536 ^ l.length := by
  induction l with
  | nil => simp [nv]
  | cons d l ih =>
    have h1 := ih (fun e he => h e (List.mem_cons_of_mem _ he))
    have h2 := h d (List.mem_cons_self ..)
    show d.toNat + 65536 * nv l < 65536 ^ (l.length + 1)
    rw [Nat.pow_succ]
    omega
theorem ln_length {n L : Nat} (h : n < 65536 ^ L) : (ln n).length ≤ L := by
  induction L generalizing n with
  | zero => rw [Nat.pow_zero] at h; have : n = 0 := by omega
            subst this; rw [ln_zero]; exact Nat.le_refl _
  | succ L ih =>
    by_cases h0 : n = 0
    · subst h0; rw [ln_zero]; exact Nat.zero_le _
    · rw [ln_pos h0]
      rw [Nat.pow_succ] at h
      have := ih (n := n / 65536) (by omega)
      simp only [List.length_cons]
      omega
theorem p16 (i : Nat) : 0 < 65536 ^ i := Nat.pow_pos (by decide)
theorem ln_lt_iff {n i : Nat} : i < (ln n).length ↔ 65536 ^ i ≤ n := by
  constructor
  · intro h
    rcases Nat.lt_or_ge n (65536 ^ i) with h1 | h1
    · have := ln_length h1; omega
    · exact h1
  · intro h
    rcases Nat.lt_or_ge i (ln n).length with h1 | h1
    · exact h1
    · have h2 := nv_lt (nok_ln n)
      rw [nv_ln] at h2
      have := Nat.pow_le_pow_right (n := 65536) (by omega) h1
      omega
theorem canon {t : List Int} (h : nok t) (hl : t = [] ∨ ∃ a d, t = a ++ [d] ∧ d ≠ 0) : t = ln (nv t) := by
  induction t with
  | nil => show [] = ln 0; rw [ln_zero]
  | cons d t ih =>
    have hd := h d (List.mem_cons_self ..)
    have ht : nok t := fun e he => h e (List.mem_cons_of_mem _ he)
    obtain ⟨a, e, he, hne⟩ := hl.resolve_left (by simp)
    cases a with
    | nil =>
      simp only [List.nil_append, List.cons.injEq] at he
      obtain ⟨rfl, rfl⟩ := he
      rw [nv_one, ln_pos (by omega), show d.toNat / 65536 = 0 by omega, ln_zero]
      congr 1
      omega
    | cons b a =>
      simp only [List.cons_append, List.cons.injEq] at he
      obtain ⟨rfl, rfl⟩ := he
      have h2 := ih ht (.inr ⟨a, e, rfl, hne⟩)
      have h3 : nv (a ++ [e]) ≠ 0 := by
        intro h0
        rw [h0, ln_zero] at h2
        simp at h2
      show d :: (a ++ [e]) = ln (d.toNat + 65536 * nv (a ++ [e]))
      rw [ln_pos (by omega), show (d.toNat + 65536 * nv (a ++ [e])) / 65536 = nv (a ++ [e]) by omega, ← h2]
      congr 1
      omega
theorem getD_nv {l : List Int} (h : nok l) (i : Nat) : l.getD i 0 = ((nv l / 65536 ^ i % 65536 : Nat) : Int) := by
  induction l generalizing i with
  | nil => simp [nv]
  | cons d l ih =>
    have hd := h d (List.mem_cons_self ..)
    have hl : nok l := fun e he => h e (List.mem_cons_of_mem _ he)
    cases i with
    | zero =>
      show d = ((d.toNat + 65536 * nv l) / 65536 ^ 0 % 65536 : Nat)
      rw [Nat.pow_zero, Nat.div_one]
      omega
    | succ i =>
      show l.getD i 0 = ((d.toNat + 65536 * nv l) / 65536 ^ (i + 1) % 65536 : Nat)
      rw [ih hl i, Nat.pow_succ', ← Nat.div_div_eq_div_mul, show (d.toNat + 65536 * nv l) / 65536 = nv l by omega]
theorem rd_nv {l : List Int} (h : nok l) (i : Nat) : rd l (i : Int) = ((nv l / 65536 ^ i % 65536 : Nat) : Int) := by
  unfold rd
  rw [Int.toNat_natCast]
  exact getD_nv h i
theorem rd_ln (n i : Nat) : rd (ln n) (i : Int) = ((n / 65536 ^ i % 65536 : Nat) : Int) := by
  rw [rd_nv (nok_ln n), nv_ln]
theorem div_step (n i : Nat) : n / 65536 ^ i = n / 65536 ^ i % 65536 + 65536 * (n / 65536 ^ (i + 1)) := by
  rw [Nat.pow_succ, ← Nat.div_div_eq_div_mul]
  omega
theorem div_zero_of {n i : Nat} (h : ¬ 65536 ^ i ≤ n) : n / 65536 ^ i = 0 := Nat.div_eq_of_lt (by omega)
theorem w1 {i : Nat} (h : i < 4000000000000000000) : wrap64 ((i : Int) + 1) = ((i + 1 : Nat) : Int) := by unfold wrap64; omega
end Go.Proofs.Ytbgefpeicmbgiaa
end
section
namespace Go.Proofs.Ytbgefpeicmbgiaa
set_option linter.unusedVariables false
set_option linter.unusedSimpArgs false
open Go.RowKit X Go.Proofs.YtbgefpeicmbgiaaW.PrintWords
theorem at_nat {l : List Int} (h : nok l) (i : Nat) : r2_at.f l (i : Int) = some ((nv l / 65536 ^ i % 65536 : Nat) : Int) := by
  unfold r2_at.f
  rw [if_pos (by omega)]
  by_cases hi : (i : Int) < (l.length : Int)
  · rw [if_pos hi, if_pos (by omega), rd_nv h]
  · rw [if_neg hi]
    have h1 := nv_lt h
    have h2 : 65536 ^ l.length ≤ 65536 ^ i := Nat.pow_le_pow_right (by omega) (by omega)
    rw [Nat.div_eq_of_lt (by omega)]
    rfl
theorem at_ln (n i : Nat) : r2_at.f (ln n) (i : Int) = some ((n / 65536 ^ i % 65536 : Nat) : Int) := by rw [at_nat (nok_ln n), nv_ln]
theorem trim_loop {l : List Int} (h : nok l) (hl : l.length < 4000000000000000000) : ∀ m : Nat, m ≤ l.length → nv (l.drop m) = 0 → Ev (fun k => r2_trim.l0 k l (m : Int)) (ln (nv l)) := by
  intro m
  induction m with
  | zero =>
    intro _ h0
    refine Ev.step (f := fun _ => some (ln (nv l))) (fun k => ?_) (Ev.now _)
    simp only [r2_trim.l0]
    rw [if_neg (by omega), if_pos (by omega), if_pos (by omega)]
    rw [List.drop_zero] at h0
    rw [h0, ln_zero]
    rfl
  | succ m ih =>
    intro hm h0
    have hm' : m < l.length := by omega
    have e1 : wrap64 (((m + 1 : Nat) : Int) - 1) = (m : Int) := by unfold wrap64; omega
    have e2 : rd l (m : Int) = l[m] := by unfold rd; rw [Int.toNat_natCast]; simp [hm']
    have hd := h l[m] (List.getElem_mem hm')
    by_cases z : l[m] = 0
    · refine Ev.step (f := fun k => r2_trim.l0 k l (m : Int)) (fun k => ?_) (ih (by omega) ?_)
      · simp only [r2_trim.l0]
        rw [if_pos (by omega), e1, if_pos (by omega), if_pos (by omega), e2, if_pos z]
      · rw [List.drop_eq_getElem_cons hm']
        show l[m].toNat + 65536 * nv (l.drop (m + 1)) = 0
        rw [h0, z]
        rfl
    · refine Ev.step (f := fun _ => some (ln (nv l))) (fun k => ?_) (Ev.now _)
      simp only [r2_trim.l0]
      rw [if_pos (by omega), e1, if_pos (by omega), if_pos (by omega), e2, if_neg z, if_pos (by omega), if_pos (by omega)]
      have e3 : nv l = nv (l.take (m + 1)) := by
        conv => lhs; rw [← List.take_append_drop (m + 1) l]
        rw [nv_append, h0, Nat.mul_zero, Nat.add_zero]
      have e4 := List.take_succ_eq_append_getElem hm'
      rw [e3, Int.toNat_natCast]
      refine congrArg some (canon (fun d hd => h d (List.mem_of_mem_take hd)) (.inr ⟨_, _, e4, z⟩))
theorem trim_ev {l : List Int} (h : nok l) (hl : l.length < 4000000000000000000) : Ev (fun k => r2_trim.f k l) (ln (nv l)) :=
  Ev.congr (fun k => rfl) (trim_loop h hl l.length (Nat.le_refl _) (by rw [List.drop_length]; rfl))
theorem trim_to {l : List Int} {n : Nat} (h : nok l) (hl : l.length < 4000000000000000000) (hn : nv l = n) : Ev (fun k => (r2_trim.f k l).bind fun t => some t) (ln n) := by
  subst hn
  exact Ev.bind (trim_ev h hl) (Ev.now _)
theorem of_ev {n : Int} (h : U n) : Ev (fun k => r2_Of.f k n) (ln n.toNat) := by
  unfold U at h
  have w : ∀ z : Int, 0 ≤ z → z ≤ 18446744073709551615 → IntKind.u64.wrap z = z := fun z h0 h1 => by rw [IntKind.wrap_u64]; omega
  refine Ev.congr (fun k => rfl) ?_
  have e : ([(Int.tmod n 65536) % 4294967296, (Int.tmod (IntKind.u64.wrap (Int.tdiv n 65536)) 65536) % 4294967296, (Int.tmod (IntKind.u64.wrap (Int.tdiv n 4294967296)) 65536) % 4294967296, (IntKind.u64.wrap (Int.tdiv n 281474976710656)) % 4294967296] : List Int) = [n % 65536, n / 65536 % 65536, n / 4294967296 % 65536, n / 281474976710656] := by
    rw [Int.tdiv_eq_ediv_of_nonneg h.1, Int.tdiv_eq_ediv_of_nonneg h.1, Int.tdiv_eq_ediv_of_nonneg h.1, w _ (by omega) (by omega), w _ (by omega) (by omega), w _ (by omega) (by omega), Int.tmod_eq_emod_of_nonneg h.1, Int.tmod_eq_emod_of_nonneg (by omega), Int.tmod_eq_emod_of_nonneg (by omega)]
    congr 1
    · omega
    · congr 1
      · omega
      · congr 1
        · omega
        · congr 1
          omega
  have := trim_to (l := [n % 65536, n / 65536 % 65536, n / 4294967296 % 65536, n / 281474976710656]) (n := n.toNat)
    (nok_cons (by omega) (by omega) (nok_cons (by omega) (by omega) (nok_cons (by omega) (by omega) (nok_one (by omega) (by omega))))) (by simp) (by simp only [nv]; omega)
  rw [← e] at this
  exact this
section
variable {x y B : Nat}
theorem len_pos {i : Nat} (h : 65536 ^ i ≤ x) : (i : Int) < ((ln x).length : Int) := by have := ln_lt_iff.2 h; omega
theorem len_neg {i : Nat} (h : ¬ 65536 ^ i ≤ x) : ¬ (i : Int) < ((ln x).length : Int) := by have := mt ln_lt_iff.1 h; omega
theorem pw_step (i s a : Nat) : 65536 ^ i * s + 65536 ^ (i + 1) * a = 65536 ^ i * (s + 65536 * a) := by rw [Nat.mul_add, Nat.pow_succ, Nat.mul_assoc]
theorem add_loop (hB : B ≤ 1000000) (hx : x < 65536 ^ B) (hy : y < 65536 ^ B) : ∀ (d i c : Nat) (out : List Int), i + d = B + 1 → nok out → out.length = i → c ≤ 1 →
    nv out + 65536 ^ i * (c + x / 65536 ^ i + y / 65536 ^ i) = x + y → Ev (fun k => r2_Add.l0 k (ln x) (ln y) out (c : Int) (i : Int)) (ln (x + y)) := by
  intro d
  induction d with
  | zero =>
    intro i c out hi hok hlen hc hv
    have hP : 65536 ^ i = 65536 ^ B * 65536 := by rw [show i = B + 1 by omega, Nat.pow_succ]
    have h1 : ¬ 65536 ^ i ≤ x := by omega
    have h2 : ¬ 65536 ^ i ≤ y := by omega
    rw [div_zero_of h1, div_zero_of h2] at hv
    simp only [Nat.add_zero] at hv
    have hc0 : c = 0 := by
      rcases Nat.lt_or_ge 0 c with g | g
      · have : 65536 ^ i * 1 ≤ 65536 ^ i * c := Nat.mul_le_mul_left _ g
        omega
      · omega
    subst hc0
    refine Ev.step (f := fun k => r2_Add.j1 k (ln x) (ln y) out ((0 : Nat) : Int) (i : Int) false) (fun k => ?_) (Ev.step (f := fun k => (r2_trim.f k out).bind fun t => some t) (fun k => ?_) (trim_to hok (by omega) (by omega)))
    · simp only [r2_Add.l0]
      rw [if_neg (len_neg h1), if_neg (len_neg h2)]
      rfl
    · simp only [r2_Add.j1]
      rw [if_neg (by decide)]
  | succ d ih =>
    intro i c out hi hok hlen hc hv
    by_cases ct : 65536 ^ i ≤ x ∨ 65536 ^ i ≤ y ∨ 0 < c
    · refine Ev.step (f := fun k => r2_Add.j1 k (ln x) (ln y) out (c : Int) (i : Int) true) (fun k => ?_) (Ev.step (f := fun k => r2_Add.l0 k (ln x) (ln y) (out ++ [(((c + x / 65536 ^ i % 65536 + y / 65536 ^ i % 65536) % 65536 : Nat) : Int)]) (((c + x / 65536 ^ i % 65536 + y / 65536 ^ i % 65536) / 65536 : Nat) : Int) ((i + 1 : Nat) : Int)) (fun k => ?_) (ih _ _ _ (by omega) (nok_append hok (nok_one (by omega) (by omega))) (by simp [hlen]) (by omega) ?_))
      · simp only [r2_Add.l0]
        by_cases h1 : 65536 ^ i ≤ x
        · rw [if_pos (len_pos h1)]
        · rw [if_neg (len_neg h1)]
          by_cases h2 : 65536 ^ i ≤ y
          · rw [if_pos (len_pos h2)]
          · rw [if_neg (len_neg h2), decide_eq_true (by omega)]
      · simp only [r2_Add.j1]
        rw [if_pos trivial, at_ln, at_ln]
        simp only [Option.bind_some]
        have eD : ((c : Int) + ((x / 65536 ^ i % 65536 : Nat) : Int) + ((y / 65536 ^ i % 65536 : Nat) : Int)) % 65536 = (((c + x / 65536 ^ i % 65536 + y / 65536 ^ i % 65536) % 65536 : Nat) : Int) := by omega
        have eC : (((c : Int) + ((x / 65536 ^ i % 65536 : Nat) : Int) + ((y / 65536 ^ i % 65536 : Nat) : Int)) % 4294967296) / 65536 = (((c + x / 65536 ^ i % 65536 + y / 65536 ^ i % 65536) / 65536 : Nat) : Int) := by omega
        rw [if_pos (by omega), w1 (by omega), eD, eC]
      · have hx' := div_step x i
        have hy' := div_step y i
        rw [nv_append, hlen, nv_one, Int.toNat_natCast, Nat.add_assoc, pw_step, ← hv]
        congr 2
        omega
    · have h1 : ¬ 65536 ^ i ≤ x := fun h => ct (.inl h)
      have h2 : ¬ 65536 ^ i ≤ y := fun h => ct (.inr (.inl h))
      have h3 : c = 0 := by have : ¬ 0 < c := fun h => ct (.inr (.inr h)); omega
      subst h3
      rw [div_zero_of h1, div_zero_of h2] at hv
      simp only [Nat.add_zero, Nat.mul_zero] at hv
      refine Ev.step (f := fun k => r2_Add.j1 k (ln x) (ln y) out ((0 : Nat) : Int) (i : Int) false) (fun k => ?_) (Ev.step (f := fun k => (r2_trim.f k out).bind fun t => some t) (fun k => ?_) (trim_to hok (by omega) hv))
      · simp only [r2_Add.l0]
        rw [if_neg (len_neg h1), if_neg (len_neg h2)]
        rfl
      · simp only [r2_Add.j1]
        rw [if_neg (by decide)]
theorem add_ev (hB : B ≤ 1000000) (hx : x < 65536 ^ B) (hy : y < 65536 ^ B) : Ev (fun k => r2_Add.f k (ln x) (ln y)) (ln (x + y)) :=
  Ev.congr (fun k => rfl) (add_loop hB hx hy (B + 1) 0 0 [] (by omega) nok_nil rfl (by omega) (by simp [nv]))
theorem sub_loop (hB : B ≤ 1000000) (hx : x < 65536 ^ B) (hy : y ≤ x) : ∀ (d i c : Nat) (out : List Int), i + d = B + 1 → nok out → out.length = i → c ≤ 1 →
    nv out + 65536 ^ i * (x / 65536 ^ i) + y = x + 65536 ^ i * (y / 65536 ^ i + c) → Ev (fun k => r2_Sub.l0 k (ln x) (ln y) out (c : Int) (i : Int)) (ln (x - y)) := by
  have fin : ∀ (i c : Nat) (out : List Int), i ≤ B + 1 → nok out → out.length = i → nv out + 65536 ^ i * (x / 65536 ^ i) + y = x + 65536 ^ i * (y / 65536 ^ i + c) → ¬ 65536 ^ i ≤ x → Ev (fun k => r2_Sub.l0 k (ln x) (ln y) out (c : Int) (i : Int)) (ln (x - y)) := by
    intro i c out hi hok hlen hv h1
    have h2 : ¬ 65536 ^ i ≤ y := by omega
    have h3 := nv_lt hok
    rw [hlen] at h3
    rw [div_zero_of h1, div_zero_of h2] at hv
    simp only [Nat.add_zero, Nat.mul_zero, Nat.zero_add] at hv
    have hc0 : c = 0 := by
      rcases Nat.lt_or_ge 0 c with g | g
      · have : 65536 ^ i * 1 ≤ 65536 ^ i * c := Nat.mul_le_mul_left _ g
        omega
      · omega
    subst hc0
    refine Ev.step (f := fun k => (r2_trim.f k out).bind fun t => some t) (fun k => ?_) (trim_to hok (by omega) (by omega))
    simp only [r2_Sub.l0]
    rw [if_neg (len_neg h1)]
  intro d
  induction d with
  | zero =>
    intro i c out hi hok hlen hc hv
    have hP : 65536 ^ i = 65536 ^ B * 65536 := by rw [show i = B + 1 by omega, Nat.pow_succ]
    exact fin i c out (by omega) hok hlen hv (by omega)
  | succ d ih =>
    intro i c out hi hok hlen hc hv
    by_cases h1 : 65536 ^ i ≤ x
    · have hx' := div_step x i
      have hy' := div_step y i
      generalize hX : x / 65536 ^ (i + 1) = X at *
      generalize hY : y / 65536 ^ (i + 1) = Y at *
      generalize hdx : x / 65536 ^ i % 65536 = dx at *
      generalize hdy : y / 65536 ^ i % 65536 = dy at *
      have bx : dx < 65536 := by omega
      have byy : dy < 65536 := by omega
      refine Ev.step (f := fun k => r2_Sub.l0 k (ln x) (ln y) (out ++ [(((65536 + dx - dy - c) % 65536 : Nat) : Int)]) ((1 - (65536 + dx - dy - c) / 65536 : Nat) : Int) ((i + 1 : Nat) : Int)) (fun k => ?_) (ih _ _ _ (by omega) (nok_append hok (nok_one (by omega) (by omega))) (by simp [hlen]) (by omega) ?_)
      · simp only [r2_Sub.l0]
        rw [if_pos (len_pos h1), at_ln, at_ln]
        simp only [Option.bind_some]
        have eD : (65536 + (dx : Int) - (dy : Int) - (c : Int)) % 65536 = (((65536 + dx - dy - c) % 65536 : Nat) : Int) := by omega
        have eC : (1 - (((65536 + (dx : Int) - (dy : Int) - (c : Int)) % 4294967296) / 65536)) % 4294967296 = ((1 - (65536 + dx - dy - c) / 65536 : Nat) : Int) := by omega
        rw [if_pos (by omega), w1 (by omega), hdx, hdy, eD, eC]
      · rw [nv_append, hlen, nv_one, Int.toNat_natCast, hX, hY]
        rw [hx', hy'] at hv
        have key : (65536 + dx - dy - c) % 65536 + dy + c = dx + 65536 * (1 - (65536 + dx - dy - c) / 65536) := by omega
        generalize (65536 + dx - dy - c) % 65536 = s at *
        generalize 1 - (65536 + dx - dy - c) / 65536 = c' at *
        have key2 := congrArg (65536 ^ i * ·) key
        simp only [Nat.mul_add, Nat.pow_succ, Nat.mul_assoc] at *
        omega
    · exact fin i c out (by omega) hok hlen hv h1
theorem sub_ev (hB : B ≤ 1000000) (hx : x < 65536 ^ B) (hy : y ≤ x) : Ev (fun k => r2_Sub.f k (ln x) (ln y)) (ln (x - y)) :=
  Ev.congr (fun k => rfl) (sub_loop hB hx hy (B + 1) 0 0 [] (by omega) nok_nil rfl (by omega) (by simp [nv]))
theorem cmp_loop (x y : Nat) : ∀ m : Nat, m < 4000000000000000000 → x / 65536 ^ m = y / 65536 ^ m → Ev (fun k => r2_Cmp.l0 k (ln x) (ln y) ((m : Int) - 1)) (cmpI x y) := by
  intro m
  induction m with
  | zero =>
    intro _ h
    rw [Nat.pow_zero, Nat.div_one, Nat.div_one] at h
    subst h
    refine Ev.step (f := fun _ => some (cmpI x x)) (fun k => ?_) (Ev.now _)
    simp only [r2_Cmp.l0]
    rw [if_neg (by omega)]
    unfold cmpI
    rw [if_neg (by omega), if_neg (by omega)]
  | succ m ih =>
    intro hm h
    have hx' := div_step x m
    have hy' := div_step y m
    rw [h] at hx'
    have e : ((m + 1 : Nat) : Int) - 1 = (m : Int) := by omega
    rw [e]
    have lt_of : ∀ {a b : Nat}, a / 65536 ^ m < b / 65536 ^ m → a < b := fun {a b} h => by
      rcases Nat.lt_or_ge a b with g | g
      · exact g
      · have := Nat.div_le_div_right (c := 65536 ^ m) g; omega
    by_cases c1 : x / 65536 ^ m % 65536 < y / 65536 ^ m % 65536
    · refine Ev.step (f := fun _ => some (cmpI x y)) (fun k => ?_) (Ev.now _)
      simp only [r2_Cmp.l0]
      rw [if_pos (by omega), at_ln, at_ln]
      simp only [Option.bind_some]
      rw [if_pos (by omega)]
      unfold cmpI
      rw [if_pos (lt_of (by omega))]
    · by_cases c2 : y / 65536 ^ m % 65536 < x / 65536 ^ m % 65536
      · refine Ev.step (f := fun _ => some (cmpI x y)) (fun k => ?_) (Ev.now _)
        simp only [r2_Cmp.l0]
        rw [if_pos (by omega), at_ln, at_ln]
        simp only [Option.bind_some]
        rw [if_neg (by omega), if_pos (by omega)]
        have : y < x := lt_of (by omega)
        unfold cmpI
        rw [if_neg (by omega), if_pos this]
      · refine Ev.step (f := fun k => r2_Cmp.l0 k (ln x) (ln y) ((m : Int) - 1)) (fun k => ?_) (ih (by omega) (by omega))
        simp only [r2_Cmp.l0]
        rw [if_pos (by omega), at_ln, at_ln]
        simp only [Option.bind_some]
        rw [if_neg (by omega), if_neg (by omega)]
        congr 1
        unfold wrap64
        omega
theorem cmp_ev (hB : B ≤ 1000000) (hx : x < 65536 ^ B) (hy : y < 65536 ^ B) : Ev (fun k => r2_Cmp.f k (ln x) (ln y)) (cmpI x y) := by
  have lx := ln_length hx
  have ly := ln_length hy
  have zx : x / 65536 ^ (ln x).length = 0 := div_zero_of (mt ln_lt_iff.2 (by omega))
  have zy : y / 65536 ^ (ln y).length = 0 := div_zero_of (mt ln_lt_iff.2 (by omega))
  have up : ∀ {n i j : Nat}, i ≤ j → n / 65536 ^ i = 0 → n / 65536 ^ j = 0 := fun {n i j} h z => by
    have h1 := Nat.pow_le_pow_right (n := 65536) (by omega) h
    have h2 := p16 i
    rw [Nat.div_eq_zero_iff] at z ⊢
    omega
  by_cases h : (ln x).length < (ln y).length
  · refine Ev.congr (f := fun k => r2_Cmp.l0 k (ln x) (ln y) (((ln y).length : Int) - 1)) (fun k => ?_) (cmp_loop x y _ (by omega) (by rw [zy, up (Nat.le_of_lt h) zx]))
    unfold r2_Cmp.f
    rw [if_pos (by omega)]
    congr 1
    unfold wrap64
    omega
  · refine Ev.congr (f := fun k => r2_Cmp.l0 k (ln x) (ln y) (((ln x).length : Int) - 1)) (fun k => ?_) (cmp_loop x y _ (by omega) (by rw [zx, up (by omega) zy]))
    unfold r2_Cmp.f
    rw [if_neg (by omega)]
    congr 1
    unfold wrap64
    omega
theorem blen_half {t : Nat} (h : t ≠ 0) : blen t = blen (t / 2) + 1 := by
  by_cases h1 : t / 2 = 0
  · have : t = 1 := by omega
    subst this; decide
  · have g1 := blen_le h1
    have g2 := blen_lt (t / 2)
    have g3 := blen_pos h1
    refine blen_eq ?_ ?_
    · rw [show blen (t / 2) = (blen (t / 2) - 1) + 1 by omega, Nat.pow_succ]; omega
    · rw [Nat.pow_succ]; omega
theorem len_loop : ∀ (t n : Nat), t < 4294967296 → n < 4000000000000000000 - blen t → Ev (fun k => r2_Len.l0 k (n : Int) (t : Int)) ((n + blen t : Nat) : Int) := by
  intro t
  induction t using Nat.strongRecOn with
  | _ t ih =>
    intro n ht hn
    by_cases h : t = 0
    · subst h
      refine Ev.step (f := fun _ => some _) (fun k => ?_) (Ev.now _)
      simp only [r2_Len.l0]
      rw [if_neg (by omega)]
      rfl
    · have hb := blen_half h
      have := ih (t / 2) (by omega) (n + 1) (by omega) (by omega)
      rw [show n + 1 + blen (t / 2) = n + blen t by omega] at this
      refine Ev.step (f := fun k => r2_Len.l0 k ((n + 1 : Nat) : Int) ((t / 2 : Nat) : Int)) (fun k => ?_) this
      simp only [r2_Len.l0]
      rw [if_pos (by omega), w1 (by omega), Int.tdiv_eq_ediv_of_nonneg (by omega)]
      congr 1
      omega
theorem blen_parts {L : Nat} (h1 : 65536 ^ L ≤ x) (h2 : x / 65536 ^ L < 65536) : blen x = 16 * L + blen (x / 65536 ^ L) := by
  have e : 65536 ^ L = 2 ^ (16 * L) := by rw [Nat.pow_mul]
  rw [e] at h1 ⊢
  exact blen_shift x (16 * L) (Nat.ne_of_gt (Nat.div_pos h1 (Nat.two_pow_pos _)))
theorem len_ev (hB : B ≤ 1000000) (hx : x < 65536 ^ B) : Ev (fun k => r2_Len.f k (ln x)) (blen x : Int) := by
  have lx := ln_length hx
  by_cases h0 : x = 0
  · subst h0
    refine Ev.congr (f := fun _ => some _) (fun k => ?_) (Ev.now _)
    unfold r2_Len.f
    rw [ln_zero]
    rfl
  · have h1 : 0 < (ln x).length := ln_lt_iff.2 (by rw [Nat.pow_zero]; omega)
    obtain ⟨L, hL⟩ : ∃ L, (ln x).length = L + 1 := ⟨(ln x).length - 1, by omega⟩
    have g1 : 65536 ^ L ≤ x := ln_lt_iff.1 (by omega)
    have g2 : ¬ 65536 ^ (L + 1) ≤ x := mt ln_lt_iff.2 (by omega)
    have g3 : x / 65536 ^ L < 65536 := by rw [Nat.pow_succ] at g2; exact Nat.div_lt_of_lt_mul (by omega)
    have hb := blen_parts g1 g3
    have hb2 : blen (x / 65536 ^ L) ≤ 16 := blen_le_iff.2 g3
    have hl := len_loop (x / 65536 ^ L) (16 * L) (by omega) (by omega)
    rw [← hb] at hl
    refine Ev.congr (f := fun k => r2_Len.l0 k ((16 * L : Nat) : Int) ((x / 65536 ^ L : Nat) : Int)) (fun k => ?_) hl
    unfold r2_Len.f
    have e1 : wrap64 (((ln x).length : Int) - 1) = (L : Int) := by unfold wrap64; omega
    have e2 : wrap64 (16 * (L : Int)) = ((16 * L : Nat) : Int) := by unfold wrap64; omega
    rw [if_neg (by omega), e1, if_pos (by omega), if_pos (by omega), rd_ln, e2, Nat.mod_eq_of_lt g3]
theorem low_loop (x : Nat) : ∀ m : Nat, m ≤ (ln x).length → m ≤ 4 → Ev (fun k => r2_Low.l0 k (ln x) ((x % 18446744073709551616 / 65536 ^ m : Nat) : Int) ((m : Int) - 1)) ((x % 18446744073709551616 : Nat) : Int) := by
  intro m
  induction m with
  | zero =>
    intro _ _
    refine Ev.step (f := fun _ => some _) (fun k => ?_) (Ev.now _)
    simp only [r2_Low.l0]
    rw [if_neg (by omega), Nat.pow_zero, Nat.div_one]
  | succ m ih =>
    intro hm h4
    refine Ev.step (f := fun k => r2_Low.l0 k (ln x) ((x % 18446744073709551616 / 65536 ^ m : Nat) : Int) ((m : Int) - 1)) (fun k => ?_) (ih (by omega) (by omega))
    have e : ((m + 1 : Nat) : Int) - 1 = (m : Int) := by omega
    have hd := div_step (x % 18446744073709551616) m
    have e2 : x % 18446744073709551616 / 65536 ^ m % 65536 = x / 65536 ^ m % 65536 := by
      have h5 : m = 0 ∨ m = 1 ∨ m = 2 ∨ m = 3 := by omega
      rcases h5 with rfl | rfl | rfl | rfl
      · rw [Nat.pow_zero]; omega
      · rw [Nat.pow_one]; omega
      · rw [show 65536 ^ 2 = 4294967296 from rfl]; omega
      · rw [show 65536 ^ 3 = 281474976710656 from rfl]; omega
    have hb : x % 18446744073709551616 / 65536 ^ m < 18446744073709551616 := Nat.lt_of_le_of_lt (Nat.div_le_self _ _) (Nat.mod_lt _ (by decide))
    simp only [r2_Low.l0]
    rw [e, if_pos (by omega), if_pos (by omega), if_pos (by omega), rd_ln]
    congr 1
    · simp only [IntKind.wrap_u64]
      omega
    · unfold wrap64; omega
theorem low_ev (x : Nat) (hl : (ln x).length < 4000000000000000000) : Ev (fun k => r2_Low.f k (ln x)) ((x % 18446744073709551616 : Nat) : Int) := by
  by_cases h : 4 < (ln x).length
  · have := low_loop x 4 (by omega) (by omega)
    rw [show x % 18446744073709551616 / 65536 ^ 4 = 0 by rw [show 65536 ^ 4 = 18446744073709551616 from rfl]; omega] at this
    refine Ev.congr (fun k => ?_) this
    unfold r2_Low.f
    rw [if_pos (by omega)]
    rfl
  · have hx : x < 65536 ^ (ln x).length := by have := nv_lt (nok_ln x); rwa [nv_ln] at this
    have h4 : 65536 ^ (ln x).length ≤ 65536 ^ 4 := Nat.pow_le_pow_right (by omega) (by omega)
    rw [show 65536 ^ 4 = 18446744073709551616 from rfl] at h4
    have := low_loop x (ln x).length (by omega) (by omega)
    rw [show x % 18446744073709551616 / 65536 ^ (ln x).length = 0 by rw [Nat.mod_eq_of_lt (by omega)]; exact Nat.div_eq_of_lt hx] at this
    refine Ev.congr (fun k => ?_) this
    unfold r2_Low.f
    rw [if_neg (by omega)]
    congr 1
    unfold wrap64
    omega
theorem bit_loop (n : Nat) (hn : n < 4000000000000000000) : ∀ (d j t : Nat), j + d = n % 16 → t < 65536 → Ev (fun k => r2_Bit.l0 k (n : Int) (t : Int) (j : Int)) ((t / 2 ^ d % 2 : Nat) : Int) := by
  intro d
  have em : Int.tmod (n : Int) 16 = ((n % 16 : Nat) : Int) := by rw [Int.tmod_eq_emod_of_nonneg (by omega)]; omega
  induction d with
  | zero =>
    intro j t hj ht
    refine Ev.step (f := fun _ => some _) (fun k => ?_) (Ev.now _)
    simp only [r2_Bit.l0]
    rw [em, if_neg (by omega), Int.tmod_eq_emod_of_nonneg (by omega), Nat.pow_zero, Nat.div_one]
    congr 1
    unfold wrap64
    omega
  | succ d ih =>
    intro j t hj ht
    have := ih (j + 1) (t / 2) (by omega) (by omega)
    rw [Nat.div_div_eq_div_mul, ← Nat.pow_succ'] at this
    refine Ev.step (f := fun k => r2_Bit.l0 k (n : Int) ((t / 2 : Nat) : Int) ((j + 1 : Nat) : Int)) (fun k => ?_) this
    simp only [r2_Bit.l0]
    rw [em, if_pos (by omega), w1 (by omega), Int.tdiv_eq_ediv_of_nonneg (by omega)]
    congr 1
    omega
theorem pow_16 (n : Nat) : 65536 ^ (n / 16) * 2 ^ (n % 16) = 2 ^ n := by
  rw [show (65536 : Nat) = 2 ^ 16 from rfl, ← Nat.pow_mul, ← Nat.pow_add]
  congr 1
  omega
theorem bit_ev (x n : Nat) (hn : n < 4000000000000000000) : Ev (fun k => r2_Bit.f k (ln x) (n : Int)) ((x / 2 ^ n % 2 : Nat) : Int) := by
  have e : wrap64 (Int.tdiv (n : Int) 16) = ((n / 16 : Nat) : Int) := by rw [Int.tdiv_eq_ediv_of_nonneg (by omega)]; unfold wrap64; omega
  have := bit_loop n hn (n % 16) 0 (x / 65536 ^ (n / 16) % 65536) (by omega) (by omega)
  have e2 : x / 65536 ^ (n / 16) % 65536 / 2 ^ (n % 16) % 2 = x / 2 ^ n % 2 := by
    rw [← pow_16 n, ← Nat.div_div_eq_div_mul]
    generalize x / 65536 ^ (n / 16) = z
    have h16 : n % 16 < 16 := by omega
    generalize n % 16 = r at *
    have h5 : r = 0 ∨ r = 1 ∨ r = 2 ∨ r = 3 ∨ r = 4 ∨ r = 5 ∨ r = 6 ∨ r = 7 ∨ r = 8 ∨ r = 9 ∨ r = 10 ∨ r = 11 ∨ r = 12 ∨ r = 13 ∨ r = 14 ∨ r = 15 := by omega
    rcases h5 with rfl | rfl | rfl | rfl | rfl | rfl | rfl | rfl | rfl | rfl | rfl | rfl | rfl | rfl | rfl | rfl <;> simp <;> omega
  rw [e2] at this
  refine Ev.congr (fun k => ?_) this
  unfold r2_Bit.f
  rw [e, at_ln]
  rfl
end
end Go.Proofs.Ytbgefpeicmbgiaa
end
section
namespace Go.Proofs.Ytbgefpeicmbgiaa.X
open Go.RowKit Go.Proofs.YtbgefpeicmbgiaaW.PrintWords Go.Proofs.YtbgefpeicmbgiaaW.PrintLast Go.Proofs.YtbgefpeicmbgiaaW.PrintMore
attribute [local go_sem] max2_int min2_int max_two min_two max_three min_three max_four min_four   
set_option linter.unusedVariables false
set_option linter.unusedSimpArgs false
def r4_Pattern.f (k : Nat) (a0 : Int) : Option (Bool × Int × List Int) := (r3_Take.f a0).bind fun qb => ((r2_Of.f k qb.2.2.2).bind fun q7 => (some (qb.1, qb.2.2.1, q7)))
theorem r4_Pattern.mono : ∀ a0 k, LeO (r4_Pattern.f k a0) (r4_Pattern.f (k + 1) a0) := by
 intro a0 k
 unfold r4_Pattern.f
 repeat' first
  | (with_reducible exact r2_Of.mono _ _)
  | (with_reducible exact LeO.refl _)
  | (with_reducible exact LeO.none _)
  | (with_reducible refine LeO.ite ?_ ?_)
  | (with_reducible refine LeO.bind ?_ (fun _ => ?_))
  | exact r2_Of.mono _ _
  | exact LeO.none _
  | refine LeO.ite ?_ ?_
  | refine LeO.bind ?_ (fun _ => ?_)
def r4_Pattern.T2 : Bool × List (List Nat × List Nat) := (true, [([], []), ([0], [0]), ([], []), ([2], [2]), ([], []), ([4], [4]), ([5], [5]), ([1, 3, 6], [1, 3, 6]), ([7, 6, 0, 1, 2, 3, 4, 5, 6, 7], [7])])
def r4_Pattern.B2 : List Nat := [0, 1, 0, 4, 0, 16, 48, 127, 255]
theorem r4_Pattern.tab2 : rtab .any (opsOf Try.f39 2) = r4_Pattern.T2 := by kernel_rfl
theorem r4_Pattern.bits2 : waitsOk r4_Pattern.T2.2 r4_Pattern.B2 = true := by kernel_rfl
set_option maxHeartbeats 8000000 in
set_option maxRecDepth 100000 in
theorem r4_Pattern.calls (k : Nat) (a0 : Int) (r1 : Bool) (r2 : Int) (r3 : List Int) (w : World) (h : r4_Pattern.f k a0 = some (r1, r2, r3)) :
 Calls Try.prog 39 #[.int .u64 a0] w fun e w' => ∃ v2_ : Value, e = .returned (.agg #[.bool r1, .int .i64 r2, v2_]) ∧ Kd.V (Kd.int .u32) 41 w' w.heap.size (fun k_ => (w.heap.size ≤ k_)) v2_ r3 ∧ Below w.heap.size w w' := by
 have hu67 := Try.underlying67; have hu106 := Try.underlying106; have HB := Aside0.mk (Below.refl w.heap.size w); have H : ((r3_Take.f a0).bind fun qb => ((r2_Of.f k qb.2.2.2).bind fun q7 => (some (qb.1, qb.2.2.1, q7)))) = some (r1, r2, r3) := h; clear h; replace H := Option.bind_eq_some_iff.mp H; obtain ⟨⟨q4, q9, q6, q8⟩, A20, H⟩ := H; replace H : ((r2_Of.f k q8).bind fun q7 => (some (q4, q6, q7))) = some (r1, r2, r3) := H; have A2 := Aside0.mk A20; clear A20; replace H := Option.bind_eq_some_iff.mp H; obtain ⟨q7, A30, H⟩ := H; replace H : (some (q4, q6, q7)) = some (r1, r2, r3) := H; have A3 := Aside0.mk A30; clear A30
 simp only [Option.some.injEq, Prod.mk.injEq] at H
 obtain ⟨rfl, rfl, rfl⟩ := H
 go_enter Try.func39, Try.ntmps39
 try go_wp2_with (first | ((with_reducible refine gate_dst (N := 2) rfl ?_); refine box_event ?hg (N := 2) ?hd (cs := #[.bool false, .int .i64 0, .slice none 0 0]) (t := 67) ?hr ?_; (case hd => rfl); (case hg => rfl); (case hr => first | (go_simp; done) | (go_simp; rfl)); intro q0 hg w4 hbox hb; have q3 := Aside0.mk (hbox); have GW359 := Aside0.mk ((by rw [hg]; exact (below_size (kH HB)) : w.heap.size ≤ q0)); have qc := Aside0.mk ((by rw [hg]; exact (below_size (kH HB)) : w.heap.size ≤ q0)); replace HB := Aside0.mk (below_step (kH HB) hb); clear hb hbox hg) | ((with_reducible refine gate_callee (f := 72) rfl ?_); refine goesL_ (some 5) rfl rfl Try.func72 (by kernel_rfl) rfl #[.int .u64 a0] rfl LMq ?_; (with_reducible refine (r3_Take.calls a0 q4 q9 q6 q8 _ A2.out).mono ?_); rintro e w5 ⟨rfl, hb⟩; refine ⟨_, rfl, ?_⟩; replace q3 := Aside0.mk (blk_below (g := q0) (o := .cells #[.bool false, .int .i64 0, .slice none 0 0] 67 (0, 0)) (kB q3) hb); replace HB := Aside0.mk (below_step (kHs HB qc) hb); (try clear hb); (try clear hb2); (try clear hk); (try clear hi)) | ((with_reducible refine gate_dst (N := 3) rfl ?_); refine box_event ?hg (N := 3) ?hd (cs := #[.bool false, .int .i64 0, .int .i64 0, .int .u64 0]) (t := 106) ?hr ?_; (case hd => rfl); (case hg => rfl); (case hr => first | (go_simp; done) | (go_simp; rfl)); intro q1 hg w6 hbox hb; have q2 := Aside0.mk (hbox); have GW364 := Aside0.mk ((by rw [hg]; exact (below_size (kHs HB qc)) : w.heap.size ≤ q1)); have qd := Aside0.mk ((by rw [hg]; exact (below_size (kHs HB qc)) : w.heap.size ≤ q1)); replace HB := Aside0.mk (below_step (kHs HB qc) hb); have qa := Aside0.mk ((by rw [hg]; exact Nat.ne_of_lt (blk_lt (g := q0) (o := .cells #[.bool false, .int .i64 0, .slice none 0 0] 67 (0, 0)) (kB q3)) : q0 ≠ q1)); have q5 := Aside0.mk ((by rw [hg]; exact Nat.ne_of_gt (blk_lt (g := q0) (o := .cells #[.bool false, .int .i64 0, .slice none 0 0] 67 (0, 0)) (kB q3)) : q1 ≠ q0)); replace q3 := Aside0.mk (blk_below (g := q0) (o := .cells #[.bool false, .int .i64 0, .slice none 0 0] 67 (0, 0)) (kB q3) hb); clear hb hbox hg; have hnb7 := q5.out; have hnc7 := qa.out; have hcz8_0 : w6.cell? ⟨q1, 0, none⟩ = some (.bool false) := bc q2 0; have hcz8_1 : w6.cell? ⟨q1, 1, none⟩ = some (.int .i64 0) := bc q2 1; have hcz8_2 : w6.cell? ⟨q1, 2, none⟩ = some (.int .i64 0) := bc q2 2; have hcz8_3 : w6.cell? ⟨q1, 3, none⟩ = some (.int .u64 0) := bc q2 3; have hfz8_0 := blk_frozen q2.out 0; have hfz8_1 := blk_frozen q2.out 1; have hfz8_2 := blk_frozen q2.out 2; have hfz8_3 := blk_frozen q2.out 3))
 have n0_ : Aside0 (((((w6.setCell ⟨q1, 0, none⟩ (.bool q4)).setCell ⟨q1, 1, none⟩ (.int .i64 q9)).setCell ⟨q1, 2, none⟩ (.int .i64 q6)).setCell ⟨q1, 3, none⟩ (.int .u64 q8)).heap[q0]? = some (.cells #[.bool false, .int .i64 0, .slice none 0 0] 67 (0, 0))) := ⟨by (with_reducible repeat (first | refine blk_drewN ?_ _ | refine blk_drew ?_ | refine blk_alloc ?_ _)); refine blk_far ?_ qa.out _; refine blk_far ?_ qa.out _; refine blk_far ?_ qa.out _; refine blk_far ?_ qa.out _; (with_reducible repeat (first | refine blk_drewN ?_ _ | refine blk_drew ?_ | refine blk_alloc ?_ _)); exact q3.out⟩; have n1_ : Aside0 (((((w6.setCell ⟨q1, 0, none⟩ (.bool q4)).setCell ⟨q1, 1, none⟩ (.int .i64 q9)).setCell ⟨q1, 2, none⟩ (.int .i64 q6)).setCell ⟨q1, 3, none⟩ (.int .u64 q8)).heap[q1]? = some (.cells #[.bool q4, .int .i64 q9, .int .i64 q6, .int .u64 q8] 106 (0, 0))) := ⟨by (with_reducible repeat (first | refine blk_drewN ?_ _ | refine blk_drew ?_ | refine blk_alloc ?_ _)); refine blk_put (cs := #[.bool q4, .int .i64 q9, .int .i64 q6, .int .u64 0]) ?_ 3 _ rfl; refine blk_put (cs := #[.bool q4, .int .i64 q9, .int .i64 0, .int .u64 0]) ?_ 2 _ rfl; refine blk_put (cs := #[.bool q4, .int .i64 0, .int .i64 0, .int .u64 0]) ?_ 1 _ rfl; refine blk_put (cs := #[.bool false, .int .i64 0, .int .i64 0, .int .u64 0]) ?_ 0 _ rfl; (with_reducible repeat (first | refine blk_drewN ?_ _ | refine blk_drew ?_ | refine blk_alloc ?_ _)); exact q2.out⟩; have n2_ : Aside0 (Below w.heap.size w ((((w6.setCell ⟨q1, 0, none⟩ (.bool q4)).setCell ⟨q1, 1, none⟩ (.int .i64 q9)).setCell ⟨q1, 2, none⟩ (.int .i64 q6)).setCell ⟨q1, 3, none⟩ (.int .u64 q8))) := ⟨kHt HB qc qd⟩
 (try clear q3)
 (try clear q2)
 (try clear HB)
 generalize ((((w6.setCell ⟨q1, 0, none⟩ (.bool q4)).setCell ⟨q1, 1, none⟩ (.int .i64 q9)).setCell ⟨q1, 2, none⟩ (.int .i64 q6)).setCell ⟨q1, 3, none⟩ (.int .u64 q8)) = w9 at n0_ n1_ n2_ ⊢
 have q3 := n0_; have q2 := n1_; have HB := n2_; clear n0_ n1_ n2_; replace q3 := Aside0.mk (blk_drew q3.out); replace q2 := Aside0.mk (blk_drew q2.out); replace HB := Aside0.mk (below_drew1 HB.out); refine start_ (n := 9) (S := fun w' => w'.cell? ⟨q1, 0, none⟩ = some (.bool q4) ∧ w'.cell? ⟨q1, 1, none⟩ = some (.int .i64 q9) ∧ w'.cell? ⟨q1, 2, none⟩ = some (.int .i64 q6) ∧ w'.cell? ⟨q1, 3, none⟩ = some (.int .u64 q8)) (ds := []) #[false, false, false, false, false, false, false, false, false] (by kernel_rfl) rfl rfl ⟨bc q2 0, bc q2 1, bc q2 2, bc q2 3⟩ (fun hHeld => ?_); refine with_tabW r4_Pattern.tab2 r4_Pattern.bits2 (fun HT_ HW_ => ?_)
 generalize w9.drew = w10 at q3 q2 HB hHeld ⊢
 refine pure_ (i := 0) (N := some 6) (v := ?_) (a' := ?_) #[true, false, false, false, false, false, false, false, false] rfl rfl (any_of HT_.out (by kernel_rfl)) (fun _ _ _ h => h) (Or.inl ⟨by rfl, ?_⟩) ?_ ?_; rotate_left
 · intro w'
   go_simp
   with_reducible rfl
 rotate_left
 · exact APq
 refine pure_ (i := 2) (N := some 8) (v := ?_) (a' := ?_) #[true, false, true, false, false, false, false, false, false] rfl rfl (any_of HT_.out (by kernel_rfl)) (fun _ _ _ h => h) (Or.inl ⟨by rfl, ?_⟩) ?_ ?_; rotate_left
 · intro w'
   go_simp
   with_reducible rfl
 rotate_left
 · exact APq
 refine pure_ (i := 4) (N := some 10) (v := ?_) (a' := ?_) #[true, false, true, false, true, false, false, false, false] rfl rfl (any_of HT_.out (by kernel_rfl)) (fun _ _ _ h => h) (Or.inl ⟨by rfl, ?_⟩) ?_ ?_; rotate_left
 · intro w'
   go_simp
   with_reducible rfl
 rotate_left
 · exact APq
 refine take_ (i := 1) (N := some 7) (v := ?_) (a' := ?_) #[true, true, true, false, true, false, false, false, false] rfl rfl (take_ofW HT_.out HW_.out (by kernel_rfl)) (fun _ _ _ h => h) (Or.inl ⟨by rfl, ?_⟩) hHeld ?_ ?_; rotate_left
 · rintro w' ⟨s0, s1, s2, s3⟩
   go_simp
   with_reducible rfl
 rotate_left
 · exact APq
 refine take_ (i := 3) (N := some 9) (v := ?_) (a' := ?_) #[true, true, true, true, true, false, false, false, false] rfl rfl (take_ofW HT_.out HW_.out (by kernel_rfl)) (fun _ _ _ h => h) (Or.inl ⟨by rfl, ?_⟩) hHeld ?_ ?_; rotate_left
 · rintro w' ⟨s0, s1, s2, s3⟩
   go_simp
   with_reducible rfl
 rotate_left
 · exact APq
 refine take_ (i := 5) (N := some 11) (v := ?_) (a' := ?_) #[true, true, true, true, true, true, false, false, false] rfl rfl (take_ofW HT_.out HW_.out (by kernel_rfl)) (fun _ _ _ h => h) (Or.inl ⟨by rfl, ?_⟩) hHeld ?_ ?_; rotate_left
 · rintro w' ⟨s0, s1, s2, s3⟩
   go_simp
   with_reducible rfl
 rotate_left
 · exact APq
 refine one_ (i := 6) (N := some 12) #[true, true, true, true, true, true, true, false, false] rfl rfl (one_of HT_.out (by kernel_rfl)) (by decide) (fun K hK => ?_); refine goes_ Try.func33 (by kernel_rfl) rfl #[.int .u64 q8] (by rfl) rfl rfl LMq ?_
 with_reducible refine (r2_Of.calls k q8 q7 _ A3.out).mono ?_
 rintro e w11 ⟨v366, rfl, ho0, hb⟩; refine ⟨_, rfl, ?_⟩; have qe := Aside0.mk (Kd.V_lower (Kd.V_mono (ok' := fun k_ => (w.heap.size ≤ k_) ∧ k_ ≠ q0 ∧ k_ ≠ q1) ho0 (fun k_ hk_ => ⟨(Nat.le_trans (below_size HB.out) hk_), (Kd.freshB q3.out k_ hk_), (Kd.freshB q2.out k_ hk_)⟩)) (below_size HB.out)); replace q3 := Aside0.mk (blk_below q3.out hb); replace q2 := Aside0.mk (blk_below q2.out hb); replace HB := Aside0.mk (below_step HB.out hb)
 (try clear hb)
 (try clear hb2)
 (try clear hk)
 (try clear hi)
 (try clear ho0)
 obtain ⟨qf, qg, eo12⟩ := Kd.V_slice qe.out
 (first | subst eo12 | (injection eo12 with f1_ f2_ f3_; have f4_ := f1_.symm; have f5_ := f3_.symm; clear f1_ f2_ f3_; subst f4_; subst f5_))
 refine hK.out _ _ ⟨bc q2 0, bc q2 1, bc q2 2, bc q2 3⟩ (fun hHeld => ?_); clear hK K; refine norm_ (a' := ?_) ?_ ?_; rotate_left
 · show Act.put _ (some 12) _ = _
   exact APq
 refine pure_ (i := 7) (N := some 13) (v := ?_) (a' := ?_) #[true, true, true, true, true, true, true, true, false] rfl rfl (any_of HT_.out (by kernel_rfl)) (fun _ _ _ h => h) (Or.inl ⟨by rfl, ?_⟩) ?_ ?_; rotate_left
 · intro w'
   go_simp
   with_reducible rfl
 rotate_left
 · exact APq
 refine one_ (i := 8) (N := none) #[true, true, true, true, true, true, true, true, true] rfl rfl (one_of HT_.out (by kernel_rfl)) (by decide) (fun K hK => ?_); have hs13 : w11.cell? ⟨q0, 0, none⟩ = some (.bool false) := bc q3 0; have hfs13 := blk_frozen q3.out 0; have hns13_1 := q5.out; have hms13_1 := qa.out; have hs14 : w11.cell? ⟨q0, 1, none⟩ = some (.int .i64 0) := bc q3 1; have hfs14 := blk_frozen q3.out 1; have hns14_1 := q5.out; have hms14_1 := qa.out; have hs15 : w11.cell? ⟨q0, 2, none⟩ = some (.slice none 0 0) := bc q3 2; have hfs15 := blk_frozen q3.out 2; have hns15_1 := q5.out; have hms15_1 := qa.out; refine skip_ (w1 := ?_) (by rfl) rfl ?_ ?_; rotate_left
 · go_simp
   rfl
 refine hK.out _ _ ⟨((cell_far (p := ⟨q0, _, none⟩) q5.out _).trans (((cell_far (p := ⟨q0, _, none⟩) q5.out _).trans (((cell_far (p := ⟨q0, _, none⟩) q5.out _).trans (hHeld.1)))))), ((cell_far (p := ⟨q0, _, none⟩) q5.out _).trans (((cell_far (p := ⟨q0, _, none⟩) q5.out _).trans (((cell_far (p := ⟨q0, _, none⟩) q5.out _).trans (hHeld.2.1)))))), ((cell_far (p := ⟨q0, _, none⟩) q5.out _).trans (((cell_far (p := ⟨q0, _, none⟩) q5.out _).trans (((cell_far (p := ⟨q0, _, none⟩) q5.out _).trans (hHeld.2.2.1)))))), ((cell_far (p := ⟨q0, _, none⟩) q5.out _).trans (((cell_far (p := ⟨q0, _, none⟩) q5.out _).trans (((cell_far (p := ⟨q0, _, none⟩) q5.out _).trans (hHeld.2.2.2))))))⟩ (fun hHeld => ?_); clear hK K; refine done_ (done_of HT_.out (by kernel_rfl)) ?_
 try go_wp2
 refine bodyPost_ret (results_cell_row rfl _ _ q0 67 #[.bool q4, .int .i64 q6, .slice qf q7.length qg] (0, 0) _ rfl (by (with_reducible repeat (first | refine blk_drewN ?_ _ | refine blk_drew ?_ | refine blk_alloc ?_ _)); refine blk_put (cs := #[.bool q4, .int .i64 q6, .slice none 0 0]) ?_ 2 _ rfl; refine blk_put (cs := #[.bool q4, .int .i64 0, .slice none 0 0]) ?_ 1 _ rfl; refine blk_put (cs := #[.bool false, .int .i64 0, .slice none 0 0]) ?_ 0 _ rfl; (with_reducible repeat (first | refine blk_drewN ?_ _ | refine blk_drew ?_ | refine blk_alloc ?_ _)); exact q3.out) Try.underlying67 rfl (by kernel_rfl)) rfl ?_; exact ⟨_, by first | rfl | (simp [errW_none, errW_some] <;> rfl) | (simp [*, errW_none, errW_some] <;> rfl), by (with_reducible repeat (first | apply Kd.V_alloc | apply Kd.V_drewN | apply Kd.V_drew)); exact Kd.V_mono (Kd.V_far (p := ⟨q0, 2, none⟩) (Kd.V_far (p := ⟨q0, 1, none⟩) (Kd.V_far (p := ⟨q0, 0, none⟩) (Kd.V_mono qe.out (fun k_ hk => (⟨hk, hk.2.1⟩ : _ ∧ k_ ≠ q0))) (fun _ hk => hk.2) (.bool q4)) (fun _ hk => hk.2) (.int .i64 q6)) (fun _ hk => hk.2) (.slice qf q7.length qg)) (fun _ hk => hk.1.1), kHt HB qc qd⟩
end Go.Proofs.Ytbgefpeicmbgiaa.X
end
section
namespace Go.Proofs.Ytbgefpeicmbgiaa
set_option linter.unusedVariables false
set_option linter.unusedSimpArgs false
open Go.RowKit X Go.Proofs.YtbgefpeicmbgiaaW.PrintWords
theorem pattern_ev {p : Int} (hp : U p) : Ev (fun k => r4_Pattern.f k p) (pM p, pX p, ln (pS p).toNat) := by
  refine Ev.congr (f := fun k => (r2_Of.f k (pS p)).bind fun t227 => (some (pM p, pX p, t227))) (fun k => ?_) (Ev.bind (of_ev (U_pS p)) (Ev.now _))
  unfold r4_Pattern.f
  rw [r3_Take.eq p (inU_of hp), Option.bind_some]
end Go.Proofs.Ytbgefpeicmbgiaa
end
