import Derived.Test.YtbgefpeicmbgiaaKJ4
import Derived.Test.YtbgefpeicmbgiaaKJ6
import Derived.Test.YtbgefpeicmbgiaaKJ11
import Derived.Test.YtbgefpeicmbgiaaKJXtillerref02Shr
import Derived.Test.YtbgefpeicmbgiaaKJXtillerref04Round
import Derived.Test.YtbgefpeicmbgiaaKJXtillerref02Mul
section
namespace Go.Proofs.Ytbgefpeicmbgiaa.X
open Go.RowKit Go.Proofs.YtbgefpeicmbgiaaW.PrintWords Go.Proofs.YtbgefpeicmbgiaaW.PrintLast Go.Proofs.YtbgefpeicmbgiaaW.PrintMore
attribute [local go_sem] max2_int min2_int max_two min_two max_three min_three max_four min_four   
set_option linter.unusedVariables false
set_option linter.unusedSimpArgs false
def r6_Exact.f (k : Nat) (a0 : Int) (a1 : Int) : Option (Bool × Int × List Int) := (r4_Pattern.f k a0).bind fun qn => ((r4_Pattern.f k a1).bind fun qm => ((r2_Mul.f k qn.2.2 qm.2.2).bind fun ql => (some ((qn.1 != qm.1), wrap64 (qn.2.1 + qm.2.1), ql))))
theorem r6_Exact.mono : ∀ a0 a1 k, LeO (r6_Exact.f k a0 a1) (r6_Exact.f (k + 1) a0 a1) := by
 intro a0 a1 k
 unfold r6_Exact.f
 repeat' first
  | (with_reducible exact r2_Mul.mono _ _ _)
  | (with_reducible exact r4_Pattern.mono _ _)
  | (with_reducible exact LeO.refl _)
  | (with_reducible exact LeO.none _)
  | (with_reducible refine LeO.ite ?_ ?_)
  | (with_reducible refine LeO.bind ?_ (fun _ => ?_))
  | exact r2_Mul.mono _ _ _
  | exact r4_Pattern.mono _ _
  | exact LeO.none _
  | refine LeO.ite ?_ ?_
  | refine LeO.bind ?_ (fun _ => ?_)
def r6_Exact.T2 : Bool × List (List Nat × List Nat) := (true, [([], []), ([0], [0]), ([], []), ([2], [2]), ([1, 3], [1, 3]), ([], []), ([5], [5]), ([], []), ([7], [7]), ([6, 8], [6, 8]), ([], []), ([10], [10]), ([], []), ([12], [12]), ([11, 13], [11, 13]), ([4, 9, 14], [4, 9, 14]), ([15, 14, 0, 1, 2, 3, 4, 5, 6, 7, 8, 9, 10, 11, 12, 13, 14, 15], [15])])
def r6_Exact.B2 : List Nat := [0, 1, 0, 4, 15, 0, 32, 0, 128, 480, 0, 1024, 0, 4096, 15360, 32767, 65535]
theorem r6_Exact.tab2 : rtab .any (opsOf Try.f57 2) = r6_Exact.T2 := by kernel_rfl
theorem r6_Exact.bits2 : waitsOk r6_Exact.T2.2 r6_Exact.B2 = true := by kernel_rfl
set_option maxHeartbeats 8000000 in
set_option maxRecDepth 100000 in
theorem r6_Exact.calls (k : Nat) (a0 : Int) (a1 : Int) (r1 : Bool) (r2 : Int) (r3 : List Int) (w : World) (h : r6_Exact.f k a0 a1 = some (r1, r2, r3)) :
 Calls Try.prog 57 #[.int .u64 a0, .int .u64 a1] w fun e w' => ∃ v2_ : Value, e = .returned (.agg #[.bool r1, .int .i64 r2, v2_]) ∧ Kd.V (Kd.int .u32) 41 w' w.heap.size (fun k_ => (w.heap.size ≤ k_)) v2_ r3 ∧ Below w.heap.size w w' := by
 have hu67 := Try.underlying67; have HB := Aside0.mk (Below.refl w.heap.size w); have H : ((r4_Pattern.f k a0).bind fun qn => ((r4_Pattern.f k a1).bind fun qm => ((r2_Mul.f k qn.2.2 qm.2.2).bind fun ql => (some ((qn.1 != qm.1), wrap64 (qn.2.1 + qm.2.1), ql))))) = some (r1, r2, r3) := h; clear h; replace H := Option.bind_eq_some_iff.mp H; obtain ⟨⟨q4, q7, q8⟩, A30, H⟩ := H; replace H : ((r4_Pattern.f k a1).bind fun qm => ((r2_Mul.f k q8 qm.2.2).bind fun ql => (some ((q4 != qm.1), wrap64 (q7 + qm.2.1), ql)))) = some (r1, r2, r3) := H; have A3 := Aside0.mk A30; clear A30; replace H := Option.bind_eq_some_iff.mp H; obtain ⟨⟨q5, q9, qa⟩, A40, H⟩ := H; replace H : ((r2_Mul.f k q8 qa).bind fun ql => (some ((q4 != q5), wrap64 (q7 + q9), ql))) = some (r1, r2, r3) := H; have A4 := Aside0.mk A40; clear A40; replace H := Option.bind_eq_some_iff.mp H; obtain ⟨ql, A50, H⟩ := H; replace H : (some ((q4 != q5), wrap64 (q7 + q9), ql)) = some (r1, r2, r3) := H; have A5 := Aside0.mk A50; clear A50
 simp only [Option.some.injEq, Prod.mk.injEq] at H
 obtain ⟨rfl, rfl, rfl⟩ := H
 go_enter Try.func57, Try.ntmps57
 try go_wp2_with (first | ((with_reducible refine gate_dst (N := 4) rfl ?_); refine box_event ?hg (N := 4) ?hd (cs := #[.bool false, .int .i64 0, .slice none 0 0]) (t := 67) ?hr ?_; (case hd => rfl); (case hg => rfl); (case hr => first | (go_simp; done) | (go_simp; rfl)); intro q0 hg w6 hbox hb; have q3 := Aside0.mk (hbox); have GW487 := Aside0.mk ((by rw [hg]; exact (below_size (kH HB)) : w.heap.size ≤ q0)); have qe := Aside0.mk ((by rw [hg]; exact (below_size (kH HB)) : w.heap.size ≤ q0)); replace HB := Aside0.mk (below_step (kH HB) hb); clear hb hbox hg) | ((with_reducible refine gate_callee (f := 39) rfl ?_); refine goesL_ (some 8) rfl rfl Try.func39 (by kernel_rfl) rfl #[.int .u64 a0] rfl LMq ?_; (with_reducible refine (r4_Pattern.calls k a0 q4 q7 q8 _ A3.out).mono ?_); rintro e w7 ⟨v491, rfl, ho0, hb⟩; refine ⟨_, rfl, ?_⟩; have qb := Aside0.mk (Kd.V_lower (Kd.V_mono (ok' := fun k_ => (w.heap.size ≤ k_) ∧ k_ ≠ q0) ho0 (fun k_ hk_ => ⟨(Nat.le_trans (below_size (kHs HB qe)) hk_), (Kd.freshB (g := q0) (o := .cells #[.bool false, .int .i64 0, .slice none 0 0] 67 (0, 0)) (kB q3) k_ hk_)⟩)) (below_size (kHs HB qe))); replace q3 := Aside0.mk (blk_below (g := q0) (o := .cells #[.bool false, .int .i64 0, .slice none 0 0] 67 (0, 0)) (kB q3) hb); replace HB := Aside0.mk (below_step (kHs HB qe) hb); (try clear hb); (try clear hb2); (try clear hk); (try clear hi); (try clear ho0)) | ((with_reducible refine gate_callee (f := 39) rfl ?_); refine goesL_ (some 10) rfl rfl Try.func39 (by kernel_rfl) rfl #[.int .u64 a1] rfl LMq ?_; (with_reducible refine (r4_Pattern.calls k a1 q5 q9 qa _ A4.out).mono ?_); rintro e w8 ⟨v496, rfl, ho0, hb⟩; refine ⟨_, rfl, ?_⟩; replace qb := Aside0.mk (Kd.V_below (kV qb) hb); have qd := Aside0.mk (Kd.V_lower (Kd.V_mono (ok' := fun k_ => (w.heap.size ≤ k_) ∧ k_ ≠ q0) ho0 (fun k_ hk_ => ⟨(Nat.le_trans (below_size (kHs HB qe)) hk_), (Kd.freshB (g := q0) (o := .cells #[.bool false, .int .i64 0, .slice none 0 0] 67 (0, 0)) (kB q3) k_ hk_)⟩)) (below_size (kHs HB qe))); replace q3 := Aside0.mk (blk_below (g := q0) (o := .cells #[.bool false, .int .i64 0, .slice none 0 0] 67 (0, 0)) (kB q3) hb); replace HB := Aside0.mk (below_step (kHs HB qe) hb); (try clear hb); (try clear hb2); (try clear hk); (try clear hi); (try clear ho0)) | ((with_reducible refine gate_dst (N := 5) rfl ?_); refine box_event ?hg (N := 5) ?hd (cs := #[.bool false, .int .i64 0, .slice none 0 0]) (t := 67) ?hr ?_; (case hd => rfl); (case hg => rfl); (case hr => first | (go_simp; done) | (go_simp; rfl)); intro q1 hg w9 hbox hb; replace qb := Aside0.mk (Kd.V_below (Kd.V_elderB (kV qb) q1 (Nat.le_of_eq hg.symm)) hb); replace qd := Aside0.mk (Kd.V_below (Kd.V_elderB (kV qd) q1 (Nat.le_of_eq hg.symm)) hb); have q6 := Aside0.mk (hbox); have GW498 := Aside0.mk ((by rw [hg]; exact (below_size (kHs HB qe)) : w.heap.size ≤ q1)); have qq := Aside0.mk ((by rw [hg]; exact (below_size (kHs HB qe)) : w.heap.size ≤ q1)); replace HB := Aside0.mk (below_step (kHs HB qe) hb); have qo := Aside0.mk ((by rw [hg]; exact Nat.ne_of_lt (blk_lt (g := q0) (o := .cells #[.bool false, .int .i64 0, .slice none 0 0] 67 (0, 0)) (kB q3)) : q0 ≠ q1)); have qf := Aside0.mk ((by rw [hg]; exact Nat.ne_of_gt (blk_lt (g := q0) (o := .cells #[.bool false, .int .i64 0, .slice none 0 0] 67 (0, 0)) (kB q3)) : q1 ≠ q0)); replace q3 := Aside0.mk (blk_below (g := q0) (o := .cells #[.bool false, .int .i64 0, .slice none 0 0] 67 (0, 0)) (kB q3) hb); clear hb hbox hg) | ((with_reducible refine gate_dst (N := 6) rfl ?_); refine box_event ?hg (N := 6) ?hd (cs := #[.bool false, .int .i64 0, .slice none 0 0]) (t := 67) ?hr ?_; (case hd => rfl); (case hg => rfl); (case hr => first | (go_simp; done) | (go_simp; rfl)); intro q2 hg w10 hbox hb; replace qb := Aside0.mk (Kd.V_below (Kd.V_elderB (kV qb) q2 (Nat.le_of_eq hg.symm)) hb); replace qd := Aside0.mk (Kd.V_below (Kd.V_elderB (kV qd) q2 (Nat.le_of_eq hg.symm)) hb); have qc := Aside0.mk (hbox); have GW499 := Aside0.mk ((by rw [hg]; exact (below_size (kHt HB qe qq)) : w.heap.size ≤ q2)); have qt := Aside0.mk ((by rw [hg]; exact (below_size (kHt HB qe qq)) : w.heap.size ≤ q2)); replace HB := Aside0.mk (below_step (kHt HB qe qq) hb); have qp := Aside0.mk ((by rw [hg]; exact Nat.ne_of_lt (blk_lt (g := q0) (o := .cells #[.bool false, .int .i64 0, .slice none 0 0] 67 (0, 0)) (kB q3)) : q0 ≠ q2)); have qg := Aside0.mk ((by rw [hg]; exact Nat.ne_of_gt (blk_lt (g := q0) (o := .cells #[.bool false, .int .i64 0, .slice none 0 0] 67 (0, 0)) (kB q3)) : q2 ≠ q0)); replace q3 := Aside0.mk (blk_below (g := q0) (o := .cells #[.bool false, .int .i64 0, .slice none 0 0] 67 (0, 0)) (kB q3) hb); have qr := Aside0.mk ((by rw [hg]; exact Nat.ne_of_lt (blk_lt (g := q1) (o := .cells #[.bool false, .int .i64 0, .slice none 0 0] 67 (0, 0)) (kB q6)) : q1 ≠ q2)); have qs := Aside0.mk ((by rw [hg]; exact Nat.ne_of_gt (blk_lt (g := q1) (o := .cells #[.bool false, .int .i64 0, .slice none 0 0] 67 (0, 0)) (kB q6)) : q2 ≠ q1)); replace q6 := Aside0.mk (blk_below (g := q1) (o := .cells #[.bool false, .int .i64 0, .slice none 0 0] 67 (0, 0)) (kB q6) hb); clear hb hbox hg; have hnb11 := qf.out; have hnc11 := qo.out; have hnb12 := qr.out; have hnc12 := qs.out; obtain ⟨_, _, _, _, _, _⟩ := W3q q6; obtain ⟨qh, qi, eo14⟩ := Kd.V_slice qb.out; subst eo14; have hnb15 := qg.out; have hnc15 := qp.out; obtain ⟨_, _, _, _, _, _⟩ := W3q qc; obtain ⟨qj, qk, eo17⟩ := Kd.V_slice qd.out; subst eo17))
 have n0_ : Aside0 (Kd.V (Kd.int .u32) 41 ((((((w10.setCell ⟨q1, 0, none⟩ (.bool q4)).setCell ⟨q1, 1, none⟩ (.int .i64 q7)).setCell ⟨q1, 2, none⟩ (.slice qh q8.length qi)).setCell ⟨q2, 0, none⟩ (.bool q5)).setCell ⟨q2, 1, none⟩ (.int .i64 q9)).setCell ⟨q2, 2, none⟩ (.slice qj qa.length qk)) w.heap.size (fun k_ => (w.heap.size ≤ k_) ∧ k_ ≠ q0 ∧ k_ ≠ q1 ∧ k_ ≠ q2) (.slice qh q8.length qi) q8) := ⟨by (with_reducible repeat (first | apply Kd.V_alloc | apply Kd.V_drewN | apply Kd.V_drew)); exact Kd.V_mono (Kd.V_far (p := ⟨q2, 2, none⟩) (Kd.V_far (p := ⟨q2, 1, none⟩) (Kd.V_far (p := ⟨q2, 0, none⟩) (Kd.V_far (p := ⟨q1, 2, none⟩) (Kd.V_far (p := ⟨q1, 1, none⟩) (Kd.V_far (p := ⟨q1, 0, none⟩) (Kd.V_mono (Kd.V_mono qb.out (fun k_ hk => (⟨hk, hk.1.2⟩ : _ ∧ k_ ≠ q1))) (fun k_ hk => (⟨hk, hk.1.2⟩ : _ ∧ k_ ≠ q2))) (fun _ hk => hk.1.2) (.bool q4)) (fun _ hk => hk.1.2) (.int .i64 q7)) (fun _ hk => hk.1.2) (.slice qh q8.length qi)) (fun _ hk => hk.2) (.bool q5)) (fun _ hk => hk.2) (.int .i64 q9)) (fun _ hk => hk.2) (.slice qj qa.length qk)) (fun _ hk => ⟨hk.1.1.1.1.1, ⟨hk.1.1.1.1.2, ⟨hk.1.1.1.2, hk.1.1.2⟩⟩⟩)⟩; have n1_ : Aside0 (Kd.V (Kd.int .u32) 41 ((((((w10.setCell ⟨q1, 0, none⟩ (.bool q4)).setCell ⟨q1, 1, none⟩ (.int .i64 q7)).setCell ⟨q1, 2, none⟩ (.slice qh q8.length qi)).setCell ⟨q2, 0, none⟩ (.bool q5)).setCell ⟨q2, 1, none⟩ (.int .i64 q9)).setCell ⟨q2, 2, none⟩ (.slice qj qa.length qk)) w.heap.size (fun k_ => (w.heap.size ≤ k_) ∧ k_ ≠ q0 ∧ k_ ≠ q1 ∧ k_ ≠ q2) (.slice qj qa.length qk) qa) := ⟨by (with_reducible repeat (first | apply Kd.V_alloc | apply Kd.V_drewN | apply Kd.V_drew)); exact Kd.V_mono (Kd.V_far (p := ⟨q2, 2, none⟩) (Kd.V_far (p := ⟨q2, 1, none⟩) (Kd.V_far (p := ⟨q2, 0, none⟩) (Kd.V_far (p := ⟨q1, 2, none⟩) (Kd.V_far (p := ⟨q1, 1, none⟩) (Kd.V_far (p := ⟨q1, 0, none⟩) (Kd.V_mono (Kd.V_mono qd.out (fun k_ hk => (⟨hk, hk.1.2⟩ : _ ∧ k_ ≠ q1))) (fun k_ hk => (⟨hk, hk.1.2⟩ : _ ∧ k_ ≠ q2))) (fun _ hk => hk.1.2) (.bool q4)) (fun _ hk => hk.1.2) (.int .i64 q7)) (fun _ hk => hk.1.2) (.slice qh q8.length qi)) (fun _ hk => hk.2) (.bool q5)) (fun _ hk => hk.2) (.int .i64 q9)) (fun _ hk => hk.2) (.slice qj qa.length qk)) (fun _ hk => ⟨hk.1.1.1.1.1, ⟨hk.1.1.1.1.2, ⟨hk.1.1.1.2, hk.1.1.2⟩⟩⟩)⟩; have n2_ : Aside0 (((((((w10.setCell ⟨q1, 0, none⟩ (.bool q4)).setCell ⟨q1, 1, none⟩ (.int .i64 q7)).setCell ⟨q1, 2, none⟩ (.slice qh q8.length qi)).setCell ⟨q2, 0, none⟩ (.bool q5)).setCell ⟨q2, 1, none⟩ (.int .i64 q9)).setCell ⟨q2, 2, none⟩ (.slice qj qa.length qk)).heap[q0]? = some (.cells #[.bool false, .int .i64 0, .slice none 0 0] 67 (0, 0))) := ⟨by (with_reducible repeat (first | refine blk_drewN ?_ _ | refine blk_drew ?_ | refine blk_alloc ?_ _)); refine blk_far ?_ qp.out _; refine blk_far ?_ qp.out _; refine blk_far ?_ qp.out _; refine blk_far ?_ qo.out _; refine blk_far ?_ qo.out _; refine blk_far ?_ qo.out _; (with_reducible repeat (first | refine blk_drewN ?_ _ | refine blk_drew ?_ | refine blk_alloc ?_ _)); exact q3.out⟩; have n3_ : Aside0 (((((((w10.setCell ⟨q1, 0, none⟩ (.bool q4)).setCell ⟨q1, 1, none⟩ (.int .i64 q7)).setCell ⟨q1, 2, none⟩ (.slice qh q8.length qi)).setCell ⟨q2, 0, none⟩ (.bool q5)).setCell ⟨q2, 1, none⟩ (.int .i64 q9)).setCell ⟨q2, 2, none⟩ (.slice qj qa.length qk)).heap[q1]? = some (.cells #[.bool q4, .int .i64 q7, .slice qh q8.length qi] 67 (0, 0))) := ⟨by (with_reducible repeat (first | refine blk_drewN ?_ _ | refine blk_drew ?_ | refine blk_alloc ?_ _)); refine blk_far ?_ qr.out _; refine blk_far ?_ qr.out _; refine blk_far ?_ qr.out _; refine blk_put (cs := #[.bool q4, .int .i64 q7, .slice none 0 0]) ?_ 2 _ rfl; refine blk_put (cs := #[.bool q4, .int .i64 0, .slice none 0 0]) ?_ 1 _ rfl; refine blk_put (cs := #[.bool false, .int .i64 0, .slice none 0 0]) ?_ 0 _ rfl; (with_reducible repeat (first | refine blk_drewN ?_ _ | refine blk_drew ?_ | refine blk_alloc ?_ _)); exact q6.out⟩; have n4_ : Aside0 (((((((w10.setCell ⟨q1, 0, none⟩ (.bool q4)).setCell ⟨q1, 1, none⟩ (.int .i64 q7)).setCell ⟨q1, 2, none⟩ (.slice qh q8.length qi)).setCell ⟨q2, 0, none⟩ (.bool q5)).setCell ⟨q2, 1, none⟩ (.int .i64 q9)).setCell ⟨q2, 2, none⟩ (.slice qj qa.length qk)).heap[q2]? = some (.cells #[.bool q5, .int .i64 q9, .slice qj qa.length qk] 67 (0, 0))) := ⟨by (with_reducible repeat (first | refine blk_drewN ?_ _ | refine blk_drew ?_ | refine blk_alloc ?_ _)); refine blk_put (cs := #[.bool q5, .int .i64 q9, .slice none 0 0]) ?_ 2 _ rfl; refine blk_put (cs := #[.bool q5, .int .i64 0, .slice none 0 0]) ?_ 1 _ rfl; refine blk_put (cs := #[.bool false, .int .i64 0, .slice none 0 0]) ?_ 0 _ rfl; refine blk_far ?_ qs.out _; refine blk_far ?_ qs.out _; refine blk_far ?_ qs.out _; (with_reducible repeat (first | refine blk_drewN ?_ _ | refine blk_drew ?_ | refine blk_alloc ?_ _)); exact qc.out⟩; have n5_ : Aside0 (Below w.heap.size w ((((((w10.setCell ⟨q1, 0, none⟩ (.bool q4)).setCell ⟨q1, 1, none⟩ (.int .i64 q7)).setCell ⟨q1, 2, none⟩ (.slice qh q8.length qi)).setCell ⟨q2, 0, none⟩ (.bool q5)).setCell ⟨q2, 1, none⟩ (.int .i64 q9)).setCell ⟨q2, 2, none⟩ (.slice qj qa.length qk))) := ⟨by repeat (first | (with_reducible first | exact HB.out | apply below_alloc | apply pw_below_drewN | apply below_drew1 | refine below_set ?_ qe.out | refine below_set ?_ qq.out | refine below_set ?_ qt.out) | exact HB.out)⟩
 (try clear qb)
 (try clear qd)
 (try clear q3)
 (try clear q6)
 (try clear qc)
 (try clear HB)
 generalize ((((((w10.setCell ⟨q1, 0, none⟩ (.bool q4)).setCell ⟨q1, 1, none⟩ (.int .i64 q7)).setCell ⟨q1, 2, none⟩ (.slice qh q8.length qi)).setCell ⟨q2, 0, none⟩ (.bool q5)).setCell ⟨q2, 1, none⟩ (.int .i64 q9)).setCell ⟨q2, 2, none⟩ (.slice qj qa.length qk)) = w18 at n0_ n1_ n2_ n3_ n4_ n5_ ⊢
 have qb := n0_; have qd := n1_; have q3 := n2_; have q6 := n3_; have qc := n4_; have HB := n5_; clear n0_ n1_ n2_ n3_ n4_ n5_; replace qb := Aside0.mk (Kd.V_drew qb.out); replace qd := Aside0.mk (Kd.V_drew qd.out); replace q3 := Aside0.mk (blk_drew q3.out); replace q6 := Aside0.mk (blk_drew q6.out); replace qc := Aside0.mk (blk_drew qc.out); replace HB := Aside0.mk (below_drew1 HB.out); refine start_ (n := 17) (S := fun w' => w'.cell? ⟨q1, 0, none⟩ = some (.bool q4) ∧ w'.cell? ⟨q1, 1, none⟩ = some (.int .i64 q7) ∧ w'.cell? ⟨q1, 2, none⟩ = some (.slice qh q8.length qi) ∧ w'.cell? ⟨q2, 0, none⟩ = some (.bool q5) ∧ w'.cell? ⟨q2, 1, none⟩ = some (.int .i64 q9) ∧ w'.cell? ⟨q2, 2, none⟩ = some (.slice qj qa.length qk)) (ds := []) #[false, false, false, false, false, false, false, false, false, false, false, false, false, false, false, false, false] (by kernel_rfl) rfl rfl ⟨bc q6 0, bc q6 1, bc q6 2, bc qc 0, bc qc 1, bc qc 2⟩ (fun hHeld => ?_); refine with_tabW r6_Exact.tab2 r6_Exact.bits2 (fun HT_ HW_ => ?_)
 generalize w18.drew = w19 at qb qd q3 q6 qc HB hHeld ⊢
 refine pure_ (i := 0) (N := some 11) (v := ?_) (a' := ?_) #[true, false, false, false, false, false, false, false, false, false, false, false, false, false, false, false, false] rfl rfl (any_of HT_.out (by kernel_rfl)) (fun _ _ _ h => h) (Or.inl ⟨by rfl, ?_⟩) ?_ ?_; rotate_left
 · intro w'
   go_simp
   with_reducible rfl
 rotate_left
 · exact APq
 refine pure_ (i := 2) (N := some 13) (v := ?_) (a' := ?_) #[true, false, true, false, false, false, false, false, false, false, false, false, false, false, false, false, false] rfl rfl (any_of HT_.out (by kernel_rfl)) (fun _ _ _ h => h) (Or.inl ⟨by rfl, ?_⟩) ?_ ?_; rotate_left
 · intro w'
   go_simp
   with_reducible rfl
 rotate_left
 · exact APq
 refine pure_ (i := 5) (N := some 16) (v := ?_) (a' := ?_) #[true, false, true, false, false, true, false, false, false, false, false, false, false, false, false, false, false] rfl rfl (any_of HT_.out (by kernel_rfl)) (fun _ _ _ h => h) (Or.inl ⟨by rfl, ?_⟩) ?_ ?_; rotate_left
 · intro w'
   go_simp
   with_reducible rfl
 rotate_left
 · exact APq
 refine pure_ (i := 7) (N := some 18) (v := ?_) (a' := ?_) #[true, false, true, false, false, true, false, true, false, false, false, false, false, false, false, false, false] rfl rfl (any_of HT_.out (by kernel_rfl)) (fun _ _ _ h => h) (Or.inl ⟨by rfl, ?_⟩) ?_ ?_; rotate_left
 · intro w'
   go_simp
   with_reducible rfl
 rotate_left
 · exact APq
 refine pure_ (i := 10) (N := some 21) (v := ?_) (a' := ?_) #[true, false, true, false, false, true, false, true, false, false, true, false, false, false, false, false, false] rfl rfl (any_of HT_.out (by kernel_rfl)) (fun _ _ _ h => h) (Or.inl ⟨by rfl, ?_⟩) ?_ ?_; rotate_left
 · intro w'
   go_simp
   with_reducible rfl
 rotate_left
 · exact APq
 refine pure_ (i := 12) (N := some 23) (v := ?_) (a' := ?_) #[true, false, true, false, false, true, false, true, false, false, true, false, true, false, false, false, false] rfl rfl (any_of HT_.out (by kernel_rfl)) (fun _ _ _ h => h) (Or.inl ⟨by rfl, ?_⟩) ?_ ?_; rotate_left
 · intro w'
   go_simp
   with_reducible rfl
 rotate_left
 · exact APq
 refine take_ (i := 1) (N := some 12) (v := ?_) (a' := ?_) #[true, true, true, false, false, true, false, true, false, false, true, false, true, false, false, false, false] rfl rfl (take_ofW HT_.out HW_.out (by kernel_rfl)) (fun _ _ _ h => h) (Or.inl ⟨by rfl, ?_⟩) hHeld ?_ ?_; rotate_left
 · rintro w' ⟨s0, s1, s2, s3, s4, s5⟩
   go_simp
   with_reducible rfl
 rotate_left
 · exact APq
 refine take_ (i := 3) (N := some 14) (v := ?_) (a' := ?_) #[true, true, true, true, false, true, false, true, false, false, true, false, true, false, false, false, false] rfl rfl (take_ofW HT_.out HW_.out (by kernel_rfl)) (fun _ _ _ h => h) (Or.inl ⟨by rfl, ?_⟩) hHeld ?_ ?_; rotate_left
 · rintro w' ⟨s0, s1, s2, s3, s4, s5⟩
   go_simp
   with_reducible rfl
 rotate_left
 · exact APq
 refine pure_ (i := 4) (N := some 15) (v := ?_) (a' := ?_) #[true, true, true, true, true, true, false, true, false, false, true, false, true, false, false, false, false] rfl rfl (any_of HT_.out (by kernel_rfl)) (fun _ _ _ h => h) (Or.inl ⟨by rfl, ?_⟩) ?_ ?_; rotate_left
 · intro w'
   go_simp
   with_reducible rfl
 rotate_left
 · exact APq
 refine take_ (i := 6) (N := some 17) (v := ?_) (a' := ?_) #[true, true, true, true, true, true, true, true, false, false, true, false, true, false, false, false, false] rfl rfl (take_ofW HT_.out HW_.out (by kernel_rfl)) (fun _ _ _ h => h) (Or.inl ⟨by rfl, ?_⟩) hHeld ?_ ?_; rotate_left
 · rintro w' ⟨s0, s1, s2, s3, s4, s5⟩
   go_simp
   with_reducible rfl
 rotate_left
 · exact APq
 refine take_ (i := 8) (N := some 19) (v := ?_) (a' := ?_) #[true, true, true, true, true, true, true, true, true, false, true, false, true, false, false, false, false] rfl rfl (take_ofW HT_.out HW_.out (by kernel_rfl)) (fun _ _ _ h => h) (Or.inl ⟨by rfl, ?_⟩) hHeld ?_ ?_; rotate_left
 · rintro w' ⟨s0, s1, s2, s3, s4, s5⟩
   go_simp
   with_reducible rfl
 rotate_left
 · exact APq
 refine pure_ (i := 9) (N := some 20) (v := ?_) (a' := ?_) #[true, true, true, true, true, true, true, true, true, true, true, false, true, false, false, false, false] rfl rfl (any_of HT_.out (by kernel_rfl)) (fun _ _ _ h => h) (Or.inl ⟨by rfl, ?_⟩) ?_ ?_; rotate_left
 · intro w'
   go_simp
   with_reducible rfl
 rotate_left
 · exact APq
 refine take_ (i := 11) (N := some 22) (v := ?_) (a' := ?_) #[true, true, true, true, true, true, true, true, true, true, true, true, true, false, false, false, false] rfl rfl (take_ofW HT_.out HW_.out (by kernel_rfl)) (fun _ _ _ h => h) (Or.inl ⟨by rfl, ?_⟩) hHeld ?_ ?_; rotate_left
 · rintro w' ⟨s0, s1, s2, s3, s4, s5⟩
   go_simp
   with_reducible rfl
 rotate_left
 · exact APq
 refine take_ (i := 13) (N := some 24) (v := ?_) (a' := ?_) #[true, true, true, true, true, true, true, true, true, true, true, true, true, true, false, false, false] rfl rfl (take_ofW HT_.out HW_.out (by kernel_rfl)) (fun _ _ _ h => h) (Or.inl ⟨by rfl, ?_⟩) hHeld ?_ ?_; rotate_left
 · rintro w' ⟨s0, s1, s2, s3, s4, s5⟩
   go_simp
   with_reducible rfl
 rotate_left
 · exact APq
 refine one_ (i := 14) (N := some 25) #[true, true, true, true, true, true, true, true, true, true, true, true, true, true, true, false, false] rfl rfl (one_of HT_.out (by kernel_rfl)) (by decide) (fun K hK => ?_); refine goes_ Try.func86 (by kernel_rfl) rfl #[.slice qh q8.length qi, .slice qj qa.length qk] (by rfl) rfl rfl LMq ?_
 with_reducible refine (r2_Mul.calls k _ _ q8 _ _ qa ql _ ?side1 ?side2 ?side3 ?side4 A5.out).mono ?_
 (case side1 => exact kC (Kd.V_reads' qb.out).2.2)
 (case side2 => exact (Kd.V_reads' qb.out).2.1)
 (case side3 => exact kC (Kd.V_reads' qd.out).2.2)
 (case side4 => exact (Kd.V_reads' qd.out).2.1)
 rintro e w20 ⟨v501, rfl, ho0, hb⟩; refine ⟨_, rfl, ?_⟩; replace qb := Aside0.mk (Kd.V_below (kV qb) hb); replace qd := Aside0.mk (Kd.V_below (kV qd) hb); have qu := Aside0.mk (Kd.V_lower (Kd.V_mono (ok' := fun k_ => (w.heap.size ≤ k_) ∧ k_ ≠ q0 ∧ k_ ≠ q1 ∧ k_ ≠ q2) ho0 (fun k_ hk_ => ⟨(Nat.le_trans (below_size HB.out) hk_), (Kd.freshB q3.out k_ hk_), (Kd.freshB q6.out k_ hk_), (Kd.freshB qc.out k_ hk_)⟩)) (below_size HB.out)); replace q3 := Aside0.mk (blk_below q3.out hb); replace q6 := Aside0.mk (blk_below q6.out hb); replace qc := Aside0.mk (blk_below qc.out hb); replace HB := Aside0.mk (below_step HB.out hb)
 (try clear hb)
 (try clear hb2)
 (try clear hk)
 (try clear hi)
 (try clear ho0)
 obtain ⟨qv, qw, eo21⟩ := Kd.V_slice qu.out
 (first | subst eo21 | (injection eo21 with f1_ f2_ f3_; have f4_ := f1_.symm; have f5_ := f3_.symm; clear f1_ f2_ f3_; subst f4_; subst f5_))
 refine hK.out _ _ ⟨bc q6 0, bc q6 1, bc q6 2, bc qc 0, bc qc 1, bc qc 2⟩ (fun hHeld => ?_); clear hK K; refine norm_ (a' := ?_) ?_ ?_; rotate_left
 · show Act.put _ (some 25) _ = _
   exact APq
 refine pure_ (i := 15) (N := some 26) (v := ?_) (a' := ?_) #[true, true, true, true, true, true, true, true, true, true, true, true, true, true, true, true, false] rfl rfl (any_of HT_.out (by kernel_rfl)) (fun _ _ _ h => h) (Or.inl ⟨by rfl, ?_⟩) ?_ ?_; rotate_left
 · intro w'
   go_simp
   with_reducible rfl
 rotate_left
 · exact APq
 refine one_ (i := 16) (N := none) #[true, true, true, true, true, true, true, true, true, true, true, true, true, true, true, true, true] rfl rfl (one_of HT_.out (by kernel_rfl)) (by decide) (fun K hK => ?_); have hs22 : w20.cell? ⟨q0, 0, none⟩ = some (.bool false) := bc q3 0; have hfs22 := blk_frozen q3.out 0; have hns22_1 := qf.out; have hns22_2 := qg.out; have hms22_1 := qo.out; have hms22_2 := qp.out; have hs23 : w20.cell? ⟨q0, 1, none⟩ = some (.int .i64 0) := bc q3 1; have hfs23 := blk_frozen q3.out 1; have hns23_1 := qf.out; have hns23_2 := qg.out; have hms23_1 := qo.out; have hms23_2 := qp.out; have hs24 : w20.cell? ⟨q0, 2, none⟩ = some (.slice none 0 0) := bc q3 2; have hfs24 := blk_frozen q3.out 2; have hns24_1 := qf.out; have hns24_2 := qg.out; have hms24_1 := qo.out; have hms24_2 := qp.out; refine skip_ (w1 := ?_) (by rfl) rfl ?_ ?_; rotate_left
 · go_simp
   rfl
 refine hK.out _ _ ⟨((cell_far (p := ⟨q0, _, none⟩) qf.out _).trans (((cell_far (p := ⟨q0, _, none⟩) qf.out _).trans (((cell_far (p := ⟨q0, _, none⟩) qf.out _).trans (hHeld.1)))))), ((cell_far (p := ⟨q0, _, none⟩) qf.out _).trans (((cell_far (p := ⟨q0, _, none⟩) qf.out _).trans (((cell_far (p := ⟨q0, _, none⟩) qf.out _).trans (hHeld.2.1)))))), ((cell_far (p := ⟨q0, _, none⟩) qf.out _).trans (((cell_far (p := ⟨q0, _, none⟩) qf.out _).trans (((cell_far (p := ⟨q0, _, none⟩) qf.out _).trans (hHeld.2.2.1)))))), ((cell_far (p := ⟨q0, _, none⟩) qg.out _).trans (((cell_far (p := ⟨q0, _, none⟩) qg.out _).trans (((cell_far (p := ⟨q0, _, none⟩) qg.out _).trans (hHeld.2.2.2.1)))))), ((cell_far (p := ⟨q0, _, none⟩) qg.out _).trans (((cell_far (p := ⟨q0, _, none⟩) qg.out _).trans (((cell_far (p := ⟨q0, _, none⟩) qg.out _).trans (hHeld.2.2.2.2.1)))))), ((cell_far (p := ⟨q0, _, none⟩) qg.out _).trans (((cell_far (p := ⟨q0, _, none⟩) qg.out _).trans (((cell_far (p := ⟨q0, _, none⟩) qg.out _).trans (hHeld.2.2.2.2.2))))))⟩ (fun hHeld => ?_); clear hK K; refine done_ (done_of HT_.out (by kernel_rfl)) ?_
 try go_wp2
 refine bodyPost_ret (results_cell_row rfl _ _ q0 67 #[.bool (q4 != q5), .int .i64 (wrap64 (q7 + q9)), .slice qv ql.length qw] (0, 0) _ rfl (by (with_reducible repeat (first | refine blk_drewN ?_ _ | refine blk_drew ?_ | refine blk_alloc ?_ _)); refine blk_put (cs := #[.bool (q4 != q5), .int .i64 (wrap64 (q7 + q9)), .slice none 0 0]) ?_ 2 _ rfl; refine blk_put (cs := #[.bool (q4 != q5), .int .i64 0, .slice none 0 0]) ?_ 1 _ rfl; refine blk_put (cs := #[.bool false, .int .i64 0, .slice none 0 0]) ?_ 0 _ rfl; (with_reducible repeat (first | refine blk_drewN ?_ _ | refine blk_drew ?_ | refine blk_alloc ?_ _)); exact q3.out) Try.underlying67 rfl (by kernel_rfl)) rfl ?_; exact ⟨_, by first | rfl | (simp [errW_none, errW_some] <;> rfl) | (simp [*, errW_none, errW_some] <;> rfl), by (with_reducible repeat (first | apply Kd.V_alloc | apply Kd.V_drewN | apply Kd.V_drew)); exact Kd.V_mono (Kd.V_far (p := ⟨q0, 2, none⟩) (Kd.V_far (p := ⟨q0, 1, none⟩) (Kd.V_far (p := ⟨q0, 0, none⟩) (Kd.V_mono qu.out (fun k_ hk => (⟨hk, hk.2.1⟩ : _ ∧ k_ ≠ q0))) (fun _ hk => hk.2) (.bool (q4 != q5))) (fun _ hk => hk.2) (.int .i64 (wrap64 (q7 + q9)))) (fun _ hk => hk.2) (.slice qv ql.length qw)) (fun _ hk => hk.1.1), by repeat (first | (with_reducible first | exact HB.out | apply below_alloc | apply pw_below_drewN | apply below_drew1 | refine below_set ?_ qe.out | refine below_set ?_ qq.out | refine below_set ?_ qt.out) | exact HB.out)⟩
end Go.Proofs.Ytbgefpeicmbgiaa.X
end
section
namespace Go.Proofs.Ytbgefpeicmbgiaa.X
open Go.RowKit Go.Proofs.YtbgefpeicmbgiaaW.PrintWords Go.Proofs.YtbgefpeicmbgiaaW.PrintLast Go.Proofs.YtbgefpeicmbgiaaW.PrintMore
attribute [local go_sem] max2_int min2_int max_two min_two max_three min_three max_four min_four   
set_option linter.unusedVariables false
set_option linter.unusedSimpArgs false
mutual
def r6_Mul.j0 : Nat → Int → Int → Int → Bool → Option (Int × Int)
 | 0, _, _, _, _ => none
 | k + 1, x0, x1, x2, x13 => if x13 = true then ((r5_None.f x0 x1).bind fun q5 => (some (9221120237041090560, q5))) else ((r6_bad.f x0 x1).bind fun q6 => (if q6 = true then (some (9221120237041090560, 1)) else ((r3_Abs.f x0).bind fun q0 => (if q0 = 9218868437227405312 then (r6_Mul.j1 k x0 x1 x2 true) else ((r3_Abs.f x1).bind fun q1 => (r6_Mul.j1 k x0 x1 x2 (q1 == 9218868437227405312)))))))
def r6_Mul.j1 : Nat → Int → Int → Int → Bool → Option (Int × Int)
 | 0, _, _, _, _ => none
 | k + 1, x0, x1, x2, x27 => if x27 = true then ((r6_signed.f 9218868437227405312 x0 x1).bind fun q7 => (some (q7, 0))) else ((r6_Exact.f k x0 x1).bind fun q4 => ((r4_Round.f k q4.1 q4.2.1 q4.2.2 x2).bind fun q3 => (some (q3.1, q3.2))))
end
def r6_Mul.f (k : Nat) (a0 : Int) (a1 : Int) (a2 : Int) : Option (Int × Int) := (r3_NaN.f a0).bind fun q8 => (if q8 = true then (r6_Mul.j0 k a0 a1 a2 true) else ((r3_NaN.f a1).bind fun q2 => (r6_Mul.j0 k a0 a1 a2 q2)))
theorem r6_Mul.mono_l : ∀ k, (∀ y0 y1 y2 y3, LeO (r6_Mul.j0 k y0 y1 y2 y3) (r6_Mul.j0 (k + 1) y0 y1 y2 y3)) ∧ (∀ y0 y1 y2 y3, LeO (r6_Mul.j1 k y0 y1 y2 y3) (r6_Mul.j1 (k + 1) y0 y1 y2 y3))
 | 0 => ⟨fun _ _ _ _ r h => by simp [r6_Mul.j0] at h, fun _ _ _ _ r h => by simp [r6_Mul.j1] at h⟩
 | k + 1 => by
  obtain ⟨ih0, ih1⟩ := r6_Mul.mono_l k; refine ⟨?_, ?_⟩
  · intro y0 y1 y2 y3
    unfold r6_Mul.j0
    repeat' first
    | (with_reducible exact ih0 _ _ _ _)
    | (with_reducible exact ih1 _ _ _ _)
    | (with_reducible exact r4_Round.mono _ _ _ _ _)
    | (with_reducible exact r6_Exact.mono _ _ _)
    | (with_reducible exact LeO.refl _)
    | (with_reducible exact LeO.none _)
    | (with_reducible refine LeO.ite ?_ ?_)
    | (with_reducible refine LeO.bind ?_ (fun _ => ?_))
    | exact ih0 _ _ _ _
    | exact ih1 _ _ _ _
    | exact r4_Round.mono _ _ _ _ _
    | exact r6_Exact.mono _ _ _
    | exact LeO.none _
    | refine LeO.ite ?_ ?_
    | refine LeO.bind ?_ (fun _ => ?_)
  intro y0 y1 y2 y3
  unfold r6_Mul.j1
  repeat' first
  | (with_reducible exact ih0 _ _ _ _)
  | (with_reducible exact ih1 _ _ _ _)
  | (with_reducible exact r4_Round.mono _ _ _ _ _)
  | (with_reducible exact r6_Exact.mono _ _ _)
  | (with_reducible exact LeO.refl _)
  | (with_reducible exact LeO.none _)
  | (with_reducible refine LeO.ite ?_ ?_)
  | (with_reducible refine LeO.bind ?_ (fun _ => ?_))
  | exact ih0 _ _ _ _
  | exact ih1 _ _ _ _
  | exact r4_Round.mono _ _ _ _ _
  | exact r6_Exact.mono _ _ _
  | exact LeO.none _
  | refine LeO.ite ?_ ?_
  | refine LeO.bind ?_ (fun _ => ?_)
theorem r6_Mul.mono : ∀ a0 a1 a2 k, LeO (r6_Mul.f k a0 a1 a2) (r6_Mul.f (k + 1) a0 a1 a2) := by
 intro a0 a1 a2 k; obtain ⟨ih0, ih1⟩ := r6_Mul.mono_l k
 unfold r6_Mul.f
 repeat' first
  | (with_reducible exact ih0 _ _ _ _)
  | (with_reducible exact ih1 _ _ _ _)
  | (with_reducible exact r4_Round.mono _ _ _ _ _)
  | (with_reducible exact r6_Exact.mono _ _ _)
  | (with_reducible exact LeO.refl _)
  | (with_reducible exact LeO.none _)
  | (with_reducible refine LeO.ite ?_ ?_)
  | (with_reducible refine LeO.bind ?_ (fun _ => ?_))
  | exact ih0 _ _ _ _
  | exact ih1 _ _ _ _
  | exact r4_Round.mono _ _ _ _ _
  | exact r6_Exact.mono _ _ _
  | exact LeO.none _
  | refine LeO.ite ?_ ?_
  | refine LeO.bind ?_ (fun _ => ?_)
set_option maxHeartbeats 8000000 in
set_option maxRecDepth 100000 in
theorem r6_Mul.calls (k : Nat) (a0 : Int) (a1 : Int) (a2 : Int) (r1 : Int) (r2 : Int) (w : World) (h : r6_Mul.f k a0 a1 a2 = some (r1, r2)) :
 Calls Try.prog 27 #[.int .u64 a0, .int .u64 a1, .int .i64 a2] w fun e w' => e = .returned (.tuple #[.int .u64 r1, .int .i64 r2]) ∧ Below w.heap.size w w' := by
 have HB := Aside0.mk (Below.refl w.heap.size w); have H : ((r3_NaN.f a0).bind fun q8 => (if q8 = true then (r6_Mul.j0 k a0 a1 a2 true) else ((r3_NaN.f a1).bind fun q2 => (r6_Mul.j0 k a0 a1 a2 q2)))) = some (r1, r2) := h; clear h; have HC4 := Aside0.mk H; clear H
 go_enter Try.func27, Try.ntmps27
 go_upto_region 1 with (fail)
 go_cut [13] (fun v13 wc => ∃ (kq : Nat) (qb : Bool), v13 = .bool qb ∧ Aside0 (r6_Mul.j0 kq a0 a1 a2 qb = some (r1, r2)) ∧ Aside0 (kq ≤ k) ∧ Aside0 (Below w.heap.size w wc))
 case first =>
  have H := HC4.out; clear HC4; replace H := Option.bind_eq_some_iff.mp H; obtain ⟨q8, A50, H⟩ := H; replace H : (if q8 = true then (r6_Mul.j0 k a0 a1 a2 true) else ((r3_NaN.f a1).bind fun q2 => (r6_Mul.j0 k a0 a1 a2 q2))) = some (r1, r2) := H; have A5 := Aside0.mk A50; clear A50
  by_cases c6 : q8 = true
  · subst c6
    have H1 : (r6_Mul.j0 k a0 a1 a2 true) = some (r1, r2) := by rw [if_pos rfl] at H; exact H
    clear H; have H := H1; clear H1; have H' := Aside0.mk H; clear H
    go_wp2_with (first | ((with_reducible refine gate_callee (f := 36) rfl ?_); refine goesL_ (some 9) rfl rfl Try.func36 (by kernel_rfl) rfl #[.int .u64 a0] rfl LMq ?_; (with_reducible refine (r3_NaN.calls a0 true _ A5.out).mono ?_); rintro e w7 ⟨rfl, hb⟩; refine ⟨_, rfl, ?_⟩; replace HB := Aside0.mk (below_step (kH HB) hb); (try clear hb); (try clear hb2); (try clear hk); (try clear hi)))
    go_meet
    case rel => exact ⟨_, (true), RSq, (by first | exact H' | (subst_vars; exact H')), ⟨by first | omega | exact Nat.le_refl _⟩, ⟨kH HB⟩⟩
  replace c6 := Bool.eq_false_iff.mpr c6; subst c6
  have H1 : ((r3_NaN.f a1).bind fun q2 => (r6_Mul.j0 k a0 a1 a2 q2)) = some (r1, r2) := by rw [if_neg (show ¬ (false = true) by decide)] at H; exact H
  clear H; have H := H1; clear H1; replace H := Option.bind_eq_some_iff.mp H; obtain ⟨q2, A80, H⟩ := H; replace H : (r6_Mul.j0 k a0 a1 a2 q2) = some (r1, r2) := H; have A8 := Aside0.mk A80; clear A80; have H' := Aside0.mk H; clear H
  go_wp2_with (first | ((with_reducible refine gate_callee (f := 36) rfl ?_); refine goesL_ (some 9) rfl rfl Try.func36 (by kernel_rfl) rfl #[.int .u64 a0] rfl LMq ?_; (with_reducible refine (r3_NaN.calls a0 false _ A5.out).mono ?_); rintro e w9 ⟨rfl, hb⟩; refine ⟨_, rfl, ?_⟩; replace HB := Aside0.mk (below_step (kH HB) hb); (try clear hb); (try clear hb2); (try clear hk); (try clear hi)) | (go_at_call 36; (with_reducible refine (r3_NaN.calls a1 q2 _ A8.out).mono ?_); rintro e w10 ⟨rfl, hb⟩; replace HB := Aside0.mk (below_step (kH HB) hb); (try clear hb); (try clear hb2); (try clear hk); (try clear hi)))
  go_meet
  case rel => exact ⟨_, (q2), RSq, (by first | exact H' | (subst_vars; exact H')), ⟨by first | omega | exact Nat.le_refl _⟩, ⟨kH HB⟩⟩
 case rest =>
  clear HC4; (try clear c2); (try clear p2); (try clear c3); (try clear c6); (try clear p6); obtain ⟨kq, qb, rfl, HA, HJ3, HB⟩ := hcut
  cases kq with
  | zero => exact absurd HA.out (by simp [r6_Mul.j0])
  | succ kj3 =>
   have H := HA.out; clear HA
   simp only [r6_Mul.j0] at H
   by_cases c11 : qb = true
   · subst c11
     have H1 : ((r5_None.f a0 a1).bind fun q5 => (some (9221120237041090560, q5))) = some (r1, r2) := by rw [if_pos rfl] at H; exact H
     clear H; have H := H1; clear H1; replace H := Option.bind_eq_some_iff.mp H; obtain ⟨q5, qi, H⟩ := H; replace H : (some (9221120237041090560, q5)) = some (r1, r2) := H; have A12 := Aside0.mk qi; clear qi
     simp only [Option.some.injEq, Prod.mk.injEq] at H
     obtain ⟨rfl, rfl⟩ := H
     go_wp2_with (first | ((with_reducible refine gate_callee (f := 53) rfl ?_); refine goesL_ (some 16) rfl rfl Try.func53 (by kernel_rfl) rfl #[.int .u64 a0, .int .u64 a1] rfl LMq ?_; (with_reducible refine (r5_None.calls a0 a1 q5 _ A12.out).mono ?_); rintro e w13 ⟨rfl, hb⟩; refine ⟨_, rfl, ?_⟩; replace HB := Aside0.mk (below_step (kH HB) hb); (try clear hb); (try clear hb2); (try clear hk); (try clear hi)))
     go_ret2
     exact ⟨by first | rfl | (simp [errW_none, errW_some] <;> rfl) | (simp [*, errW_none, errW_some] <;> rfl), kH HB⟩
   replace c11 := Bool.eq_false_iff.mpr c11; subst c11
   have H1 : ((r6_bad.f a0 a1).bind fun q6 => (if q6 = true then (some (9221120237041090560, 1)) else ((r3_Abs.f a0).bind fun q0 => (if q0 = 9218868437227405312 then (r6_Mul.j1 kj3 a0 a1 a2 true) else ((r3_Abs.f a1).bind fun q1 => (r6_Mul.j1 kj3 a0 a1 a2 (q1 == 9218868437227405312))))))) = some (r1, r2) := by rw [if_neg (show ¬ (false = true) by decide)] at H; exact H
   clear H; have H := H1; clear H1; replace H := Option.bind_eq_some_iff.mp H; obtain ⟨q6, qj, H⟩ := H; replace H : (if q6 = true then (some (9221120237041090560, 1)) else ((r3_Abs.f a0).bind fun q0 => (if q0 = 9218868437227405312 then (r6_Mul.j1 kj3 a0 a1 a2 true) else ((r3_Abs.f a1).bind fun q1 => (r6_Mul.j1 kj3 a0 a1 a2 (q1 == 9218868437227405312)))))) = some (r1, r2) := H; have A14 := Aside0.mk qj; clear qj
   by_cases c15 : q6 = true
   · subst c15
     have H1 : (some (9221120237041090560, 1)) = some (r1, r2) := by rw [if_pos rfl] at H; exact H
     clear H; have H := H1; clear H1
     simp only [Option.some.injEq, Prod.mk.injEq] at H
     obtain ⟨rfl, rfl⟩ := H
     go_wp2_with (first | ((with_reducible refine gate_callee (f := 52) rfl ?_); refine goesL_ (some 19) rfl rfl Try.func52 (by kernel_rfl) rfl #[.int .u64 a0, .int .u64 a1] rfl LMq ?_; (with_reducible refine (r6_bad.calls a0 a1 true _ A14.out).mono ?_); rintro e w16 ⟨rfl, hb⟩; refine ⟨_, rfl, ?_⟩; replace HB := Aside0.mk (below_step (kH HB) hb); (try clear hb); (try clear hb2); (try clear hk); (try clear hi)))
     go_ret2
     exact ⟨by first | rfl | (simp [errW_none, errW_some] <;> rfl) | (simp [*, errW_none, errW_some] <;> rfl), kH HB⟩
   replace c15 := Bool.eq_false_iff.mpr c15; subst c15
   have H1 : ((r3_Abs.f a0).bind fun q0 => (if q0 = 9218868437227405312 then (r6_Mul.j1 kj3 a0 a1 a2 true) else ((r3_Abs.f a1).bind fun q1 => (r6_Mul.j1 kj3 a0 a1 a2 (q1 == 9218868437227405312))))) = some (r1, r2) := by rw [if_neg (show ¬ (false = true) by decide)] at H; exact H
   clear H; have H := H1; clear H1; have qh := Aside0.mk H; clear H
   go_upto_region 5 with (first | ((with_reducible refine gate_callee (f := 52) rfl ?_); refine goesL_ (some 19) rfl rfl Try.func52 (by kernel_rfl) rfl #[.int .u64 a0, .int .u64 a1] rfl LMq ?_; (with_reducible refine (r6_bad.calls a0 a1 false _ A14.out).mono ?_); rintro e w18 ⟨rfl, hb⟩; refine ⟨_, rfl, ?_⟩; replace HB := Aside0.mk (below_step (kH HB) hb); (try clear hb); (try clear hb2); (try clear hk); (try clear hi)))
   (try simp only [Act.put, List.setIfInBounds_toArray, List.set_cons_zero, List.set_cons_succ])
   go_cut [27] (fun v27 wc => ∃ (kq : Nat) (qc : Bool), v27 = .bool qc ∧ Aside0 (r6_Mul.j1 kq a0 a1 a2 qc = some (r1, r2)) ∧ Aside0 (kq ≤ kj3) ∧ Aside0 (Below w.heap.size w wc))
   case first =>
    have H := qh.out; clear qh; replace H := Option.bind_eq_some_iff.mp H; obtain ⟨q0, qk, H⟩ := H; replace H : (if q0 = 9218868437227405312 then (r6_Mul.j1 kj3 a0 a1 a2 true) else ((r3_Abs.f a1).bind fun q1 => (r6_Mul.j1 kj3 a0 a1 a2 (q1 == 9218868437227405312)))) = some (r1, r2) := H; have A19 := Aside0.mk qk; clear qk
    by_cases c20 : q0 = 9218868437227405312
    · rw [if_pos c20] at H
      have q9 : (q0 == 9218868437227405312) = true := beq_iff_eq.mpr c20; have ql : (q0 != 9218868437227405312) = false := bne_eq_false_iff_eq.mpr c20; clear c20
      (first | rw [q9] | (simp only [i64_w, i32_w]; rw [q9]) | skip)
      have H' := Aside0.mk H; clear H
      go_wp2_with (first | ((with_reducible refine gate_callee (f := 54) rfl ?_); refine goesL_ (some 21) rfl rfl Try.func54 (by kernel_rfl) rfl #[.int .u64 a0] rfl LMq ?_; (with_reducible refine (r3_Abs.calls a0 q0 _ A19.out).mono ?_); rintro e w21 ⟨rfl, hb⟩; refine ⟨_, rfl, ?_⟩; replace HB := Aside0.mk (below_step (kH HB) hb); (try clear hb); (try clear hb2); (try clear hk); (try clear hi)))
      go_meet
      case rel => exact ⟨_, (true), RSq, (by first | exact H' | (subst_vars; exact H')), ⟨by have := HJ3.out; first | omega | exact Nat.le_refl _⟩, ⟨kH HB⟩⟩
    rw [if_neg c20] at H
    have q9 : (q0 == 9218868437227405312) = false := beq_eq_false_iff_ne.mpr c20; have ql : (q0 != 9218868437227405312) = true := bne_iff_ne.mpr c20
    (first | rw [q9] | (simp only [i64_w, i32_w]; rw [q9]) | skip)
    replace H := Option.bind_eq_some_iff.mp H; obtain ⟨q1, qm, H⟩ := H; replace H : (r6_Mul.j1 kj3 a0 a1 a2 (q1 == 9218868437227405312)) = some (r1, r2) := H; have A22 := Aside0.mk qm; clear qm; have H' := Aside0.mk H; clear H
    go_wp2_with (first | ((with_reducible refine gate_callee (f := 54) rfl ?_); refine goesL_ (some 21) rfl rfl Try.func54 (by kernel_rfl) rfl #[.int .u64 a0] rfl LMq ?_; (with_reducible refine (r3_Abs.calls a0 q0 _ A19.out).mono ?_); rintro e w23 ⟨rfl, hb⟩; refine ⟨_, rfl, ?_⟩; replace HB := Aside0.mk (below_step (kH HB) hb); (try clear hb); (try clear hb2); (try clear hk); (try clear hi)) | (go_at_call 54; (with_reducible refine (r3_Abs.calls a1 q1 _ A22.out).mono ?_); rintro e w24 ⟨rfl, hb⟩; replace HB := Aside0.mk (below_step (kH HB) hb); (try clear hb); (try clear hb2); (try clear hk); (try clear hi)))
    go_meet
    case rel => exact ⟨_, ((q1 == 9218868437227405312)), RSq, (by first | exact H' | (subst_vars; exact H')), ⟨by have := HJ3.out; first | omega | exact Nat.le_refl _⟩, ⟨kH HB⟩⟩
   case rest =>
    clear qh; (try clear c1); (try clear c2); (try clear p2); (try clear c3); (try clear c5); (try clear c6); (try clear p6); (try clear c11); (try clear c15); (try clear c20); (try clear q9); (try clear ql); (try clear p2); (try clear p6); obtain ⟨kq, qc, rfl, HA, HJ16, HB⟩ := hcut
    cases kq with
    | zero => exact absurd HA.out (by simp [r6_Mul.j1])
    | succ qa =>
     have H := HA.out; clear HA
     simp only [r6_Mul.j1] at H
     by_cases c25 : qc = true
     · subst c25
       have H1 : ((r6_signed.f 9218868437227405312 a0 a1).bind fun q7 => (some (q7, 0))) = some (r1, r2) := by rw [if_pos rfl] at H; exact H
       clear H; have H := H1; clear H1; replace H := Option.bind_eq_some_iff.mp H; obtain ⟨q7, qn, H⟩ := H; replace H : (some (q7, 0)) = some (r1, r2) := H; have A26 := Aside0.mk qn; clear qn
       simp only [Option.some.injEq, Prod.mk.injEq] at H
       obtain ⟨rfl, rfl⟩ := H
       go_wp2_with (first | ((with_reducible refine gate_callee (f := 55) rfl ?_); refine goesL_ (some 30) rfl rfl Try.func55 (by kernel_rfl) rfl #[.int .u64 9218868437227405312, .int .u64 a0, .int .u64 a1] rfl LMq ?_; (with_reducible refine (r6_signed.calls 9218868437227405312 a0 a1 q7 _ A26.out).mono ?_); rintro e w' ⟨rfl, ⟨nd, rfl⟩⟩; refine ⟨_, rfl, ?_⟩))
       go_ret2
       exact ⟨by first | rfl | (simp [errW_none, errW_some] <;> rfl) | (simp [*, errW_none, errW_some] <;> rfl), kH HB⟩
     replace c25 := Bool.eq_false_iff.mpr c25; subst c25
     have H1 : ((r6_Exact.f qa a0 a1).bind fun q4 => ((r4_Round.f qa q4.1 q4.2.1 q4.2.2 a2).bind fun q3 => (some (q3.1, q3.2)))) = some (r1, r2) := by rw [if_neg (show ¬ (false = true) by decide)] at H; exact H
     clear H; have H := H1; clear H1; replace H := Option.bind_eq_some_iff.mp H; obtain ⟨⟨qd, qe, qf⟩, qo, H⟩ := H; replace H : ((r4_Round.f qa qd qe qf a2).bind fun q3 => (some (q3.1, q3.2))) = some (r1, r2) := H; have A27 := Aside0.mk qo; clear qo; replace H := Option.bind_eq_some_iff.mp H; obtain ⟨⟨qp, qq⟩, qr, H⟩ := H; replace H : (some (qp, qq)) = some (r1, r2) := H; have A28 := Aside0.mk qr; clear qr
     simp only [Option.some.injEq, Prod.mk.injEq] at H
     obtain ⟨rfl, rfl⟩ := H
     go_wp2_with (first | ((with_reducible refine gate_callee (f := 57) rfl ?_); refine goesL_ (some 33) rfl rfl Try.func57 (by kernel_rfl) rfl #[.int .u64 a0, .int .u64 a1] rfl LMq ?_; (with_reducible refine (r6_Exact.calls qa a0 a1 qd qe qf _ A27.out).mono ?_); rintro e w29 ⟨v513, rfl, ho0, hb⟩; refine ⟨_, rfl, ?_⟩; have qg := Aside0.mk (Kd.V_lower (Kd.V_mono (ok' := fun k_ => True) ho0 (fun k_ hk_ => trivial)) (below_size (kH HB))); replace HB := Aside0.mk (below_step (kH HB) hb); (try clear hb); (try clear hb2); (try clear hk); (try clear hi); (try clear ho0); obtain ⟨qs, qt, eo30⟩ := Kd.V_slice qg.out; subst eo30) | ((with_reducible refine gate_callee (f := 32) rfl ?_); refine goesL_ (some 35) rfl rfl Try.func32 (by kernel_rfl) rfl #[.agg #[.bool qd, .int .i64 qe, .slice qs qf.length qt], .int .i64 a2] rfl LMq ?_; (with_reducible refine (r4_Round.calls qa qd qe (fun k_ => True) _ _ qf a2 qp qq _ ?side1 A28.out).mono ?_); (case side1 => exact qg.out); rintro e w31 ⟨rfl, hb⟩; refine ⟨_, rfl, ?_⟩; replace qg := Aside0.mk (Kd.V_below (kV qg) hb); replace HB := Aside0.mk (below_step (kH HB) hb); (try clear hb); (try clear hb2); (try clear hk); (try clear hi)))
     go_ret2
     exact ⟨by first | rfl | (simp [errW_none, errW_some] <;> rfl) | (simp [*, errW_none, errW_some] <;> rfl), kH HB⟩
end Go.Proofs.Ytbgefpeicmbgiaa.X
end
section
namespace Go.Proofs.Ytbgefpeicmbgiaa.X
open Go.RowKit Go.Proofs.YtbgefpeicmbgiaaW.PrintWords Go.Proofs.YtbgefpeicmbgiaaW.PrintLast Go.Proofs.YtbgefpeicmbgiaaW.PrintMore
attribute [local go_sem] max2_int min2_int max_two min_two max_three min_three max_four min_four   
set_option linter.unusedVariables false
set_option linter.unusedSimpArgs false
def tillerlaw06_ProdMuls.f (k : Nat) (a0 : Int) (a1 : Int) (a2 : Int) : Option (Bool) := (prod_Mul.f k a0 a1 a2).bind fun q6 => ((r6_Mul.f k a0 a1 a2).bind fun q5 => (if q6.1 = q5.1 then (if (wrap64 (q6.2)) = q5.2 then ((tillerlaw06_sure.f k).bind fun q0 => (some q0)) else (some false)) else (some false)))
theorem tillerlaw06_ProdMuls.mono : ∀ a0 a1 a2 k, LeO (tillerlaw06_ProdMuls.f k a0 a1 a2) (tillerlaw06_ProdMuls.f (k + 1) a0 a1 a2) := by
 intro a0 a1 a2 k
 unfold tillerlaw06_ProdMuls.f
 repeat' first
  | (with_reducible exact prod_Mul.mono _ _ _ _)
  | (with_reducible exact tillerlaw06_sure.mono _)
  | (with_reducible exact r6_Mul.mono _ _ _ _)
  | (with_reducible exact LeO.refl _)
  | (with_reducible exact LeO.none _)
  | (with_reducible refine LeO.ite ?_ ?_)
  | (with_reducible refine LeO.bind ?_ (fun _ => ?_))
  | exact prod_Mul.mono _ _ _ _
  | exact tillerlaw06_sure.mono _
  | exact r6_Mul.mono _ _ _ _
  | exact LeO.none _
  | refine LeO.ite ?_ ?_
  | refine LeO.bind ?_ (fun _ => ?_)
set_option maxHeartbeats 8000000 in
set_option maxRecDepth 100000 in
theorem tillerlaw06_ProdMuls.calls (k : Nat) (a0 : Int) (a1 : Int) (a2 : Int) (r : Bool) (w : World) (h : tillerlaw06_ProdMuls.f k a0 a1 a2 = some r) :
 Calls Try.prog 9 #[.int .u64 a0, .int .u64 a1, .int .i64 a2] w fun e w' => e = .returned (.bool r) ∧ Below w.heap.size w w' := by
 have HB := Aside0.mk (Below.refl w.heap.size w); have H : ((prod_Mul.f k a0 a1 a2).bind fun q6 => ((r6_Mul.f k a0 a1 a2).bind fun q5 => (if q6.1 = q5.1 then (if (wrap64 (q6.2)) = q5.2 then ((tillerlaw06_sure.f k).bind fun q0 => (some q0)) else (some false)) else (some false)))) = some r := h; clear h; replace H := Option.bind_eq_some_iff.mp H; obtain ⟨⟨q1, q2⟩, A40, H⟩ := H; replace H : ((r6_Mul.f k a0 a1 a2).bind fun q5 => (if q1 = q5.1 then (if (wrap64 (q2)) = q5.2 then ((tillerlaw06_sure.f k).bind fun q0 => (some q0)) else (some false)) else (some false))) = some r := H; have A4 := Aside0.mk A40; clear A40; replace H := Option.bind_eq_some_iff.mp H; obtain ⟨⟨q3, q4⟩, A50, H⟩ := H; replace H : (if q1 = q3 then (if (wrap64 (q2)) = q4 then ((tillerlaw06_sure.f k).bind fun q0 => (some q0)) else (some false)) else (some false)) = some r := H; have A5 := Aside0.mk A50; clear A50
 by_cases c6 : q1 = q3
 · rw [if_pos c6] at H
   have q7 : (q1 == q3) = true := beq_iff_eq.mpr c6; have q8 : (q1 != q3) = false := bne_eq_false_iff_eq.mpr c6; clear c6
   by_cases c7 : (wrap64 (q2)) = q4
   · rw [if_pos c7] at H
     have q9 : ((wrap64 (q2)) == q4) = true := beq_iff_eq.mpr c7; have qa : ((wrap64 (q2)) != q4) = false := bne_eq_false_iff_eq.mpr c7; clear c7; replace H := Option.bind_eq_some_iff.mp H; obtain ⟨q0, A80, H⟩ := H; replace H : (some q0) = some r := H; have A8 := Aside0.mk A80; clear A80; obtain rfl := Option.some.inj H
     go_enter Try.func9, Try.ntmps9
     go_wp2_with (first | ((with_reducible refine gate_callee (f := 26) rfl ?_); refine goesL_ (some 15) rfl rfl Try.func26 (by kernel_rfl) rfl #[.int .u64 a0, .int .u64 a1, .int .i64 a2] rfl LMq ?_; (with_reducible refine (prod_Mul.calls k a0 a1 a2 q1 q2 _ A4.out).mono ?_); rintro e w9 ⟨rfl, hb⟩; refine ⟨_, rfl, ?_⟩; replace HB := Aside0.mk (below_step (kH HB) hb); (try clear hb); (try clear hb2); (try clear hk); (try clear hi)) | ((with_reducible refine gate_callee (f := 27) rfl ?_); refine goesL_ (some 22) rfl rfl Try.func27 (by kernel_rfl) rfl #[.int .u64 a0, .int .u64 a1, .int .i64 a2] rfl LMq ?_; (with_reducible refine (r6_Mul.calls k a0 a1 a2 q3 q4 _ A5.out).mono ?_); rintro e w10 ⟨rfl, hb⟩; refine ⟨_, rfl, ?_⟩; replace HB := Aside0.mk (below_step (kH HB) hb); (try clear hb); (try clear hb2); (try clear hk); (try clear hi)) | (go_at_call 25; (with_reducible refine (tillerlaw06_sure.calls k  q0 _ A8.out).mono ?_); rintro e w11 ⟨rfl, hb⟩; replace HB := Aside0.mk (below_step (kH HB) hb); (try clear hb); (try clear hb2); (try clear hk); (try clear hi)))
     go_ret
     exact ⟨by first | rfl | (simp [errW_none, errW_some] <;> rfl) | (simp [*, errW_none, errW_some] <;> rfl), kH HB⟩
   rw [if_neg c7] at H
   have q9 : ((wrap64 (q2)) == q4) = false := beq_eq_false_iff_ne.mpr c7; have qa : ((wrap64 (q2)) != q4) = true := bne_iff_ne.mpr c7; obtain rfl := Option.some.inj H
   go_enter Try.func9, Try.ntmps9
   go_wp2_with (first | ((with_reducible refine gate_callee (f := 26) rfl ?_); refine goesL_ (some 15) rfl rfl Try.func26 (by kernel_rfl) rfl #[.int .u64 a0, .int .u64 a1, .int .i64 a2] rfl LMq ?_; (with_reducible refine (prod_Mul.calls k a0 a1 a2 q1 q2 _ A4.out).mono ?_); rintro e w12 ⟨rfl, hb⟩; refine ⟨_, rfl, ?_⟩; replace HB := Aside0.mk (below_step (kH HB) hb); (try clear hb); (try clear hb2); (try clear hk); (try clear hi)) | ((with_reducible refine gate_callee (f := 27) rfl ?_); refine goesL_ (some 22) rfl rfl Try.func27 (by kernel_rfl) rfl #[.int .u64 a0, .int .u64 a1, .int .i64 a2] rfl LMq ?_; (with_reducible refine (r6_Mul.calls k a0 a1 a2 q3 q4 _ A5.out).mono ?_); rintro e w13 ⟨rfl, hb⟩; refine ⟨_, rfl, ?_⟩; replace HB := Aside0.mk (below_step (kH HB) hb); (try clear hb); (try clear hb2); (try clear hk); (try clear hi)))
   go_ret
   exact ⟨by first | rfl | (simp [errW_none, errW_some] <;> rfl) | (simp [*, errW_none, errW_some] <;> rfl), kH HB⟩
 rw [if_neg c6] at H
 have q7 : (q1 == q3) = false := beq_eq_false_iff_ne.mpr c6; have q8 : (q1 != q3) = true := bne_iff_ne.mpr c6; obtain rfl := Option.some.inj H
 go_enter Try.func9, Try.ntmps9
 go_wp2_with (first | ((with_reducible refine gate_callee (f := 26) rfl ?_); refine goesL_ (some 15) rfl rfl Try.func26 (by kernel_rfl) rfl #[.int .u64 a0, .int .u64 a1, .int .i64 a2] rfl LMq ?_; (with_reducible refine (prod_Mul.calls k a0 a1 a2 q1 q2 _ A4.out).mono ?_); rintro e w14 ⟨rfl, hb⟩; refine ⟨_, rfl, ?_⟩; replace HB := Aside0.mk (below_step (kH HB) hb); (try clear hb); (try clear hb2); (try clear hk); (try clear hi)) | ((with_reducible refine gate_callee (f := 27) rfl ?_); refine goesL_ (some 22) rfl rfl Try.func27 (by kernel_rfl) rfl #[.int .u64 a0, .int .u64 a1, .int .i64 a2] rfl LMq ?_; (with_reducible refine (r6_Mul.calls k a0 a1 a2 q3 q4 _ A5.out).mono ?_); rintro e w15 ⟨rfl, hb⟩; refine ⟨_, rfl, ?_⟩; replace HB := Aside0.mk (below_step (kH HB) hb); (try clear hb); (try clear hb2); (try clear hk); (try clear hi)))
 go_ret
 exact ⟨by first | rfl | (simp [errW_none, errW_some] <;> rfl) | (simp [*, errW_none, errW_some] <;> rfl), kH HB⟩
def tillerlaw06_ProdMuls.Pure : Prop := ∀ (a0 : Int) (a1 : Int) (a2 : Int), (Lit.int .u64 a0).wf = true → (Lit.int .u64 a1).wf = true → (Lit.int .i64 a2).wf = true → ∃ k, tillerlaw06_ProdMuls.f k a0 a1 a2 = some true
theorem tillerlaw06_ProdMuls.walk (P : tillerlaw06_ProdMuls.Pure) (a0 : Int) (a1 : Int) (a2 : Int) (w : World) (w0 : (Lit.int .u64 a0).wf = true) (w1 : (Lit.int .u64 a1).wf = true) (w2 : (Lit.int .i64 a2).wf = true) :
 Calls Try.prog 9 #[.int .u64 a0, .int .u64 a1, .int .i64 a2] w fun e w' => e = .returned (.bool true) ∧ Below w.heap.size w w' := by
 obtain ⟨k, h⟩ := P a0 a1 a2 w0 w1 w2; refine (tillerlaw06_ProdMuls.calls k a0 a1 a2 true w h).mono ?_; rintro e w' ⟨rfl, hd⟩; exact ⟨rfl, hd⟩
end Go.Proofs.Ytbgefpeicmbgiaa.X
end
section
namespace Go.Proofs.Ytbgefpeicmbgiaa
set_option linter.unusedVariables false
set_option linter.unusedSimpArgs false
open Go.RowKit X Go.Proofs.YtbgefpeicmbgiaaW.PrintWords
theorem nok_zeros (m : Nat) : nok (List.replicate m 0) := fun d hd => by have := List.eq_of_mem_replicate hd; omega
theorem nv_zeros (m : Nat) : nv (List.replicate m 0) = 0 := by
  induction m with
  | zero => rfl
  | succ m ih => rw [List.replicate_succ]; show (0 : Int).toNat + 65536 * nv (List.replicate m 0) = 0; rw [ih]; rfl
theorem two_16 {r : Nat} (h : r < 16) : 2 ^ r ≤ 32768 ∧ 1 ≤ 2 ^ r := ⟨by have := Nat.pow_le_pow_right (n := 2) (by omega) (show r ≤ 15 by omega); omega, Nat.two_pow_pos r⟩
theorem tmod_16 (n : Nat) : Int.tmod (n : Int) 16 = ((n % 16 : Nat) : Int) := by rw [Int.tmod_eq_emod_of_nonneg (by omega)]; omega
theorem tdiv_16 {n : Nat} (h : n < 4000000000000000000) : wrap64 (Int.tdiv (n : Int) 16) = ((n / 16 : Nat) : Int) := by rw [Int.tdiv_eq_ediv_of_nonneg (by omega)]; unfold wrap64; omega
section
variable {x y B : Nat}
theorem shl_loop1 (hB : B ≤ 1000000) (hx : x < 65536 ^ B) (q p : Nat) (hq : q ≤ 1000000) (hp : p ≤ 32768) : ∀ (d i c : Nat) (out : List Int), i + d = B → nok out → out.length = q + i → c < 65536 →
    nv out + 65536 ^ (q + i) * (c + x / 65536 ^ i * p) = 65536 ^ q * (x * p) → Ev (fun k => r2_Shl.l1 k (ln x) out (p : Int) (c : Int) (i : Int)) (ln (65536 ^ q * (x * p))) := by
  have fin : ∀ (i c : Nat) (out : List Int), i ≤ B → nok out → out.length = q + i → c < 65536 → nv out + 65536 ^ (q + i) * (c + x / 65536 ^ i * p) = 65536 ^ q * (x * p) → ¬ 65536 ^ i ≤ x → Ev (fun k => r2_Shl.l1 k (ln x) out (p : Int) (c : Int) (i : Int)) (ln (65536 ^ q * (x * p))) := by
    intro i c out hi hok hlen hc hv h1
    rw [div_zero_of h1, Nat.zero_mul, Nat.add_zero] at hv
    refine Ev.step (f := fun k => (r2_trim.f k (out ++ [(c : Int)])).bind fun t => some t) (fun k => ?_) (trim_to (nok_append hok (nok_one (by omega) (by omega))) (by simp; omega) (by rw [nv_append, nv_one, hlen, Int.toNat_natCast]; exact hv))
    simp only [r2_Shl.l1]
    rw [if_neg (len_neg h1), if_pos (by omega)]
  intro d
  induction d with
  | zero =>
    intro i c out hi hok hlen hc hv
    exact fin i c out (by omega) hok hlen hc hv (by rw [show i = B by omega]; omega)
  | succ d ih =>
    intro i c out hi hok hlen hc hv
    by_cases h1 : 65536 ^ i ≤ x
    · have hx' := div_step x i
      generalize hX : x / 65536 ^ (i + 1) = X at *
      generalize hdx : x / 65536 ^ i % 65536 = dx at *
      have bx : dx < 65536 := by omega
      have bm : dx * p ≤ 65535 * 32768 := Nat.mul_le_mul (by omega) hp
      generalize hm : dx * p = m at *
      refine Ev.step (f := fun k => r2_Shl.l1 k (ln x) (out ++ [(((c + m) % 65536 : Nat) : Int)]) (p : Int) (((c + m) / 65536 : Nat) : Int) ((i + 1 : Nat) : Int)) (fun k => ?_) (ih _ _ _ (by omega) (nok_append hok (nok_one (by omega) (by omega))) (by simp [hlen]; omega) (by omega) ?_)
      · simp only [r2_Shl.l1]
        rw [if_pos (len_pos h1), if_pos (by omega), if_pos (by omega), w1 (by omega), rd_ln, hdx]
        have e : ((dx : Nat) : Int) * (p : Int) = (m : Int) := by rw [← hm]; push_cast; rfl
        have eD : ((c : Int) + (m : Int)) % 65536 = (((c + m) % 65536 : Nat) : Int) := by omega
        have eC : (((c : Int) + (m : Int)) % 4294967296) / 65536 = (((c + m) / 65536 : Nat) : Int) := by omega
        rw [e, eD, eC]
      · rw [nv_append, hlen, nv_one, Int.toNat_natCast, hX, ← hv, hx', ← Nat.add_assoc q i 1, Nat.add_assoc, pw_step]
        congr 2
        rw [Nat.add_mul, hm, Nat.mul_assoc]
        generalize X * p = Z
        omega
    · exact fin i c out (by omega) hok hlen hc hv h1
theorem shl_loop0 (hB : B ≤ 1000000) (hx : x < 65536 ^ B) (n : Nat) (hn : n ≤ 10000000) : ∀ (d j : Nat), j + d = n % 16 → Ev (fun k => r2_Shl.l0 k (ln x) (n : Int) (List.replicate (n / 16) 0) ((2 ^ j : Nat) : Int) (j : Int)) (ln (x * 2 ^ n)) := by
  intro d
  induction d with
  | zero =>
    intro j hj
    have h2 := two_16 (show n % 16 < 16 by omega)
    have := shl_loop1 hB hx (n / 16) (2 ^ (n % 16)) (by omega) h2.1 B 0 0 (List.replicate (n / 16) 0) (by omega) (nok_zeros _) (by simp) (by omega) (by rw [nv_zeros, Nat.pow_zero, Nat.div_one]; simp)
    rw [show 65536 ^ (n / 16) * (x * 2 ^ (n % 16)) = x * 2 ^ n by rw [← pow_16 n, Nat.mul_left_comm]] at this
    refine Ev.step (f := fun k => r2_Shl.l1 k (ln x) (List.replicate (n / 16) 0) ((2 ^ (n % 16) : Nat) : Int) ((0 : Nat) : Int) ((0 : Nat) : Int)) (fun k => ?_) this
    simp only [r2_Shl.l0]
    rw [tmod_16, if_neg (by omega), show j = n % 16 by omega]
    rfl
  | succ d ih =>
    intro j hj
    have h2 := two_16 (show j < 16 by omega)
    refine Ev.step (f := fun k => r2_Shl.l0 k (ln x) (n : Int) (List.replicate (n / 16) 0) ((2 ^ (j + 1) : Nat) : Int) ((j + 1 : Nat) : Int)) (fun k => ?_) (ih (j + 1) (by omega))
    simp only [r2_Shl.l0]
    rw [tmod_16, if_pos (by omega), w1 (by omega), Nat.pow_succ]
    congr 1
    omega
theorem shl_ev (hB : B ≤ 1000000) (hx : x < 65536 ^ B) (n : Nat) (hn : n ≤ 10000000) : Ev (fun k => r2_Shl.f k (ln x) (n : Int)) (ln (x * 2 ^ n)) := by
  by_cases h0 : x = 0
  · subst h0
    refine Ev.congr (f := fun _ => some _) (fun k => ?_) (Ev.now _)
    unfold r2_Shl.f
    rw [ln_zero, Nat.zero_mul, ln_zero]
    rfl
  · have h1 : 0 < (ln x).length := ln_lt_iff.2 (by rw [Nat.pow_zero]; omega)
    refine Ev.congr (f := fun k => r2_Shl.l0 k (ln x) (n : Int) (List.replicate (n / 16) 0) ((2 ^ 0 : Nat) : Int) ((0 : Nat) : Int)) (fun k => ?_) (shl_loop0 hB hx n hn (n % 16) 0 (by omega))
    unfold r2_Shl.f
    rw [if_neg (by omega), tdiv_16 (by omega), if_pos (by omega), Int.toNat_natCast, if_pos (by omega)]
    rfl
theorem shr_part {z r : Nat} (h : r < 16) : z / 2 ^ r % 65536 = z % 65536 / 2 ^ r + z / 65536 % 65536 % 2 ^ r * (65536 / 2 ^ r) := by
  have h5 : r = 0 ∨ r = 1 ∨ r = 2 ∨ r = 3 ∨ r = 4 ∨ r = 5 ∨ r = 6 ∨ r = 7 ∨ r = 8 ∨ r = 9 ∨ r = 10 ∨ r = 11 ∨ r = 12 ∨ r = 13 ∨ r = 14 ∨ r = 15 := by omega
  rcases h5 with rfl | rfl | rfl | rfl | rfl | rfl | rfl | rfl | rfl | rfl | rfl | rfl | rfl | rfl | rfl | rfl <;> simp <;> omega
theorem shr_loop2 (hB : B ≤ 1000000) (hx : x < 65536 ^ B) (n : Nat) (lost : Bool) : ∀ (d i : Nat) (out : List Int), i + d = B → n / 16 ≤ i → nok out → out.length = i - n / 16 →
    nv out + 65536 ^ (i - n / 16) * (x / 65536 ^ i / 2 ^ (n % 16)) = x / 2 ^ n → Ev (fun k => r2_Shr.l2 k (ln x) lost ((2 ^ (n % 16) : Nat) : Int) out (i : Int)) (ln (x / 2 ^ n), lost) := by
  have h2 := two_16 (show n % 16 < 16 by omega)
  have fin : ∀ (i : Nat) (out : List Int), i ≤ B → nok out → out.length = i - n / 16 → nv out + 65536 ^ (i - n / 16) * (x / 65536 ^ i / 2 ^ (n % 16)) = x / 2 ^ n → ¬ 65536 ^ i ≤ x → Ev (fun k => r2_Shr.l2 k (ln x) lost ((2 ^ (n % 16) : Nat) : Int) out (i : Int)) (ln (x / 2 ^ n), lost) := by
    intro i out hi hok hlen hv h1
    rw [div_zero_of h1, Nat.zero_div, Nat.mul_zero, Nat.add_zero] at hv
    have hT := trim_ev hok (by omega)
    rw [hv] at hT
    refine Ev.step (f := fun k => (r2_trim.f k out).bind fun t => some (t, lost)) (fun k => ?_) (Ev.bind hT (Ev.now _))
    simp only [r2_Shr.l2]
    rw [if_neg (len_neg h1)]
  intro d
  induction d with
  | zero =>
    intro i out hi hge hok hlen hv
    exact fin i out (by omega) hok hlen hv (by rw [show i = B by omega]; omega)
  | succ d ih =>
    intro i out hi hge hok hlen hv
    by_cases h1 : 65536 ^ i ≤ x
    · have hp := shr_part (z := x / 65536 ^ i) (r := n % 16) (by omega)
      have e1 : x / 65536 ^ i / 65536 = x / 65536 ^ (i + 1) := by rw [Nat.div_div_eq_div_mul, ← Nat.pow_succ]
      rw [e1] at hp
      have b1 : x / 65536 ^ i / 2 ^ (n % 16) % 65536 < 65536 := Nat.mod_lt _ (by decide)
      refine Ev.step (f := fun k => r2_Shr.l2 k (ln x) lost ((2 ^ (n % 16) : Nat) : Int) (out ++ [((x / 65536 ^ i / 2 ^ (n % 16) % 65536 : Nat) : Int)]) ((i + 1 : Nat) : Int)) (fun k => ?_) (ih _ _ (by omega) (by omega) (nok_append hok (nok_one (by omega) (by omega))) (by simp [hlen]; omega) ?_)
      · simp only [r2_Shr.l2]
        rw [if_pos (len_pos h1), if_pos (by omega), if_neg (by omega), w1 (by omega), at_ln]
        simp only [Option.bind_some]
        rw [if_pos (by omega), rd_ln]
        congr 2
        rw [hp]
        rw [hp] at b1
        have b4 : x / 65536 ^ (i + 1) % 65536 % 2 ^ (n % 16) * (65536 / 2 ^ (n % 16)) < 65537 := Nat.lt_succ_of_lt (Nat.lt_of_le_of_lt (Nat.le_add_left _ (x / 65536 ^ i % 65536 / 2 ^ (n % 16))) b1)
        have t1 : Int.tdiv ((x / 65536 ^ i % 65536 : Nat) : Int) ((2 ^ (n % 16) : Nat) : Int) = ((x / 65536 ^ i % 65536 / 2 ^ (n % 16) : Nat) : Int) := by rw [Int.tdiv_eq_ediv_of_nonneg (by omega)]; rfl
        have t2 : Int.tmod ((x / 65536 ^ (i + 1) % 65536 : Nat) : Int) ((2 ^ (n % 16) : Nat) : Int) = ((x / 65536 ^ (i + 1) % 65536 % 2 ^ (n % 16) : Nat) : Int) := by rw [Int.tmod_eq_emod_of_nonneg (by omega)]; rfl
        have t3 : Int.tdiv 65536 ((2 ^ (n % 16) : Nat) : Int) = ((65536 / 2 ^ (n % 16) : Nat) : Int) := by rw [Int.tdiv_eq_ediv_of_nonneg (by omega)]; rfl
        have wr : ∀ v : Nat, v < 65537 → IntKind.u32.wrap (v : Int) = (v : Int) := fun v hv => by rw [IntKind.wrap_u32]; omega
        have b2 : x / 65536 ^ i % 65536 / 2 ^ (n % 16) ≤ 65535 := Nat.le_trans (Nat.div_le_self _ _) (by omega)
        have b3 : 65536 / 2 ^ (n % 16) ≤ 65536 := Nat.div_le_self _ _
        rw [t1, t2, t3, wr _ (by omega), wr _ (by omega), ← Int.natCast_mul, wr _ b4, ← Int.natCast_add, wr _ (by clear t1 t2 t3; omega)]
      · rw [nv_append, hlen, nv_one, Int.toNat_natCast, show i + 1 - n / 16 = (i - n / 16) + 1 by omega, Nat.add_assoc, pw_step, ← hv]
        congr 2
        have e2 : x / 65536 ^ (i + 1) / 2 ^ (n % 16) = x / 65536 ^ i / 2 ^ (n % 16) / 65536 := by rw [← e1, Nat.div_div_eq_div_mul (x / 65536 ^ i) 65536, Nat.mul_comm 65536, ← Nat.div_div_eq_div_mul]
        rw [e2]
        omega
    · exact fin i out (by omega) hok hlen hv h1
theorem shr_loop1 (hB : B ≤ 1000000) (hx : x < 65536 ^ B) (n : Nat) (hn : n ≤ 10000000) (hin : 65536 ^ (n / 16) ≤ x) : ∀ (d j : Nat), j + d = n % 16 →
    Ev (fun k => r2_Shr.l1 k (ln x) (n : Int) (decide (x % 65536 ^ (n / 16) ≠ 0)) ((n / 16 : Nat) : Int) ((2 ^ j : Nat) : Int) (j : Int)) (ln (x / 2 ^ n), decide (x % 2 ^ n ≠ 0)) := by
  have hbd : n / 16 ≤ B := by
    have h1 := ln_lt_iff.2 hin
    have h2 := ln_length hx
    omega
  intro d
  induction d with
  | zero =>
    intro j hj
    have h2 := two_16 (show n % 16 < 16 by omega)
    have hl := shr_loop2 hB hx n (decide (x % 2 ^ n ≠ 0)) (B - n / 16) (n / 16) [] (by omega) (Nat.le_refl _) nok_nil (by simp) (by rw [Nat.sub_self, Nat.pow_zero, Nat.one_mul, Nat.div_div_eq_div_mul, pow_16]; simp [nv])
    have hd := rd_ln x (n / 16)
    have hm : x % 2 ^ n = x % 65536 ^ (n / 16) + 65536 ^ (n / 16) * (x / 65536 ^ (n / 16) % 2 ^ (n % 16)) := by rw [← pow_16 n, Nat.mod_mul]
    have hmm : x / 65536 ^ (n / 16) % 65536 % 2 ^ (n % 16) = x / 65536 ^ (n / 16) % 2 ^ (n % 16) := Nat.mod_mod_of_dvd _ (by rw [show (65536 : Nat) = 2 ^ 16 from rfl]; exact Nat.pow_dvd_pow 2 (by omega))
    have hpos := p16 (n / 16)
    refine Ev.step (f := fun k => r2_Shr.j3 k (ln x) (decide (x % 2 ^ n ≠ 0)) ((n / 16 : Nat) : Int) ((2 ^ (n % 16) : Nat) : Int)) (fun k => ?_) (Ev.step (fun k => by simp only [r2_Shr.j3]) hl)
    simp only [r2_Shr.l1]
    rw [tmod_16, if_neg (by omega), show j = n % 16 by omega]
    by_cases z : x % 65536 ^ (n / 16) = 0
    · rw [decide_eq_false (by omega), if_neg (by decide), if_pos (by omega), if_pos (len_pos hin), if_neg (by omega), hd]
      congr 1
      rw [Int.tmod_eq_emod_of_nonneg (by omega), Bool.eq_iff_iff, decide_eq_true_iff, bne_iff_ne, hm, z, Nat.zero_add, ← hmm]
      rw [show (((x / 65536 ^ (n / 16) % 65536 : Nat) : Int) % ((2 ^ (n % 16) : Nat) : Int)) = ((x / 65536 ^ (n / 16) % 65536 % 2 ^ (n % 16) : Nat) : Int) from rfl]
      generalize x / 65536 ^ (n / 16) % 65536 % 2 ^ (n % 16) = t at *
      constructor
      · intro h g
        rcases Nat.mul_eq_zero.1 g with g | g
        · omega
        · omega
      · intro h g
        have : t = 0 := by omega
        subst this
        exact h (Nat.mul_zero _)
    · rw [decide_eq_true z, if_pos rfl, decide_eq_true (by omega)]
  | succ d ih =>
    intro j hj
    have h2 := two_16 (show j < 16 by omega)
    refine Ev.step (f := fun k => r2_Shr.l1 k (ln x) (n : Int) (decide (x % 65536 ^ (n / 16) ≠ 0)) ((n / 16 : Nat) : Int) ((2 ^ (j + 1) : Nat) : Int) ((j + 1 : Nat) : Int)) (fun k => ?_) (ih (j + 1) (by omega))
    simp only [r2_Shr.l1]
    rw [tmod_16, if_pos (by omega), w1 (by omega), Nat.pow_succ]
    congr 1
    omega
theorem shr_loop0 (hB : B ≤ 1000000) (hx : x < 65536 ^ B) (n : Nat) (hn : n ≤ 10000000) : ∀ (d i : Nat), i + d = n / 16 →
    Ev (fun k => r2_Shr.l0 k (ln x) (n : Int) (decide (x % 65536 ^ i ≠ 0)) ((n / 16 : Nat) : Int) (i : Int)) (ln (x / 2 ^ n), decide (x % 2 ^ n ≠ 0)) := by
  have out : ∀ i, i ≤ n / 16 → ¬ 65536 ^ i ≤ x → Ev (fun k => r2_Shr.j1 k (ln x) (n : Int) (decide (x % 65536 ^ i ≠ 0)) ((n / 16 : Nat) : Int)) (ln (x / 2 ^ n), decide (x % 2 ^ n ≠ 0)) := by
    intro i hi h1
    have h2 : 65536 ^ i ≤ 65536 ^ (n / 16) := Nat.pow_le_pow_right (by omega) hi
    have h3 : 65536 ^ (n / 16) ≤ 2 ^ n := by rw [← pow_16 n]; exact Nat.le_mul_of_pos_right _ (Nat.two_pow_pos _)
    refine Ev.step (f := fun _ => some _) (fun k => ?_) (Ev.now _)
    simp only [r2_Shr.j1]
    have := len_neg (x := x) (i := n / 16) (by omega)
    rw [if_pos (by omega), Nat.mod_eq_of_lt (by omega), Nat.mod_eq_of_lt (by omega), Nat.div_eq_of_lt (by omega), ln_zero]
  intro d
  induction d with
  | zero =>
    intro i hi
    obtain rfl : i = n / 16 := by omega
    by_cases h1 : 65536 ^ (n / 16) ≤ x
    · refine Ev.step (f := fun k => r2_Shr.j1 k (ln x) (n : Int) (decide (x % 65536 ^ (n / 16) ≠ 0)) ((n / 16 : Nat) : Int)) (fun k => ?_) (Ev.step (f := fun k => r2_Shr.l1 k (ln x) (n : Int) (decide (x % 65536 ^ (n / 16) ≠ 0)) ((n / 16 : Nat) : Int) ((2 ^ 0 : Nat) : Int) ((0 : Nat) : Int)) (fun k => ?_) (shr_loop1 hB hx n hn h1 (n % 16) 0 (by omega)))
      · simp only [r2_Shr.l0]
        rw [if_neg (by omega)]
      · simp only [r2_Shr.j1]
        have := len_pos h1
        rw [if_neg (by omega)]
        rfl
    · refine Ev.step (fun k => ?_) (out _ (Nat.le_refl _) h1)
      simp only [r2_Shr.l0]
      rw [if_neg (by omega)]
  | succ d ih =>
    intro i hi
    by_cases h1 : 65536 ^ i ≤ x
    · have hm : x % 65536 ^ (i + 1) = x % 65536 ^ i + 65536 ^ i * (x / 65536 ^ i % 65536) := by rw [Nat.pow_succ, Nat.mod_mul]
      have hpos := p16 i
      refine Ev.step (f := fun k => r2_Shr.l0 k (ln x) (n : Int) (decide (x % 65536 ^ (i + 1) ≠ 0)) ((n / 16 : Nat) : Int) ((i + 1 : Nat) : Int)) (fun k => ?_) (ih (i + 1) (by omega))
      simp only [r2_Shr.l0]
      rw [if_pos (by omega), if_pos (len_pos h1), w1 (by omega), rd_ln]
      by_cases z : x % 65536 ^ i = 0
      · rw [decide_eq_false (by omega), if_neg (by decide), if_pos (by omega)]
        congr 1
        rw [Bool.eq_iff_iff, decide_eq_true_iff, bne_iff_ne, hm, z, Nat.zero_add]
        generalize x / 65536 ^ i % 65536 = t at *
        constructor
        · intro h g
          rcases Nat.mul_eq_zero.1 g with g | g
          · omega
          · omega
        · intro h g
          have : t = 0 := by omega
          subst this
          exact h (Nat.mul_zero _)
      · rw [decide_eq_true z, if_pos rfl, decide_eq_true (by omega)]
    · refine Ev.step (fun k => ?_) (out i (by omega) h1)
      simp only [r2_Shr.l0]
      rw [if_pos (by omega), if_neg (len_neg h1)]
theorem shr_ev (hB : B ≤ 1000000) (hx : x < 65536 ^ B) (n : Nat) (h0 : n ≠ 0) (hn : n ≤ 10000000) : Ev (fun k => r2_Shr.f k (ln x) (n : Int)) (ln (x / 2 ^ n), decide (x % 2 ^ n ≠ 0)) := by
  refine Ev.congr (f := fun k => r2_Shr.l0 k (ln x) (n : Int) (decide (x % 65536 ^ 0 ≠ 0)) ((n / 16 : Nat) : Int) ((0 : Nat) : Int)) (fun k => ?_) (shr_loop0 hB hx n hn (n / 16) 0 (by omega))
  unfold r2_Shr.f
  rw [if_neg (by omega), tdiv_16 (by omega), Nat.pow_zero, Nat.mod_one]
  rfl
end
end Go.Proofs.Ytbgefpeicmbgiaa
end
section
namespace Go.Proofs.Ytbgefpeicmbgiaa
set_option linter.unusedVariables false
set_option linter.unusedSimpArgs false
open Go.RowKit X Go.Proofs.YtbgefpeicmbgiaaW.PrintWords
theorem one_B {B : Nat} (h : 1 ≤ B) : 1 < 65536 ^ B := by
  have := Nat.pow_le_pow_right (n := 65536) (by omega) h
  rw [Nat.pow_one] at this
  omega
section
variable {B : Nat}
theorem of_one : Ev (fun k => r2_Of.f k 1) (ln 1) := of_ev (n := 1) (by unfold U; omega)
theorem to_j3 (hB : B ≤ 1000000) {q : Nat} (hq : q < 65536 ^ B) (h1 : 1 ≤ B) (up : Bool) : Ev (fun k => r4_To.j3 k (ln q) up) (ln (q + if up = true then 1 else 0), true) := by
  cases up
  · refine Ev.step (f := fun _ => some _) (fun k => ?_) (Ev.now _)
    simp only [r4_To.j3]
    rw [if_neg (by decide), if_neg (by decide), Nat.add_zero]
  · refine Ev.step (f := fun k => (r2_Of.f k 1).bind fun t281 => ((r2_Add.f k (ln q) t281).bind fun t284 => (some (t284, true)))) (fun k => ?_) (Ev.bind of_one (Ev.bind (add_ev hB hq (one_B h1)) (Ev.now _)))
    simp only [r4_To.j3]
    first | rw [if_pos rfl] | rw [if_pos trivial]
theorem to_j2 (hB : B ≤ 1000000) {q : Nat} (hq : q < 65536 ^ B) (h1 : 1 ≤ B) (m : Int) (H J mi : Bool) (e : Int) (X : List Int) : Ev (fun k => r4_To.j2 k m (ln q) H J mi e X) (ln (q + if (if m = 1 then H else if m = 2 then false else if m = 3 then !mi else if m = 4 then mi else J) = true then 1 else 0), true) := by
  have h3 := to_j3 hB hq h1
  refine Ev.step (f := fun k => r4_To.j3 k (ln q) (if m = 1 then H else if m = 2 then false else if m = 3 then !mi else if m = 4 then mi else J)) (fun k => ?_) (h3 _)
  simp only [r4_To.j2]
  by_cases c1 : m = 1
  · rw [if_pos c1, if_pos c1]
  · rw [if_neg c1, if_neg c1]
    by_cases c2 : m = 2
    · rw [if_pos c2, if_pos c2]
    · rw [if_neg c2, if_neg c2]
      by_cases c3 : m = 3
      · rw [if_pos c3, if_pos c3]
      · rw [if_neg c3, if_neg c3]
        by_cases c4 : m = 4
        · rw [if_pos c4, if_pos c4]
        · rw [if_neg c4, if_neg c4]
theorem to_j1 (hB : B ≤ 1000000) {q : Nat} (hq : q < 65536 ^ B) (h1 : 1 ≤ B) (m : Int) (H just mi : Bool) (e : Int) (X : List Int) : Ev (fun k => r4_To.j1 k m (ln q) H just mi e X) (ln (q + if (if m = 1 then H else if m = 2 then false else if m = 3 then !mi else if m = 4 then mi else H && (!just || decide (q % 2 = 1))) = true then 1 else 0), true) := by
  refine Ev.step (f := fun k => r4_To.j2 k m (ln q) H (H && (!just || decide (q % 2 = 1))) mi e X) (fun k => ?_) (to_j2 hB hq h1 m H _ mi e X)
  simp only [r4_To.j1]
  cases H
  · rw [if_neg (by decide)]; rfl
  · first | rw [if_pos rfl] | rw [if_pos trivial]
    cases just
    · rw [if_neg (by decide)]; rfl
    · first | rw [if_pos rfl] | rw [if_pos trivial]
      by_cases h0 : q = 0
      · subst h0
        rw [ln_zero]
        rfl
      · have hl : 0 < (ln q).length := ln_lt_iff.2 (by rw [Nat.pow_zero]; omega)
        have hr := rd_ln q 0
        rw [Nat.pow_zero, Nat.div_one] at hr
        rw [if_pos (by omega), if_pos (by omega), show (0 : Int) = ((0 : Nat) : Int) from rfl, hr, Int.tmod_eq_emod_of_nonneg (by omega)]
        congr 1
        rw [Bool.eq_iff_iff]
        simp only [beq_iff_eq, Bool.true_and, Bool.not_true, Bool.false_or, decide_eq_true_eq]
        omega
theorem to_j0 (hB : B ≤ 1000000) {q r : Nat} (hq : q < 65536 ^ B) (hr : r < 65536 ^ B) (b : Nat) (hb : 2 ^ b < 65536 ^ B) (hbl : b ≤ 10000000) (m : Int) (H mi : Bool) (e : Int) (X : List Int) (h1 : 1 ≤ B) :
    Ev (fun k => r4_To.j0 k m ((b + 1 : Nat) : Int) (ln q) H (ln r) mi e X) (ln (q + if (if m = 1 then H else if m = 2 then false else if m = 3 then !mi else if m = 4 then mi else H && (!(H && decide (r = 2 ^ b)) || decide (q % 2 = 1))) = true then 1 else 0), true) := by
  cases H
  · have := to_j1 hB hq h1 m false false mi e X
    refine Ev.step (f := fun k => r4_To.j1 k m (ln q) false false mi e X) (fun k => ?_) this
    simp only [r4_To.j0]
    rw [if_neg (by decide)]
  · have hS := shl_ev hB (one_B h1) b hbl
    rw [Nat.one_mul] at hS
    have hC := cmp_ev hB hr hb
    have ej : (cmpI r (2 ^ b) == 0) = decide (r = 2 ^ b) := by
      rw [Bool.eq_iff_iff]
      simp only [beq_iff_eq, decide_eq_true_eq]
      unfold cmpI
      split
      · omega
      · split <;> omega
    have := to_j1 hB hq h1 m true (decide (r = 2 ^ b)) mi e X
    rw [← ej] at this
    refine Ev.step (f := fun k => (r2_Of.f k 1).bind fun t273 => ((r2_Shl.f k t273 (b : Int)).bind fun t276 => ((r2_Cmp.f k (ln r) t276).bind fun t279 => (r4_To.j1 k m (ln q) true (t279 == 0) mi e X)))) (fun k => ?_) (Ev.bind of_one (Ev.bind hS (Ev.bind hC ?_)))
    · simp only [r4_To.j0]
      first | rw [if_pos rfl, show wrap64 (((b + 1 : Nat) : Int) - 1) = (b : Int) by unfold wrap64; omega] | rw [if_pos trivial, show wrap64 (((b + 1 : Nat) : Int) - 1) = (b : Int) by unfold wrap64; omega]
    · rw [← ej]
      simp only [Bool.true_and] at this ⊢
      exact this
theorem to_ev (hB : B ≤ 1000000) (h1 : 1 ≤ B) {s : Nat} {e n m : Int} (mi : Bool) (hs : s < 65536 ^ B) (he : -2000000 ≤ e) (he2 : e ≤ 2000000) (hn : -2000000 ≤ n) (hn2 : n ≤ 2000000) (hm : m = 0 ∨ m = 1 ∨ m = 2 ∨ m = 3 ∨ m = 4) (hbig : 2 ^ (n - e).toNat < 65536 ^ B) :
    Ev (fun k => r4_To.f k mi e (ln s) n m) (ln (tQ mi e s n m), rOdd s e n) := by
  by_cases c : n ≤ e
  · have hS := shl_ev hB hs (e - n).toNat (by omega)
    have e1 : tQ mi e s n m = s * 2 ^ (e - n).toNat := by unfold tQ; rw [if_pos c]
    have e2 : rOdd s e n = false := by unfold rOdd cutH cutR; rw [if_pos c, if_pos c]; rfl
    rw [e1, e2]
    refine Ev.congr (f := fun k => (r2_Shl.f k (ln s) (((e - n).toNat : Nat) : Int)).bind fun t258 => some (t258, false)) (fun k => ?_) (Ev.bind hS (Ev.now _))
    unfold r4_To.f
    rw [if_pos (by omega), show wrap64 (e - n) = (((e - n).toNat : Nat) : Int) by unfold wrap64; omega]
  · obtain ⟨b, hb⟩ : ∃ b, (n - e).toNat = b + 1 := ⟨(n - e).toNat - 1, by omega⟩
    rw [hb] at hbig
    have hbb : 2 ^ b < 65536 ^ B := by rw [Nat.pow_succ] at hbig; omega
    have ew : wrap64 (n - e) = ((b + 1 : Nat) : Int) := by unfold wrap64; omega
    have ew2 : wrap64 (((b + 1 : Nat) : Int) - 1) = (b : Int) := by unfold wrap64; omega
    have hR := shr_ev hB hs (b + 1) (by omega) (by omega)
    have hq : s / 2 ^ (b + 1) < 65536 ^ B := Nat.lt_of_le_of_lt (Nat.div_le_self _ _) hs
    have hodd := odd_of s (show e < n by omega)
    rw [hb] at hodd
    have hH : cutH s e n = decide (s / 2 ^ b % 2 = 1) := by unfold cutH; rw [if_neg c, show (n - e - 1).toNat = b by omega]
    have hRr : cutR s e n = decide (s % 2 ^ b ≠ 0) := by unfold cutR; rw [if_neg c, show (n - e - 1).toNat = b by omega]
    rw [hodd]
    by_cases z : s % 2 ^ (b + 1) = 0
    · have e1 : tQ mi e s n m = s / 2 ^ (b + 1) := by
        have ho : rOdd s e n = false := by rw [odd_of s (by omega), hb]; exact decide_eq_false (by omega)
        unfold rOdd at ho
        unfold tQ tU
        rw [if_neg c, hb, (Bool.or_eq_false_iff.1 ho).1, (Bool.or_eq_false_iff.1 ho).2, upB_no]
        rfl
      rw [e1, decide_eq_false (by omega)]
      rw [decide_eq_false (by omega)] at hR
      refine Ev.congr (f := fun k => (r2_Shr.f k (ln s) ((b + 1 : Nat) : Int)).bind fun bt261 => (if bt261.2 = true then ((r2_Bit.f k (ln s) (b : Int)).bind fun t265 => ((r2_Len.f k (ln s)).bind fun t266 => (if ((b + 1 : Nat) : Int) ≤ t266 then ((r2_Shl.f k bt261.1 ((b + 1 : Nat) : Int)).bind fun t267 => ((r2_Sub.f k (ln s) t267).bind fun t270 => (r4_To.j0 k m ((b + 1 : Nat) : Int) bt261.1 (t265 == 1) t270 mi e (ln s)))) else (r4_To.j0 k m ((b + 1 : Nat) : Int) bt261.1 (t265 == 1) (ln s) mi e (ln s))))) else (some (bt261.1, false)))) (fun k => ?_) (Ev.bind hR ?_)
      · unfold r4_To.f
        rw [if_neg (by omega), ew, ew2]
      · exact Ev.congr (fun k => by rw [if_neg Bool.false_ne_true]) (Ev.now _)
    · rw [decide_eq_true z]
      rw [decide_eq_true z] at hR
      have hBit := bit_ev s b (by omega)
      have hLen := len_ev hB hs
      have eb : (((s / 2 ^ b % 2 : Nat) : Int) == 1) = cutH s e n := by rw [hH, Bool.eq_iff_iff]; simp only [beq_iff_eq, decide_eq_true_eq]; omega
      have hrest : s % 2 ^ (b + 1) < 65536 ^ B := Nat.lt_of_le_of_lt (Nat.mod_le _ _) hs
      have hj0 := to_j0 hB hq hrest b hbb (by omega) m (cutH s e n) mi e (ln s) h1
      have hlost : (cutH s e n || cutR s e n) = true := by have := odd_of s (show e < n by omega); unfold rOdd at this; rw [this, hb]; exact decide_eq_true z
      have ejust : (cutH s e n && decide (s % 2 ^ (b + 1) = 2 ^ b)) = (cutH s e n && !cutR s e n) := by
        rw [hH, hRr]
        have := mod_two_pow s b
        have hp := Nat.two_pow_pos b
        by_cases t : s / 2 ^ b % 2 = 1
        · rw [decide_eq_true t, Bool.true_and, Bool.true_and, this, t, Bool.eq_iff_iff]
          simp only [decide_eq_true_eq, Bool.not_eq_true', decide_eq_false_iff_not]
          omega
        · rw [decide_eq_false t]; rfl
      have eT : tQ mi e s n m = s / 2 ^ (b + 1) + if tU mi e s n m = true then 1 else 0 := by unfold tQ; rw [if_neg c, hb]
      have eU : tU mi e s n m = upB m mi (decide (s / 2 ^ (b + 1) % 2 = 1)) (cutH s e n) (cutR s e n) := by unfold tU; rw [hb]
      rw [ejust, upB_lost m mi (decide (s / 2 ^ (b + 1) % 2 = 1)) _ _ hlost hm, ← eU, ← eT] at hj0
      refine Ev.congr (f := fun k => (r2_Shr.f k (ln s) ((b + 1 : Nat) : Int)).bind fun bt261 => (if bt261.2 = true then ((r2_Bit.f k (ln s) (b : Int)).bind fun t265 => ((r2_Len.f k (ln s)).bind fun t266 => (if ((b + 1 : Nat) : Int) ≤ t266 then ((r2_Shl.f k bt261.1 ((b + 1 : Nat) : Int)).bind fun t267 => ((r2_Sub.f k (ln s) t267).bind fun t270 => (r4_To.j0 k m ((b + 1 : Nat) : Int) bt261.1 (t265 == 1) t270 mi e (ln s)))) else (r4_To.j0 k m ((b + 1 : Nat) : Int) bt261.1 (t265 == 1) (ln s) mi e (ln s))))) else (some (bt261.1, false)))) (fun k => ?_) (Ev.bind hR (Ev.congr (fun k => by first | rw [if_pos rfl] | rw [if_pos trivial]) (Ev.bind hBit (Ev.bind hLen ?_))))
      · unfold r4_To.f
        rw [if_neg (by omega), ew, ew2]
      · simp only [eb]
        by_cases hl : ((b + 1 : Nat) : Int) ≤ (blen s : Int)
        · have hS := shl_ev hB hq (b + 1) (by omega)
          have hm2 := Nat.div_add_mod s (2 ^ (b + 1))
          have hsub := sub_ev hB hs (y := s / 2 ^ (b + 1) * 2 ^ (b + 1)) (Nat.div_mul_le_self _ _)
          rw [show s - s / 2 ^ (b + 1) * 2 ^ (b + 1) = s % 2 ^ (b + 1) by rw [Nat.mul_comm]; omega] at hsub
          exact Ev.congr (fun k => by rw [if_pos hl]) (Ev.bind hS (Ev.bind hsub hj0))
        · have : s < 2 ^ (b + 1) := blen_le_iff.1 (by omega)
          rw [Nat.mod_eq_of_lt this] at hj0
          exact Ev.congr (fun k => by rw [if_neg hl]) hj0
end
end Go.Proofs.Ytbgefpeicmbgiaa
end
section
namespace Go.Proofs.Ytbgefpeicmbgiaa
set_option linter.unusedVariables false
set_option linter.unusedSimpArgs false
open Go.RowKit X Go.Proofs.YtbgefpeicmbgiaaW.PrintWords
def overA (mi : Bool) (m : Int) : Int := if m = 2 ∨ (m = 3 ∧ mi = true) ∨ (m = 4 ∧ mi = false) then 9218868437227405311 else 9218868437227405312
theorem overA_bd (mi : Bool) (m : Int) : 0 ≤ overA mi m ∧ overA mi m < 9223372036854775808 := by unfold overA; split <;> omega
theorem over4_eq (mi : Bool) (m : Int) : r4_over.f mi m = some (overA mi m) := by
  unfold r4_over.f overA
  by_cases h2 : m = 2
  · rw [if_pos h2, if_pos (.inl h2)]
  · rw [if_neg h2]
    by_cases h3 : m = 3
    · subst h3; cases mi <;> simp
    · rw [if_neg h3]
      by_cases h4 : m = 4
      · subst h4; cases mi <;> simp
      · simp [h2, h3, h4]
theorem signed4_eq {a : Int} (h0 : 0 ≤ a) (h1 : a < 9223372036854775808) (mi : Bool) : r4_signed.f a mi = some (a + sg mi) := by
  unfold r4_signed.f sg
  cases mi
  · simp
  · rw [if_pos rfl, if_pos rfl, IntKind.wrap_u64]
    congr 1
    omega
theorem round_j4 (k : Nat) (n f : Int) (q : Nat) (mi : Bool) (e : Int) (X : List Int) (hn : -1074 ≤ n) (hn2 : n ≤ 971) (hq : q < 9007199254740992) (h52 : q < 4503599627370496 → n = -1074) :
    r4_Round.j4 (k + 1) n f (q : Int) mi e X = some ((q : Int) + (n + 1074) * 4503599627370496 + sg mi, f) := by
  simp only [r4_Round.j4]
  by_cases c : (q : Int) ≥ 4503599627370496
  · have e0 : wrap64 (n + 1075) = n + 1075 := by unfold wrap64; omega
    have e1 : IntKind.u64.wrap ((IntKind.u64.wrap ((IntKind.u64.wrap ((IntKind.u64.wrap (n + 1075)) * 4503599627370496)) + (q : Int))) - 4503599627370496) = (q : Int) + (n + 1074) * 4503599627370496 := by simp only [IntKind.wrap_u64]; omega
    rw [if_pos c, e0, e1, signed4_eq (by omega) (by omega)]
    rfl
  · rw [if_neg c, signed4_eq (by omega) (by omega), Option.bind_some]
    have := h52 (by omega)
    subst this
    simp
def fin2 (mi : Bool) (n : Int) (q : Nat) (m f : Int) : Int × Int := if 9218868437227405312 ≤ (q : Int) + (n + 1074) * 4503599627370496 then (overA mi m + sg mi, 20) else ((q : Int) + (n + 1074) * 4503599627370496 + sg mi, f)
theorem small_B {B q : Nat} (hB : 130000 ≤ B) (hq : q < 18446744073709551616) : q < 65536 ^ B := by
  have := Nat.pow_le_pow_right (n := 65536) (by omega) (show 4 ≤ B by omega)
  rw [show 65536 ^ 4 = 18446744073709551616 from rfl] at this
  omega
section
variable {B : Nat}
theorem round_j3 (hB : B ≤ 1000000) (hB2 : 130000 ≤ B) {n : Int} {q : Nat} (m f : Int) (mi : Bool) (e : Int) (X : List Int) (hn : -1074 ≤ n) (hn2 : n ≤ 2000) (hq : q ≤ 9007199254740992) (h52 : q < 4503599627370496 → n = -1074) :
    Ev (fun k => r4_Round.j3 k m n (ln q) f mi e X) (fin2 mi n q m f) := by
  have hqB : q < 65536 ^ B := small_B hB2 (by omega)
  have hL := len_ev hB hqB
  have hLow := low_ev q (by have := ln_length hqB; omega)
  rw [Nat.mod_eq_of_lt (by omega)] at hLow
  have hb : blen q ≤ 54 := blen_le_iff.2 (by rw [show (2 : Nat) ^ 54 = 18014398509481984 from rfl]; omega)
  have hov := overA_bd mi m
  refine Ev.step (f := fun k => (r2_Len.f k (ln q)).bind fun t305 => (if (wrap64 (t305 + n)) > 1024 then ((r4_over.f mi m).bind fun t306 => ((r4_signed.f t306 mi).bind fun t307 => (some (t307, 20)))) else ((r2_Low.f k (ln q)).bind fun t308 => (if t308 = 9007199254740992 then (r4_Round.j4 k (wrap64 (n + 1)) f 4503599627370496 mi e X) else (r4_Round.j4 k n f t308 mi e X))))) (fun k => by simp only [r4_Round.j3]) (Ev.bind hL ?_)
  have ew : wrap64 ((blen q : Int) + n) = (blen q : Int) + n := by unfold wrap64; omega
  have ew1 : wrap64 (n + 1) = n + 1 := by unfold wrap64; omega
  unfold fin2
  simp only [ew, ew1]
  by_cases c : (blen q : Int) + n > 1024
  · have hP : 9218868437227405312 ≤ (q : Int) + (n + 1074) * 4503599627370496 := by
      rcases Nat.lt_or_ge q 4503599627370496 with g | g
      · have := h52 g; omega
      · rcases Nat.lt_or_ge q 9007199254740992 with g2 | g2
        · have := blen_53 g g2; omega
        · have : q = 9007199254740992 := by omega
          subst this; have := blen_54; omega
    rw [if_pos hP]
    refine Ev.congr (fun k => ?_) (Ev.now _)
    rw [if_pos c, over4_eq, Option.bind_some, signed4_eq hov.1 hov.2, Option.bind_some]
  · have hP : ¬ 9218868437227405312 ≤ (q : Int) + (n + 1074) * 4503599627370496 := by
      rcases Nat.lt_or_ge q 4503599627370496 with g | g
      · have := h52 g; omega
      · rcases Nat.lt_or_ge q 9007199254740992 with g2 | g2
        · have := blen_53 g g2; omega
        · have : q = 9007199254740992 := by omega
          subst this; have := blen_54; omega
    rw [if_neg hP]
    refine Ev.congr (fun k => by rw [if_neg c]) (Ev.bind hLow ?_)
    by_cases c3 : (q : Int) = 9007199254740992
    · refine Ev.congr (fun k => by rw [if_pos c3]) (Ev.step (fun k => round_j4 k (n + 1) f 4503599627370496 mi e X (by omega) ?_ (by omega) (by omega)) ?_)
      · have : q = 9007199254740992 := by omega
        subst this; have := blen_54; omega
      · refine Ev.congr (fun k => ?_) (Ev.now _)
        congr 2
        omega
    · refine Ev.congr (fun k => by rw [if_neg c3]) (Ev.step (fun k => round_j4 k n f q mi e X hn ?_ (by omega) h52) (Ev.now _))
      rcases Nat.lt_or_ge q 4503599627370496 with g | g
      · have := h52 g; omega
      · have := blen_53 g (by omega); omega
theorem fin2_round (mi : Bool) (e : Int) (s : Nat) (m : Int) (hs : s ≠ 0) : fin2 mi (rN e s) (tQ mi e s (rN e s) m) m (rFlag mi e s m) = rRound mi e s m := by
  rw [round_eq _ _ _ _ hs, tQ_rN _ _ _ _ hs]
  rfl
theorem pow_B {t : Nat} (hB2 : 130000 ≤ B) (h : t ≤ 2000000) : 2 ^ t < 65536 ^ B := by
  rw [show (65536 : Nat) = 2 ^ 16 from rfl, ← Nat.pow_mul]
  exact (Nat.pow_lt_pow_iff_right (by omega)).2 (by omega)
theorem round_j2 (hB : B ≤ 1000000) (hB2 : 130000 ≤ B) (mi : Bool) {e : Int} {s : Nat} {m : Int} (hs : s ≠ 0) (hsB : s < 65536 ^ B) (he : -900000 ≤ e) (he2 : e ≤ 900000) (ht : -1300 ≤ e + (blen s : Int)) (ht2 : e + (blen s : Int) ≤ 1100) (hm : m = 0 ∨ m = 1 ∨ m = 2 ∨ m = 3 ∨ m = 4) :
    Ev (fun k => r4_Round.j2 k m (e + (blen s : Int)) mi e (ln s)) (rRound mi e s m) := by
  have ew : wrap64 (e + (blen s : Int) - 53) = e + (blen s : Int) - 53 := by unfold wrap64; omega
  have hbl := blen_pos hs
  have hTf := to_ev hB (by omega) mi hsB (e := e) (n := e + (blen s : Int) - 53) (m := m) (by omega) (by omega) (by omega) (by omega) hm (pow_B hB2 (by omega))
  obtain ⟨f1, f2, f3⟩ := tQ_53 mi e s m hs
  have hLf := len_ev hB (x := tQ mi e s (e + (blen s : Int) - 53) m) (small_B hB2 (by omega))
  have htf := tiny_iff mi e s m hs
  have hbf : blen (tQ mi e s (e + (blen s : Int) - 53) m) ≤ 54 := blen_le_iff.2 (by rw [show (2 : Nat) ^ 54 = 18014398509481984 from rfl]; omega)
  have hfin := fin2_round mi e s m hs
  have hq1 := tQ_rN mi e s m hs
  have hqlt := cutQ53_lt (x := e) hs
  have hqge := cutQ_ge (x := e) hs
  have huu := uu_le mi e s m
  rw [show (2 : Nat) ^ 53 = 9007199254740992 from rfl] at hqlt
  rw [show (2 : Nat) ^ 52 = 4503599627370496 from rfl] at hqge
  have hng := rN_ge e s
  by_cases c : e + (blen s : Int) - 53 < -1074
  · have hN : rN e s = -1074 := by unfold rN rTop; rw [if_pos c]
    rw [hN] at hfin hq1 hqlt hqge hng
    have hT := to_ev hB (by omega) mi hsB (e := e) (n := -1074) (m := m) (by omega) (by omega) (by omega) (by omega) hm (pow_B hB2 (by omega))
    have h3 := fun f => round_j3 hB hB2 (n := -1074) (q := tQ mi e s (-1074) m) m f mi e (ln s) (by omega) (by omega) (by omega) (fun _ => rfl)
    refine Ev.step (f := fun k => (r4_To.f k mi e (ln s) (-1074) m).bind fun bt296 => (if bt296.2 = true then ((r4_To.f k mi e (ln s) (e + (blen s : Int) - 53) m).bind fun bt300 => ((r2_Len.f k bt300.1).bind fun t304 => (if (wrap64 ((wrap64 (t304 + (e + (blen s : Int)))) - 53)) ≤ (-1022) then (r4_Round.j3 k m (-1074) bt296.1 24 mi e (ln s)) else (r4_Round.j3 k m (-1074) bt296.1 16 mi e (ln s))))) else (r4_Round.j3 k m (-1074) bt296.1 0 mi e (ln s)))) (fun k => ?_) (Ev.bind hT ?_)
    · simp only [r4_Round.j2]
      rw [ew, show mx (e + (blen s : Int) - 53) (-1074) = -1074 from if_pos c]
    · unfold rFlag at hfin
      rw [hN] at hfin
      cases ho : rOdd s e (-1074)
      · rw [ho, if_neg (by decide)] at hfin
        exact Ev.congr (fun k => by simp only [ho]; rw [if_neg (by decide)]) (hfin ▸ h3 0)
      · rw [ho, if_pos rfl] at hfin
        refine Ev.congr (fun k => by simp only [ho]; rw [if_pos trivial]) (Ev.bind hTf (Ev.bind hLf ?_))
        have ew2 : wrap64 ((wrap64 ((blen (tQ mi e s (e + (blen s : Int) - 53) m) : Int) + (e + (blen s : Int)))) - 53) = (blen (tQ mi e s (e + (blen s : Int) - 53) m) : Int) + (e + (blen s : Int)) - 53 := by unfold wrap64; omega
        simp only [ew2]
        by_cases ct : (blen (tQ mi e s (e + (blen s : Int) - 53) m) : Int) + (e + (blen s : Int)) - 53 ≤ -1022
        · rw [if_pos (htf.1 ct)] at hfin
          exact Ev.congr (fun k => by rw [if_pos ct]) (hfin ▸ h3 24)
        · rw [if_neg (fun h => ct (htf.2 h))] at hfin
          exact Ev.congr (fun k => by rw [if_neg ct]) (hfin ▸ h3 16)
  · have hN : rN e s = e + (blen s : Int) - 53 := by unfold rN rTop; rw [if_neg c]
    rw [hN] at hfin hq1 hqlt hqge hng
    have h3 := fun f => round_j3 hB hB2 (n := e + (blen s : Int) - 53) (q := tQ mi e s (e + (blen s : Int) - 53) m) m f mi e (ln s) (by omega) (by omega) (by omega) (fun h => by omega)
    refine Ev.step (f := fun k => (r4_To.f k mi e (ln s) (e + (blen s : Int) - 53) m).bind fun bt311 => (if bt311.2 = true then ((r4_To.f k mi e (ln s) (e + (blen s : Int) - 53) m).bind fun bt315 => ((r2_Len.f k bt315.1).bind fun t319 => (if (wrap64 ((wrap64 (t319 + (e + (blen s : Int)))) - 53)) ≤ (-1022) then (r4_Round.j3 k m (e + (blen s : Int) - 53) bt311.1 24 mi e (ln s)) else (r4_Round.j3 k m (e + (blen s : Int) - 53) bt311.1 16 mi e (ln s))))) else (r4_Round.j3 k m (e + (blen s : Int) - 53) bt311.1 0 mi e (ln s)))) (fun k => ?_) (Ev.bind hTf ?_)
    · simp only [r4_Round.j2]
      rw [ew, show mx (e + (blen s : Int) - 53) (-1074) = e + (blen s : Int) - 53 from if_neg c]
    · unfold rFlag at hfin
      rw [hN] at hfin
      cases ho : rOdd s e (e + (blen s : Int) - 53)
      · rw [ho, if_neg (by decide)] at hfin
        exact Ev.congr (fun k => by simp only [ho]; rw [if_neg (by decide)]) (hfin ▸ h3 0)
      · rw [ho, if_pos rfl] at hfin
        refine Ev.congr (fun k => by simp only [ho]; rw [if_pos trivial]) (Ev.bind hTf (Ev.bind hLf ?_))
        have ew2 : wrap64 ((wrap64 ((blen (tQ mi e s (e + (blen s : Int) - 53) m) : Int) + (e + (blen s : Int)))) - 53) = (blen (tQ mi e s (e + (blen s : Int) - 53) m) : Int) + (e + (blen s : Int)) - 53 := by unfold wrap64; omega
        simp only [ew2]
        by_cases ct : (blen (tQ mi e s (e + (blen s : Int) - 53) m) : Int) + (e + (blen s : Int)) - 53 ≤ -1022
        · rw [if_pos (htf.1 ct)] at hfin
          exact Ev.congr (fun k => by rw [if_pos ct]) (hfin ▸ h3 24)
        · rw [if_neg (fun h => ct (htf.2 h))] at hfin
          exact Ev.congr (fun k => by rw [if_neg ct]) (hfin ▸ h3 16)
theorem round_j1 (hB : B ≤ 1000000) (hB2 : 130000 ≤ B) (mi : Bool) {e : Int} {s : Nat} {m : Int} (hsB : s < 65536 ^ B) (hbl : blen s ≤ 1000000) (he : -900000 ≤ e) (he2 : e ≤ 900000) (hm : m = 0 ∨ m = 1 ∨ m = 2 ∨ m = 3 ∨ m = 4) :
    Ev (fun k => r4_Round.j1 k m mi e (ln s)) (rRound mi e s m) := by
  by_cases hs : s = 0
  · subst hs
    refine Ev.step (f := fun _ => some _) (fun k => ?_) (Ev.now _)
    simp only [r4_Round.j1]
    rw [ln_zero, if_pos (by rfl), signed4_eq (by omega) (by omega), Option.bind_some]
    unfold rRound
    rw [if_pos rfl, Int.zero_add]
  · have hL := len_ev hB hsB
    have hl : 0 < (ln s).length := ln_lt_iff.2 (by rw [Nat.pow_zero]; omega)
    have ew : wrap64 (e + (blen s : Int)) = e + (blen s : Int) := by unfold wrap64; omega
    have hov := overA_bd mi m
    refine Ev.step (f := fun k => (r2_Len.f k (ln s)).bind fun t290 => (if (wrap64 (e + t290)) > 1100 then ((r4_over.f mi m).bind fun t291 => ((r4_signed.f t291 mi).bind fun t292 => (some (t292, 20)))) else (if (wrap64 (e + t290)) < (-1200) then ((r2_Of.f k 1).bind fun t293 => (r4_Round.j2 k m (-1299) mi (-1300) t293)) else (r4_Round.j2 k m (wrap64 (e + t290)) mi e (ln s))))) (fun k => by simp only [r4_Round.j1]; rw [if_neg (by omega)]) (Ev.bind hL ?_)
    simp only [ew]
    by_cases c : e + (blen s : Int) > 1100
    · have hN : rN e s = e + (blen s : Int) - 53 := by rcases rN_cases e s with g | g <;> omega
      have hP : 9218868437227405312 ≤ PQ mi e s m := by
        have := cutQ_ge (x := e) hs (by omega)
        rw [show (2 : Nat) ^ 52 = 4503599627370496 from rfl] at this
        unfold PQ
        omega
      rw [round_eq _ _ _ _ hs, if_pos hP]
      refine Ev.congr (fun k => ?_) (Ev.now _)
      rw [if_pos c, over4_eq, Option.bind_some, signed4_eq hov.1 hov.2, Option.bind_some]
      rfl
    · by_cases c2 : e + (blen s : Int) < -1200
      · rw [round_far mi m hs c2]
        have := round_j2 hB hB2 mi (e := -1300) (s := 1) (m := m) (by omega) (one_B (by omega)) (by omega) (by omega) (by decide) (by decide) hm
        rw [show (-1300 : Int) + (blen 1 : Int) = -1299 by decide] at this
        exact Ev.congr (fun k => by rw [if_neg c, if_pos c2]) (Ev.bind of_one this)
      · exact Ev.congr (fun k => by rw [if_neg c, if_neg c2]) (round_j2 hB hB2 mi hs hsB he he2 (by omega) (by omega) hm)
theorem ref_round_ev (hB : B ≤ 1000000) (hB2 : 130000 ≤ B) (mi : Bool) {e : Int} {s : Nat} (m : Int) (hsB : s < 65536 ^ B) (hbl : blen s ≤ 1000000) (he : -900000 ≤ e) (he2 : e ≤ 900000) :
    Ev (fun k => r4_Round.f k mi e (ln s) m) (rRound mi e s m) := by
  rw [← round_md]
  have h1 := round_j1 hB hB2 mi (e := e) (s := s) (m := md m) hsB hbl he he2 (md_in m)
  by_cases c1 : m < 0
  · have e0 : md m = 0 := by unfold md; rw [if_pos (.inl c1)]
    rw [e0] at h1 ⊢
    refine Ev.congr (f := fun k => r4_Round.j0 k m true mi e (ln s)) (fun k => by unfold r4_Round.f; rw [if_pos c1]) (Ev.step (fun k => ?_) h1)
    simp only [r4_Round.j0]
    rw [if_pos trivial]
  · refine Ev.congr (f := fun k => r4_Round.j0 k m (decide (m > 4)) mi e (ln s)) (fun k => by unfold r4_Round.f; rw [if_neg c1]) ?_
    by_cases c2 : m > 4
    · have e0 : md m = 0 := by unfold md; rw [if_pos (.inr c2)]
      rw [e0] at h1 ⊢
      rw [decide_eq_true c2]
      refine Ev.step (fun k => ?_) h1
      simp only [r4_Round.j0]
      rw [if_pos trivial]
    · have e0 : md m = m := by unfold md; rw [if_neg (by omega)]
      rw [e0] at h1 ⊢
      rw [decide_eq_false c2]
      refine Ev.step (fun k => ?_) h1
      simp only [r4_Round.j0]
      rw [if_neg (by decide)]
end
end Go.Proofs.Ytbgefpeicmbgiaa
end
section
namespace Go.Proofs.Ytbgefpeicmbgiaa
set_option linter.unusedVariables false
set_option linter.unusedSimpArgs false
open Go.RowKit X Go.Proofs.YtbgefpeicmbgiaaW.PrintWords
theorem nv_set {l : List Int} (i : Nat) (hi : i < l.length) (d : Int) : nv (l.set i d) + 65536 ^ i * (l.getD i 0).toNat = nv l + 65536 ^ i * d.toNat := by
  induction l generalizing i with
  | nil => simp at hi
  | cons e l ih =>
    cases i with
    | zero => simp [nv]; omega
    | succ i =>
      have := ih i (by simpa using hi)
      show e.toNat + 65536 * nv (l.set i d) + 65536 ^ (i + 1) * (l.getD i 0).toNat = e.toNat + 65536 * nv l + 65536 ^ (i + 1) * d.toNat
      rw [Nat.pow_succ', Nat.mul_assoc, Nat.mul_assoc, Nat.add_assoc, ← Nat.mul_add, this, Nat.mul_add, Nat.add_assoc]
theorem nok_set {l : List Int} (h : nok l) (i : Nat) {d : Int} (h0 : 0 ≤ d) (h1 : d < 65536) : nok (l.set i d) := fun e he => by
  rcases List.mem_or_eq_of_mem_set he with g | g
  · exact h e g
  · subst g; exact ⟨h0, h1⟩
theorem wr64 (v : Nat) (hv : v < 18446744073709551616) : IntKind.u64.wrap (v : Int) = (v : Int) := by rw [IntKind.wrap_u64]; omega
theorem wr64m (v w : Nat) (hv : v * w < 18446744073709551616) : IntKind.u64.wrap ((v : Int) * (w : Int)) = ((v * w : Nat) : Int) := by rw [← Int.natCast_mul]; exact wr64 _ hv
theorem wr64a (v w : Nat) (hv : v + w < 18446744073709551616) : IntKind.u64.wrap ((v : Int) + (w : Int)) = ((v + w : Nat) : Int) := by rw [← Int.natCast_add]; exact wr64 _ hv
end Go.Proofs.Ytbgefpeicmbgiaa
end
section
namespace Go.Proofs.Ytbgefpeicmbgiaa
set_option linter.unusedVariables false
set_option linter.unusedSimpArgs false
open Go.RowKit X Go.Proofs.YtbgefpeicmbgiaaW.PrintWords
theorem set_lt {v v' j M d o : Nat} (hj : j < M) (hd : d < 65536) (ho : o = v / 65536 ^ j % 65536) (h : v < 65536 ^ M) (e : v' + 65536 ^ j * o = v + 65536 ^ j * d) : v' < 65536 ^ M := by
  obtain ⟨r, rfl⟩ : ∃ r, M = j + 1 + r := ⟨M - j - 1, by omega⟩
  have h1 := Nat.div_add_mod v (65536 ^ j)
  have h2 := div_step v j
  rw [← ho] at h2
  have h3 : v / 65536 ^ (j + 1) < 65536 ^ r := Nat.div_lt_of_lt_mul (by rw [← Nat.pow_add]; exact h)
  have h4 := Nat.mod_lt v (p16 j)
  have h5 : 65536 ^ (j + 1 + r) = 65536 ^ j * (65536 * 65536 ^ r) := by rw [Nat.pow_add, Nat.pow_succ, Nat.mul_assoc]
  rw [h5]
  have h6 : v' = v % 65536 ^ j + 65536 ^ j * (d + 65536 * (v / 65536 ^ (j + 1))) := by
    have : v = v % 65536 ^ j + 65536 ^ j * o + 65536 ^ j * (65536 * (v / 65536 ^ (j + 1))) := by
      rw [Nat.add_assoc, ← Nat.mul_add, ← h2]; omega
    rw [Nat.mul_add]
    omega
  have h7 : 65536 ^ j * (d + 65536 * (v / 65536 ^ (j + 1)) + 1) ≤ 65536 ^ j * (65536 * 65536 ^ r) := Nat.mul_le_mul_left _ (by omega)
  rw [Nat.mul_add, Nat.mul_one] at h7
  omega
section
variable {x y B : Nat}
theorem mul_part (a b c o : Nat) (ha : a < 65536) (hb : b < 65536) (hc : c < 65536) (ho : o < 65536) :
    IntKind.u64.wrap ((IntKind.u64.wrap ((c : Int) + (IntKind.u64.wrap (o : Int)))) + (IntKind.u64.wrap ((IntKind.u64.wrap (a : Int)) * (IntKind.u64.wrap (b : Int))))) = ((c + o + a * b : Nat) : Int) ∧ c + o + a * b < 4294967296 := by
  have h : a * b ≤ 65535 * 65535 := Nat.mul_le_mul (by omega) (by omega)
  have h2 : c + o + a * b < 4294967296 := by omega
  refine ⟨?_, h2⟩
  rw [wr64 o (by omega), wr64 a (by omega), wr64 b (by omega), wr64a _ _ (by omega), wr64m _ _ (by omega), wr64a _ _ (by omega)]
theorem mul_tm (t : Nat) (h : t < 4294967296) : Int.tmod (t : Int) 65536 % 4294967296 = ((t % 65536 : Nat) : Int) ∧ IntKind.u64.wrap (Int.tdiv (t : Int) 65536) = ((t / 65536 : Nat) : Int) := by
  rw [Int.tmod_eq_emod_of_nonneg (by omega), Int.tdiv_eq_ediv_of_nonneg (by omega), IntKind.wrap_u64]
  omega
theorem mod_up (x i : Nat) : x % 65536 ^ (i + 1) = x % 65536 ^ i + 65536 ^ i * (x / 65536 ^ i % 65536) := by rw [Nat.pow_succ, Nat.mod_mul]
theorem mul_l1 (hB : B ≤ 1000000) (hx : x < 65536 ^ B) (hy : y < 65536 ^ B) (i : Nat) (hi : i < (ln x).length)
    (next : ∀ out, nok out → out.length = (ln x).length + (ln y).length → nv out = (x % 65536 ^ (i + 1)) * y → Ev (fun n => r2_Mul.l0 n (ln x) (ln y) out ((i + 1 : Nat) : Int)) (ln (x * y))) :
    ∀ (d k c : Nat) (out : List Int), k + d = (ln y).length → nok out → out.length = (ln x).length + (ln y).length → c < 65536 → nv out < 65536 ^ (i + (ln y).length) →
      nv out + 65536 ^ (i + k) * c = (x % 65536 ^ i) * y + 65536 ^ i * (x / 65536 ^ i % 65536 * (y % 65536 ^ k)) → Ev (fun n => r2_Mul.l1 n (ln x) (ln y) out (i : Int) (c : Int) (k : Int)) (ln (x * y)) := by
  have lx := ln_length hx
  have ly := ln_length hy
  have hyl : y < 65536 ^ (ln y).length := by have := nv_lt (nok_ln y); rwa [nv_ln] at this
  intro d
  induction d with
  | zero =>
    intro k c out hk hok hlen hc hlt hv
    rw [Nat.add_zero] at hk
    subst hk
    have hs := nv_set (l := out) (i + (ln y).length) (by omega) (c : Int)
    rw [getD_nv hok, Nat.div_eq_of_lt hlt] at hs
    have hs2 : nv (out.set (i + (ln y).length) (c : Int)) = nv out + 65536 ^ (i + (ln y).length) * c := by
      rw [Int.toNat_natCast] at hs
      simpa using hs
    have ew : wrap64 ((i : Int) + ((ln y).length : Int)) = ((i + (ln y).length : Nat) : Int) := by unfold wrap64; omega
    refine Ev.step (f := fun n => r2_Mul.l0 n (ln x) (ln y) (out.set (i + (ln y).length) (c : Int)) ((i + 1 : Nat) : Int)) (fun n => ?_) (next _ (nok_set hok _ (Int.natCast_nonneg _) (Int.ofNat_lt.2 hc)) (by rw [List.length_set]; exact hlen) ?_)
    · clear hv hlt hs hs2 next hyl
      simp only [r2_Mul.l1]
      rw [if_neg (by omega), ew, if_pos (by omega), if_pos (by omega), Int.toNat_natCast, w1 (by omega), show ((c : Int) % 4294967296) = (c : Int) by omega]
    · rw [hs2, hv, Nat.mod_eq_of_lt hyl, mod_up, Nat.add_mul, Nat.mul_assoc]
  | succ d ih =>
    intro k c out hk hok hlen hc hlt hv
    have hkl : k < (ln y).length := by omega
    have hp : i + k < out.length := by omega
    have q1 : (k : Int) < ((ln y).length : Int) := by omega
    have q2 : (0 : Int) ≤ ((i + k : Nat) : Int) := Int.natCast_nonneg _
    have q3 : ((i + k : Nat) : Int) < (out.length : Int) := by omega
    have q4 : (0 : Int) ≤ (i : Int) := Int.natCast_nonneg _
    have q5 : (i : Int) < ((ln x).length : Int) := by omega
    have q6 : (0 : Int) ≤ (k : Int) := Int.natCast_nonneg _
    have q7 : k < 4000000000000000000 := by omega
    have ew : wrap64 ((i : Int) + (k : Int)) = ((i + k : Nat) : Int) := by unfold wrap64; omega
    have ro := rd_nv hok (i + k)
    generalize hoo : nv out / 65536 ^ (i + k) % 65536 = o at *
    have ho : o < 65536 := by omega
    have rx := rd_ln x i
    have ry := rd_ln y k
    obtain ⟨e1, hT⟩ := mul_part (x / 65536 ^ i % 65536) (y / 65536 ^ k % 65536) c o (by omega) (by omega) hc ho
    obtain ⟨e2, e3⟩ := mul_tm _ hT
    have hy2 := mod_up y k
    generalize hxi : x / 65536 ^ i % 65536 = xi at *
    generalize hyk : y / 65536 ^ k % 65536 = yk at *
    generalize ht : c + o + xi * yk = t at *
    have hcn : t / 65536 < 65536 := Nat.div_lt_of_lt_mul hT
    have hs := nv_set (l := out) (i + k) hp ((t % 65536 : Nat) : Int)
    rw [getD_nv hok, hoo, Int.toNat_natCast, Int.toNat_natCast] at hs
    refine Ev.step (f := fun n => r2_Mul.l1 n (ln x) (ln y) (out.set (i + k) ((t % 65536 : Nat) : Int)) (i : Int) ((t / 65536 : Nat) : Int) ((k + 1 : Nat) : Int)) (fun n => ?_) (ih (k + 1) (t / 65536) _ (by clear hv hlt hs ro rx ry e1 e2 e3; omega) (nok_set hok _ (Int.natCast_nonneg _) (Int.ofNat_lt.2 (Nat.mod_lt t (by decide)))) (by rw [List.length_set]; exact hlen) hcn (set_lt (Nat.add_lt_add_left hkl i) (Nat.mod_lt t (by decide)) hoo.symm hlt hs) ?_)
    · clear hv hlt hs hy2 ih next hyl hoo hxi hyk ht hT
      simp only [r2_Mul.l1]
      rw [if_pos q1, ew, if_pos q2, if_pos q3, if_pos q4, if_pos q5, if_pos q6, ro, rx, ry, e1, e2, e3, Int.toNat_natCast, w1 q7]
    · have h1 : 65536 ^ (i + (k + 1)) * (t / 65536) + 65536 ^ (i + k) * (t % 65536) = 65536 ^ (i + k) * t := by
        rw [← Nat.add_assoc, Nat.pow_succ, Nat.mul_assoc, ← Nat.mul_add, Nat.div_add_mod]
      have h2 : 65536 ^ (i + k) * t = 65536 ^ (i + k) * c + 65536 ^ (i + k) * o + 65536 ^ (i + k) * (xi * yk) := by rw [← ht, Nat.mul_add, Nat.mul_add]
      have h3 : 65536 ^ i * (xi * (y % 65536 ^ (k + 1))) = 65536 ^ i * (xi * (y % 65536 ^ k)) + 65536 ^ (i + k) * (xi * yk) := by
        rw [hy2, Nat.mul_add, Nat.mul_add, Nat.pow_add, Nat.mul_left_comm xi, Nat.mul_assoc]
      rw [h3]
      clear h3 hy2 ht hT hcn ih next hyl hlt
      generalize 65536 ^ (i + (k + 1)) * (t / 65536) = P at *
      generalize 65536 ^ (i + k) * (t % 65536) = Q at *
      generalize 65536 ^ (i + k) * t = R at *
      generalize 65536 ^ (i + k) * c = V at *
      generalize 65536 ^ (i + k) * o = W at *
      generalize 65536 ^ (i + k) * (xi * yk) = Z at *
      generalize 65536 ^ i * (xi * (y % 65536 ^ k)) = Y at *
      generalize x % 65536 ^ i * y = X at *
      omega
theorem mul_l0 (hB : B ≤ 1000000) (hx : x < 65536 ^ B) (hy : y < 65536 ^ B) : ∀ (d i : Nat) (out : List Int), i + d = (ln x).length → nok out → out.length = (ln x).length + (ln y).length → nv out = (x % 65536 ^ i) * y →
    Ev (fun n => r2_Mul.l0 n (ln x) (ln y) out (i : Int)) (ln (x * y)) := by
  have lx := ln_length hx
  have ly := ln_length hy
  have hxl : x < 65536 ^ (ln x).length := by have := nv_lt (nok_ln x); rwa [nv_ln] at this
  have hyl : y < 65536 ^ (ln y).length := by have := nv_lt (nok_ln y); rwa [nv_ln] at this
  intro d
  induction d with
  | zero =>
    intro i out hi hok hlen hv
    rw [Nat.add_zero] at hi
    subst hi
    rw [Nat.mod_eq_of_lt hxl] at hv
    refine Ev.step (f := fun n => (r2_trim.f n out).bind fun t => some t) (fun n => ?_) (trim_to hok (by omega) hv)
    simp only [r2_Mul.l0]
    rw [if_neg (by omega)]
  | succ d ih =>
    intro i out hi hok hlen hv
    have hlt : nv out < 65536 ^ (i + (ln y).length) := by
      rw [hv, Nat.pow_add]
      exact Nat.mul_lt_mul'' (Nat.mod_lt _ (p16 i)) hyl
    refine Ev.step (f := fun n => r2_Mul.l1 n (ln x) (ln y) out (i : Int) ((0 : Nat) : Int) ((0 : Nat) : Int)) (fun n => ?_) (mul_l1 hB hx hy i (by omega) (fun out' h1 h2 h3 => ih (i + 1) out' (by omega) h1 h2 h3) (ln y).length 0 0 out (by omega) hok hlen (by omega) hlt ?_)
    · simp only [r2_Mul.l0]
      rw [if_pos (by omega)]
      rfl
    · rw [Nat.mul_zero, Nat.add_zero, hv, Nat.pow_zero, Nat.mod_one, Nat.mul_zero, Nat.mul_zero, Nat.add_zero]
theorem mul_ev (hB : B ≤ 1000000) (hx : x < 65536 ^ B) (hy : y < 65536 ^ B) : Ev (fun k => r2_Mul.f k (ln x) (ln y)) (ln (x * y)) := by
  have lx := ln_length hx
  have ly := ln_length hy
  have ew : wrap64 (((ln x).length : Int) + ((ln y).length : Int)) = (((ln x).length + (ln y).length : Nat) : Int) := by unfold wrap64; omega
  refine Ev.congr (fun k => ?_) (mul_l0 hB hx hy (ln x).length 0 (List.replicate ((ln x).length + (ln y).length) 0) (by omega) (nok_zeros _) (by simp) (by rw [nv_zeros, Nat.pow_zero, Nat.mod_one, Nat.zero_mul]))
  unfold r2_Mul.f
  rw [ew, if_pos (by omega), Int.toNat_natCast, if_pos (by omega)]
  rfl
end
end Go.Proofs.Ytbgefpeicmbgiaa
end
section
namespace Go.Proofs.Ytbgefpeicmbgiaa
set_option linter.unusedVariables false
set_option linter.unusedSimpArgs false
open Go.RowKit X Go.Proofs.YtbgefpeicmbgiaaW.PrintWords
theorem rbad_eq {a b : Int} (ha : U a) (hb : U b) : r6_bad.f a b = some (bad a b) := by
  have z1 := zero_iff (a := a)
  have z2 := zero_iff (a := b)
  have i1 := inf_iff (a := a)
  have i2 := inf_iff (a := b)
  unfold r6_bad.f bad
  rw [r3_Abs.eq a (inU_of ha), Option.bind_some, r3_Abs.eq b (inU_of hb), Option.bind_some]
  by_cases h0 : pA a = 0
  · have c0 := z1.1 h0
    rw [if_pos h0]
    by_cases h1 : pA b = 9218868437227405312
    · rw [if_pos h1, decide_eq_true (.inl ⟨c0, i2.1 h1⟩)]
    · have : pC b ≠ 3 := fun h => h1 (i2.2 h)
      rw [if_neg h1]
      by_cases h2 : pA b = 0
      · rw [if_pos h2, decide_eq_false (by omega), beq_eq_false_iff_ne.mpr (by omega)]
      · rw [if_neg h2, decide_eq_false (by omega)]
  · have c0 : pC a ≠ 0 := fun h => h0 (z1.2 h)
    rw [if_neg h0]
    by_cases h2 : pA b = 0
    · have := z2.1 h2
      rw [if_pos h2]
      congr 1
      rw [Bool.eq_iff_iff]
      simp only [beq_iff_eq, decide_eq_true_eq]
      rw [i1]
      omega
    · have : pC b ≠ 0 := fun h => h2 (z2.2 h)
      rw [if_neg h2, decide_eq_false (by omega)]
theorem rsigned06 {p a b : Int} (h0 : 0 ≤ p) (h1 : p < 9223372036854775808) : r6_signed.f p a b = some (p + sg (qMi a b)) := by
  have e : (decide (a ≥ 9223372036854775808) != decide (b ≥ 9223372036854775808)) = qMi a b := rfl
  unfold r6_signed.f sg
  rw [e]
  cases qMi a b
  · rw [if_neg (by decide), if_neg (by decide), Int.add_zero]
  · rw [if_pos rfl, if_pos rfl, IntKind.wrap_u64]
    congr 1
    omega
theorem exact_ev {a b : Int} (ha : U a) (hb : U b) : Ev (fun k => r6_Exact.f k a b) (qMi a b, pX a + pX b, ln ((pS a).toNat * (pS b).toNat)) := by
  obtain ⟨B, hBe⟩ : ∃ B : Nat, B = 130000 := ⟨_, rfl⟩
  have hB : B ≤ 1000000 := by omega
  have hB2 : 130000 ≤ B := by omega
  clear hBe
  have sa := pS_bd a
  have sb := pS_bd b
  have xa := pX_bd a
  have xb := pX_bd b
  have ew : wrap64 (pX a + pX b) = pX a + pX b := by unfold wrap64; omega
  have hM := mul_ev hB (x := (pS a).toNat) (y := (pS b).toNat) (small_B hB2 (by omega)) (small_B hB2 (by omega))
  refine Ev.congr (f := fun k => (r4_Pattern.f k a).bind fun bt712 => ((r4_Pattern.f k b).bind fun bt717 => ((r2_Mul.f k bt712.2.2 bt717.2.2).bind fun t724 => (some ((bt712.1 != bt717.1), wrap64 (bt712.2.1 + bt717.2.1), t724))))) (fun k => rfl) (Ev.bind (pattern_ev ha) (Ev.bind (pattern_ev hb) (Ev.bind hM ?_)))
  exact Ev.congr (fun k => by dsimp only; rw [ew]; rfl) (Ev.now _)
theorem ref_mul_j1 {a b : Int} (m : Int) (ha : U a) (hb : U b) : Ev (fun k => r6_Mul.j1 k a b m false) (rRound (qMi a b) (pX a + pX b) ((pS a).toNat * (pS b).toNat) m) := by
  obtain ⟨B, hBe⟩ : ∃ B : Nat, B = 130000 := ⟨_, rfl⟩
  have hB : B ≤ 1000000 := by omega
  have hB2 : 130000 ≤ B := by omega
  clear hBe
  have xa := pX_bd a
  have xb := pX_bd b
  have hl := prod_lt a b
  have r := ref_round_ev hB hB2 (qMi a b) (e := pX a + pX b) (s := (pS a).toNat * (pS b).toNat) m (Nat.lt_trans hl (pow_B hB2 (by omega))) (by have := blen_le_iff.2 hl; omega) (by omega) (by omega)
  refine Ev.step (f := fun k => (r6_Exact.f k a b).bind fun bt734 => ((r4_Round.f k bt734.1 bt734.2.1 bt734.2.2 m).bind fun bt739 => (some (bt739.1, bt739.2)))) (fun k => ?_) (Ev.bind (exact_ev ha hb) (Ev.bind r (Ev.now _)))
  simp only [r6_Mul.j1]
  rw [if_neg (by decide)]
theorem ref_mul_ev {a b : Int} (m : Int) (ha : U a) (hb : U b) : Ev (fun k => r6_Mul.f k a b m) (qMul a b m) := by
  have ca := pC_bd a
  have cb := pC_bd b
  have nanj : 3 < pC a ∨ 3 < pC b → Ev (fun k => r6_Mul.j0 k a b m true) (qMul a b m) := fun h => by
    unfold qMul
    rw [if_pos h]
    refine Ev.step (f := fun _ => some _) (fun k => ?_) (Ev.now _)
    simp only [r6_Mul.j0]
    rw [if_pos trivial, none5_eq ha hb]
    rfl
  have main : ¬ (3 < pC a ∨ 3 < pC b) → Ev (fun k => r6_Mul.j0 k a b m false) (qMul a b m) := fun h => by
    unfold qMul
    rw [if_neg h]
    by_cases hbad : bad a b = true
    · rw [if_pos hbad]
      refine Ev.step (f := fun _ => some _) (fun k => ?_) (Ev.now _)
      simp only [r6_Mul.j0]
      rw [if_neg (by decide), rbad_eq ha hb, Option.bind_some, if_pos hbad]
    · rw [if_neg hbad]
      have infj : pC a = 3 ∨ pC b = 3 → Ev (fun k => r6_Mul.j1 k a b m true) (9218868437227405312 + sg (qMi a b), 0) := fun h => by
        refine Ev.step (f := fun _ => some _) (fun k => ?_) (Ev.now _)
        simp only [r6_Mul.j1]
        rw [if_pos trivial, rsigned06 (by omega) (by omega), Option.bind_some]
      by_cases i1 : pC a = 3
      · rw [if_pos (.inl i1)]
        refine Ev.step (f := fun k => r6_Mul.j1 k a b m true) (fun k => ?_) (infj (.inl i1))
        simp only [r6_Mul.j0]
        rw [if_neg (by decide), rbad_eq ha hb, Option.bind_some, if_neg hbad, r3_Abs.eq a (inU_of ha), Option.bind_some, if_pos (inf_iff.2 i1)]
      · have step : ∀ k, r6_Mul.j0 (k + 1) a b m false = r6_Mul.j1 k a b m (pA b == 9218868437227405312) := fun k => by
          simp only [r6_Mul.j0]
          rw [if_neg (by decide), rbad_eq ha hb, Option.bind_some, if_neg hbad, r3_Abs.eq a (inU_of ha), Option.bind_some, if_neg (fun h => i1 (inf_iff.1 h)), r3_Abs.eq b (inU_of hb), Option.bind_some]
        by_cases i2 : pC b = 3
        · rw [if_pos (.inr i2)]
          refine Ev.step (fun k => ?_) (infj (.inr i2))
          rw [step, beq_iff_eq.mpr (inf_iff.2 i2)]
        · rw [if_neg (by omega)]
          refine Ev.step (fun k => ?_) (ref_mul_j1 m ha hb)
          rw [step, beq_eq_false_iff_ne.mpr (fun h => i2 (inf_iff.1 h))]
  by_cases n1 : 3 < pC a
  · refine Ev.congr (fun k => ?_) (nanj (.inl n1))
    unfold r6_Mul.f
    rw [r3_NaN.eq a (inU_of ha), Option.bind_some, decide_eq_true n1, if_pos rfl]
  · by_cases n2 : 3 < pC b
    · refine Ev.congr (fun k => ?_) (nanj (.inr n2))
      unfold r6_Mul.f
      rw [r3_NaN.eq a (inU_of ha), Option.bind_some, decide_eq_false n1, if_neg (by decide), r3_NaN.eq b (inU_of hb), Option.bind_some, decide_eq_true n2]
    · refine Ev.congr (fun k => ?_) (main (fun h => h.elim n1 n2))
      unfold r6_Mul.f
      rw [r3_NaN.eq a (inU_of ha), Option.bind_some, decide_eq_false n1, if_neg (by decide), r3_NaN.eq b (inU_of hb), Option.bind_some, decide_eq_false n2]
end Go.Proofs.Ytbgefpeicmbgiaa
end
section
namespace Go.Proofs.Ytbgefpeicmbgiaa
set_option linter.unusedVariables false
set_option linter.unusedSimpArgs false
open Go.RowKit X Go.Proofs.YtbgefpeicmbgiaaW.PrintWords
theorem qMul_fl (a b m : Int) : 0 ≤ (qMul a b m).2 ∧ (qMul a b m).2 ≤ 255 := by
  unfold qMul
  split
  · unfold qNone; dsimp only; split <;> omega
  · split
    · simp
    · split
      · simp
      · exact round_fl _ _ _ _
theorem ProdMuls : tillerlaw06_ProdMuls.Pure := by
  intro a b m w0 w1 w2
  have ha := U_wf w0
  have hb := U_wf w1
  obtain ⟨K, h⟩ := ref_mul_ev m ha hb
  replace h : ∀ k, K ≤ k → r6_Mul.f k a b m = some (qMul a b m) := h
  have hf := qMul_fl a b m
  refine ⟨K + 12, ?_⟩
  unfold tillerlaw06_ProdMuls.f
  rw [mul_spec (K + 7) m ha hb, Option.bind_some, h (K + 12) (by omega), Option.bind_some, if_pos rfl, if_pos (by unfold wrap64; omega), sure06 K]
  rfl
end Go.Proofs.Ytbgefpeicmbgiaa
end
section
namespace Go.Proofs.Ytbgefpeicmbgiaa.Pure
set_option linter.unusedVariables false
set_option linter.unusedSimpArgs false
theorem ProdMuls : Go.Proofs.Ytbgefpeicmbgiaa.X.tillerlaw06_ProdMuls.Pure := Go.Proofs.Ytbgefpeicmbgiaa.ProdMuls
end Go.Proofs.Ytbgefpeicmbgiaa.Pure
end
