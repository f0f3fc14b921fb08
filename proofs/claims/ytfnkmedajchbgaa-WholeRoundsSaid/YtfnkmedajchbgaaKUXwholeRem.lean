import Derived.Test.YtfnkmedajchbgaaKU4
import Derived.Test.YtfnkmedajchbgaaKUXwholerests
namespace Go.Proofs.Ytfnkmedajchbgaa.X
open Go.RowKit Go.Proofs.YtfnkmedajchbgaaW.PrintWords Go.Proofs.YtfnkmedajchbgaaW.PrintLast Go.Proofs.YtfnkmedajchbgaaW.PrintMore
attribute [local go_sem] max2_int min2_int max_two min_two max_three min_three max_four min_four   
set_option linter.unusedVariables false
set_option linter.unusedSimpArgs false
def whole_Rem.j0 : Nat → Bool → Bool → Int → Int → Int → Int → Int → Int → Int → Int → Int → Bool → Option (Int × Int)
 | 0, _, _, _, _, _, _, _, _, _, _, _, _ => none
 | k + 1, x10, x42, qz, q00, q01, q02, qv, qw, qx, qy, q03, q04 => if x42 = true then ((wide_Sub.f qv qw qx qy qz q00 q01 q02).bind fun qg => ((whole_rest_made.f qg.1 qg.2.1 qg.2.2.1 qg.2.2.2.1 qv qw qx qy q03 q04 (!x10)).bind fun qh => (some (qh.1, qh.2)))) else ((whole_rest_made.f qz q00 q01 q02 qv qw qx qy q03 q04 x10).bind fun qm => (some (qm.1, qm.2)))
def whole_Rem.f (k : Nat) (a0 : Int) (a1 : Int) : Option (Int × Int) := (whole_rests.f k a0 a1).bind fun q2 => (if q2.2.2.2.2.2.2.2.2.2.2.1 = true then ((wide_Shl.f q2.1 q2.2.1 q2.2.2.1 q2.2.2.2.1 1).bind fun qe => ((wide_Cmp.f qe.1 qe.2.1 qe.2.2.1 qe.2.2.2 q2.2.2.2.2.1 q2.2.2.2.2.2.1 q2.2.2.2.2.2.2.1 q2.2.2.2.2.2.2.2.1).bind fun qd => (if qd > 0 then (whole_Rem.j0 k ((Go.bits .and .u64 a0 9223372036854775808) != 0) true q2.1 q2.2.1 q2.2.2.1 q2.2.2.2.1 q2.2.2.2.2.1 q2.2.2.2.2.2.1 q2.2.2.2.2.2.2.1 q2.2.2.2.2.2.2.2.1 q2.2.2.2.2.2.2.2.2.1 q2.2.2.2.2.2.2.2.2.2.1) else (if qd = 0 then (whole_Rem.j0 k ((Go.bits .and .u64 a0 9223372036854775808) != 0) q2.2.2.2.2.2.2.2.2.2.1 q2.1 q2.2.1 q2.2.2.1 q2.2.2.2.1 q2.2.2.2.2.1 q2.2.2.2.2.2.1 q2.2.2.2.2.2.2.1 q2.2.2.2.2.2.2.2.1 q2.2.2.2.2.2.2.2.2.1 q2.2.2.2.2.2.2.2.2.2.1) else (whole_Rem.j0 k ((Go.bits .and .u64 a0 9223372036854775808) != 0) false q2.1 q2.2.1 q2.2.2.1 q2.2.2.2.1 q2.2.2.2.2.1 q2.2.2.2.2.2.1 q2.2.2.2.2.2.2.1 q2.2.2.2.2.2.2.2.1 q2.2.2.2.2.2.2.2.2.1 q2.2.2.2.2.2.2.2.2.2.1))))) else (some (q2.2.2.2.2.2.2.2.2.2.2.2.1, q2.2.2.2.2.2.2.2.2.2.2.2.2)))
theorem whole_Rem.mono_l : ∀ k, (∀ y0 y1 y2 y3 y4 y5 y6 y7 y8 y9 y10 y11, LeO (whole_Rem.j0 k y0 y1 y2 y3 y4 y5 y6 y7 y8 y9 y10 y11) (whole_Rem.j0 (k + 1) y0 y1 y2 y3 y4 y5 y6 y7 y8 y9 y10 y11))
 | 0 => fun _ _ _ _ _ _ _ _ _ _ _ _ r h => by simp [whole_Rem.j0] at h
 | k + 1 => by
  have ih0 := whole_Rem.mono_l k
  · intro y0 y1 y2 y3 y4 y5 y6 y7 y8 y9 y10 y11
    unfold whole_Rem.j0
    repeat' first
    | (with_reducible exact ih0 _ _ _ _ _ _ _ _ _ _ _ _)
    | (with_reducible exact whole_rests.mono _ _ _)
    | (with_reducible exact LeO.refl _)
    | (with_reducible exact LeO.none _)
    | (with_reducible refine LeO.ite ?_ ?_)
    | (with_reducible refine LeO.bind ?_ (fun _ => ?_))
    | exact ih0 _ _ _ _ _ _ _ _ _ _ _ _
    | exact whole_rests.mono _ _ _
    | exact LeO.none _
    | refine LeO.ite ?_ ?_
    | refine LeO.bind ?_ (fun _ => ?_)
theorem whole_Rem.mono : ∀ a0 a1 k, LeO (whole_Rem.f k a0 a1) (whole_Rem.f (k + 1) a0 a1) := by
 intro a0 a1 k; have ih0 := whole_Rem.mono_l k
 unfold whole_Rem.f
 repeat' first
  | (with_reducible exact ih0 _ _ _ _ _ _ _ _ _ _ _ _)
  | (with_reducible exact whole_rests.mono _ _ _)
  | (with_reducible exact LeO.refl _)
  | (with_reducible exact LeO.none _)
  | (with_reducible refine LeO.ite ?_ ?_)
  | (with_reducible refine LeO.bind ?_ (fun _ => ?_))
  | exact ih0 _ _ _ _ _ _ _ _ _ _ _ _
  | exact whole_rests.mono _ _ _
  | exact LeO.none _
  | refine LeO.ite ?_ ?_
  | refine LeO.bind ?_ (fun _ => ?_)
set_option maxHeartbeats 8000000 in
set_option maxRecDepth 100000 in
theorem whole_Rem.calls (k : Nat) (a0 : Int) (a1 : Int) (r1 : Int) (r2 : Int) (w : World) (h : whole_Rem.f k a0 a1 = some (r1, r2)) :
 Calls Try.prog 17 #[.int .u64 a0, .int .u64 a1] w fun e w' => e = .returned (.tuple #[.int .u64 r1, .int .u8 r2]) ∧ Below w.heap.size w w' := by
 have hu77 := Try.underlying77; have hu49 := Try.underlying49; have HB := Aside0.mk (Below.refl w.heap.size w); have H : ((whole_rests.f k a0 a1).bind fun q2 => (if q2.2.2.2.2.2.2.2.2.2.2.1 = true then ((wide_Shl.f q2.1 q2.2.1 q2.2.2.1 q2.2.2.2.1 1).bind fun qe => ((wide_Cmp.f qe.1 qe.2.1 qe.2.2.1 qe.2.2.2 q2.2.2.2.2.1 q2.2.2.2.2.2.1 q2.2.2.2.2.2.2.1 q2.2.2.2.2.2.2.2.1).bind fun qd => (if qd > 0 then (whole_Rem.j0 k ((Go.bits .and .u64 a0 9223372036854775808) != 0) true q2.1 q2.2.1 q2.2.2.1 q2.2.2.2.1 q2.2.2.2.2.1 q2.2.2.2.2.2.1 q2.2.2.2.2.2.2.1 q2.2.2.2.2.2.2.2.1 q2.2.2.2.2.2.2.2.2.1 q2.2.2.2.2.2.2.2.2.2.1) else (if qd = 0 then (whole_Rem.j0 k ((Go.bits .and .u64 a0 9223372036854775808) != 0) q2.2.2.2.2.2.2.2.2.2.1 q2.1 q2.2.1 q2.2.2.1 q2.2.2.2.1 q2.2.2.2.2.1 q2.2.2.2.2.2.1 q2.2.2.2.2.2.2.1 q2.2.2.2.2.2.2.2.1 q2.2.2.2.2.2.2.2.2.1 q2.2.2.2.2.2.2.2.2.2.1) else (whole_Rem.j0 k ((Go.bits .and .u64 a0 9223372036854775808) != 0) false q2.1 q2.2.1 q2.2.2.1 q2.2.2.2.1 q2.2.2.2.2.1 q2.2.2.2.2.2.1 q2.2.2.2.2.2.2.1 q2.2.2.2.2.2.2.2.1 q2.2.2.2.2.2.2.2.2.1 q2.2.2.2.2.2.2.2.2.2.1))))) else (some (q2.2.2.2.2.2.2.2.2.2.2.2.1, q2.2.2.2.2.2.2.2.2.2.2.2.2)))) = some (r1, r2) := h; clear h; replace H := Option.bind_eq_some_iff.mp H; obtain ⟨⟨q7, q8, q9, qa, q3, q4, q5, q6, qc, qb, q05, qo, qp⟩, A30, H⟩ := H; replace H : (if q05 = true then ((wide_Shl.f q7 q8 q9 qa 1).bind fun qe => ((wide_Cmp.f qe.1 qe.2.1 qe.2.2.1 qe.2.2.2 q3 q4 q5 q6).bind fun qd => (if qd > 0 then (whole_Rem.j0 k ((Go.bits .and .u64 a0 9223372036854775808) != 0) true q7 q8 q9 qa q3 q4 q5 q6 qc qb) else (if qd = 0 then (whole_Rem.j0 k ((Go.bits .and .u64 a0 9223372036854775808) != 0) qb q7 q8 q9 qa q3 q4 q5 q6 qc qb) else (whole_Rem.j0 k ((Go.bits .and .u64 a0 9223372036854775808) != 0) false q7 q8 q9 qa q3 q4 q5 q6 qc qb))))) else (some (qo, qp))) = some (r1, r2) := H; have A3 := Aside0.mk A30; clear A30
 by_cases c4 : q05 = true
 · subst c4
   have H1 : ((wide_Shl.f q7 q8 q9 qa 1).bind fun qe => ((wide_Cmp.f qe.1 qe.2.1 qe.2.2.1 qe.2.2.2 q3 q4 q5 q6).bind fun qd => (if qd > 0 then (whole_Rem.j0 k ((Go.bits .and .u64 a0 9223372036854775808) != 0) true q7 q8 q9 qa q3 q4 q5 q6 qc qb) else (if qd = 0 then (whole_Rem.j0 k ((Go.bits .and .u64 a0 9223372036854775808) != 0) qb q7 q8 q9 qa q3 q4 q5 q6 qc qb) else (whole_Rem.j0 k ((Go.bits .and .u64 a0 9223372036854775808) != 0) false q7 q8 q9 qa q3 q4 q5 q6 qc qb))))) = some (r1, r2) := by rw [if_pos rfl] at H; exact H
   clear H; have H := H1; clear H1; replace H := Option.bind_eq_some_iff.mp H; obtain ⟨⟨qq, qr, qs, qt⟩, A50, H⟩ := H; replace H : ((wide_Cmp.f qq qr qs qt q3 q4 q5 q6).bind fun qd => (if qd > 0 then (whole_Rem.j0 k ((Go.bits .and .u64 a0 9223372036854775808) != 0) true q7 q8 q9 qa q3 q4 q5 q6 qc qb) else (if qd = 0 then (whole_Rem.j0 k ((Go.bits .and .u64 a0 9223372036854775808) != 0) qb q7 q8 q9 qa q3 q4 q5 q6 qc qb) else (whole_Rem.j0 k ((Go.bits .and .u64 a0 9223372036854775808) != 0) false q7 q8 q9 qa q3 q4 q5 q6 qc qb)))) = some (r1, r2) := H; have A5 := Aside0.mk A50; clear A50; replace H := Option.bind_eq_some_iff.mp H; obtain ⟨qd, A60, H⟩ := H; replace H : (if qd > 0 then (whole_Rem.j0 k ((Go.bits .and .u64 a0 9223372036854775808) != 0) true q7 q8 q9 qa q3 q4 q5 q6 qc qb) else (if qd = 0 then (whole_Rem.j0 k ((Go.bits .and .u64 a0 9223372036854775808) != 0) qb q7 q8 q9 qa q3 q4 q5 q6 qc qb) else (whole_Rem.j0 k ((Go.bits .and .u64 a0 9223372036854775808) != 0) false q7 q8 q9 qa q3 q4 q5 q6 qc qb))) = some (r1, r2) := H; have A6 := Aside0.mk A60; clear A60; have HC7 := Aside0.mk H; clear H
   go_enter Try.func17, Try.ntmps17
   try go_wp2_with (first | ((with_reducible refine gate_callee (f := 45) rfl ?_); refine goesL_ (some 15) rfl rfl Try.func45 (by kernel_rfl) rfl #[.int .u64 a0, .int .u64 a1] rfl LMq ?_; (with_reducible refine (whole_rests.calls k a0 a1 q7 q8 q9 qa q3 q4 q5 q6 qc qb true qo qp _ A3.out).mono ?_); rintro e w8 ⟨rfl, hb⟩; refine ⟨_, rfl, ?_⟩; replace HB := Aside0.mk (below_step (kH HB) hb); (try clear hb); (try clear hb2); (try clear hk); (try clear hi)) | ((with_reducible refine gate_dst (N := 6) rfl ?_); refine box_event ?hg (N := 6) ?hd (cs := #[.int .u64 0, .int .u64 0, .int .u64 0, .int .u64 0, .int .u64 0, .int .u64 0, .int .u64 0, .int .u64 0, .int .i64 0, .bool false]) (t := 77) ?hr ?_; (case hd => rfl); (case hg => rfl); (case hr => first | (go_simp; done) | (go_simp; rfl)); intro q1 hg w9 hbox hb; have q0 := Aside0.mk (hbox); have q0f := Aside0.mk ((by rw [hg]; exact (below_size (kH HB)) : w.heap.size ≤ q1)); have qf := Aside0.mk ((by rw [hg]; exact (below_size (kH HB)) : w.heap.size ≤ q1)); replace HB := Aside0.mk (below_step (kH HB) hb); clear hb hbox hg; have q0g : w9.cell? ⟨q1, 0, none⟩ = some (.int .u64 0) := bc q0 0; have q0h : w9.cell? ⟨q1, 1, none⟩ = some (.int .u64 0) := bc q0 1; have q0i : w9.cell? ⟨q1, 2, none⟩ = some (.int .u64 0) := bc q0 2; have q0j : w9.cell? ⟨q1, 3, none⟩ = some (.int .u64 0) := bc q0 3; have q0k : w9.cell? ⟨q1, 4, none⟩ = some (.int .u64 0) := bc q0 4; have q0l : w9.cell? ⟨q1, 5, none⟩ = some (.int .u64 0) := bc q0 5; have q0m : w9.cell? ⟨q1, 6, none⟩ = some (.int .u64 0) := bc q0 6; have q0n : w9.cell? ⟨q1, 7, none⟩ = some (.int .u64 0) := bc q0 7; have q0o : w9.cell? ⟨q1, 8, none⟩ = some (.int .i64 0) := bc q0 8; have q0p : w9.cell? ⟨q1, 9, none⟩ = some (.bool false) := bc q0 9; have q0q := blk_frozen q0.out 0; have q0r := blk_frozen q0.out 1; have q0s := blk_frozen q0.out 2; have q0t := blk_frozen q0.out 3; have q0u := blk_frozen q0.out 4; have q0v := blk_frozen q0.out 5; have q0w := blk_frozen q0.out 6; have q0x := blk_frozen q0.out 7; have q0y := blk_frozen q0.out 8; have q0z := blk_frozen q0.out 9))
   have n0_ : Aside0 (((((((((((w9.setCell ⟨q1, 0, none⟩ (.int .u64 q7)).setCell ⟨q1, 1, none⟩ (.int .u64 q8)).setCell ⟨q1, 2, none⟩ (.int .u64 q9)).setCell ⟨q1, 3, none⟩ (.int .u64 qa)).setCell ⟨q1, 4, none⟩ (.int .u64 q3)).setCell ⟨q1, 5, none⟩ (.int .u64 q4)).setCell ⟨q1, 6, none⟩ (.int .u64 q5)).setCell ⟨q1, 7, none⟩ (.int .u64 q6)).setCell ⟨q1, 8, none⟩ (.int .i64 qc)).setCell ⟨q1, 9, none⟩ (.bool qb)).heap[q1]? = some (.cells #[.int .u64 q7, .int .u64 q8, .int .u64 q9, .int .u64 qa, .int .u64 q3, .int .u64 q4, .int .u64 q5, .int .u64 q6, .int .i64 qc, .bool qb] 77 (0, 0))) := ⟨by (with_reducible repeat (first | refine blk_drewN ?_ _ | refine blk_drew ?_ | refine blk_alloc ?_ _)); refine blk_put (cs := #[.int .u64 q7, .int .u64 q8, .int .u64 q9, .int .u64 qa, .int .u64 q3, .int .u64 q4, .int .u64 q5, .int .u64 q6, .int .i64 qc, .bool false]) ?_ 9 _ rfl; refine blk_put (cs := #[.int .u64 q7, .int .u64 q8, .int .u64 q9, .int .u64 qa, .int .u64 q3, .int .u64 q4, .int .u64 q5, .int .u64 q6, .int .i64 0, .bool false]) ?_ 8 _ rfl; refine blk_put (cs := #[.int .u64 q7, .int .u64 q8, .int .u64 q9, .int .u64 qa, .int .u64 q3, .int .u64 q4, .int .u64 q5, .int .u64 0, .int .i64 0, .bool false]) ?_ 7 _ rfl; refine blk_put (cs := #[.int .u64 q7, .int .u64 q8, .int .u64 q9, .int .u64 qa, .int .u64 q3, .int .u64 q4, .int .u64 0, .int .u64 0, .int .i64 0, .bool false]) ?_ 6 _ rfl; refine blk_put (cs := #[.int .u64 q7, .int .u64 q8, .int .u64 q9, .int .u64 qa, .int .u64 q3, .int .u64 0, .int .u64 0, .int .u64 0, .int .i64 0, .bool false]) ?_ 5 _ rfl; refine blk_put (cs := #[.int .u64 q7, .int .u64 q8, .int .u64 q9, .int .u64 qa, .int .u64 0, .int .u64 0, .int .u64 0, .int .u64 0, .int .i64 0, .bool false]) ?_ 4 _ rfl; refine blk_put (cs := #[.int .u64 q7, .int .u64 q8, .int .u64 q9, .int .u64 0, .int .u64 0, .int .u64 0, .int .u64 0, .int .u64 0, .int .i64 0, .bool false]) ?_ 3 _ rfl; refine blk_put (cs := #[.int .u64 q7, .int .u64 q8, .int .u64 0, .int .u64 0, .int .u64 0, .int .u64 0, .int .u64 0, .int .u64 0, .int .i64 0, .bool false]) ?_ 2 _ rfl; refine blk_put (cs := #[.int .u64 q7, .int .u64 0, .int .u64 0, .int .u64 0, .int .u64 0, .int .u64 0, .int .u64 0, .int .u64 0, .int .i64 0, .bool false]) ?_ 1 _ rfl; refine blk_put (cs := #[.int .u64 0, .int .u64 0, .int .u64 0, .int .u64 0, .int .u64 0, .int .u64 0, .int .u64 0, .int .u64 0, .int .i64 0, .bool false]) ?_ 0 _ rfl; (with_reducible repeat (first | refine blk_drewN ?_ _ | refine blk_drew ?_ | refine blk_alloc ?_ _)); exact q0.out⟩; have n1_ : Aside0 (Below w.heap.size w ((((((((((w9.setCell ⟨q1, 0, none⟩ (.int .u64 q7)).setCell ⟨q1, 1, none⟩ (.int .u64 q8)).setCell ⟨q1, 2, none⟩ (.int .u64 q9)).setCell ⟨q1, 3, none⟩ (.int .u64 qa)).setCell ⟨q1, 4, none⟩ (.int .u64 q3)).setCell ⟨q1, 5, none⟩ (.int .u64 q4)).setCell ⟨q1, 6, none⟩ (.int .u64 q5)).setCell ⟨q1, 7, none⟩ (.int .u64 q6)).setCell ⟨q1, 8, none⟩ (.int .i64 qc)).setCell ⟨q1, 9, none⟩ (.bool qb))) := ⟨kHs HB qf⟩
   (try clear q0)
   (try clear HB)
   generalize ((((((((((w9.setCell ⟨q1, 0, none⟩ (.int .u64 q7)).setCell ⟨q1, 1, none⟩ (.int .u64 q8)).setCell ⟨q1, 2, none⟩ (.int .u64 q9)).setCell ⟨q1, 3, none⟩ (.int .u64 qa)).setCell ⟨q1, 4, none⟩ (.int .u64 q3)).setCell ⟨q1, 5, none⟩ (.int .u64 q4)).setCell ⟨q1, 6, none⟩ (.int .u64 q5)).setCell ⟨q1, 7, none⟩ (.int .u64 q6)).setCell ⟨q1, 8, none⟩ (.int .i64 qc)).setCell ⟨q1, 9, none⟩ (.bool qb)) = w11 at n0_ n1_ ⊢
   have q0 := n0_; have HB := n1_; clear n0_ n1_; replace q0 := Aside0.mk (blk_drew q0.out); replace HB := Aside0.mk (below_drew1 HB.out); refine start_ (n := 7) (S := fun w' => w'.cell? ⟨q1, 0, none⟩ = some (.int .u64 q7) ∧ w'.cell? ⟨q1, 1, none⟩ = some (.int .u64 q8) ∧ w'.cell? ⟨q1, 2, none⟩ = some (.int .u64 q9) ∧ w'.cell? ⟨q1, 3, none⟩ = some (.int .u64 qa) ∧ w'.cell? ⟨q1, 4, none⟩ = some (.int .u64 q3) ∧ w'.cell? ⟨q1, 5, none⟩ = some (.int .u64 q4) ∧ w'.cell? ⟨q1, 6, none⟩ = some (.int .u64 q5) ∧ w'.cell? ⟨q1, 7, none⟩ = some (.int .u64 q6) ∧ w'.cell? ⟨q1, 8, none⟩ = some (.int .i64 qc) ∧ w'.cell? ⟨q1, 9, none⟩ = some (.bool qb)) (ds := []) #[false, false, false, false, false, false, false] (by kernel_rfl) rfl rfl ⟨bc q0 0, bc q0 1, bc q0 2, bc q0 3, bc q0 4, bc q0 5, bc q0 6, bc q0 7, bc q0 8, bc q0 9⟩ (fun hHeld => ?_)
   generalize w11.drew = w12 at q0 HB hHeld ⊢
   refine pure_ (i := 0) (N := some 27) (v := ?_) (a' := ?_) #[true, false, false, false, false, false, false] rfl rfl (by kernel_rfl) (fun _ _ _ h => h) (Or.inl ⟨by rfl, ?_⟩) ?_ ?_; rotate_left
   · intro w'
     go_simp
     with_reducible rfl
   rotate_left
   · exact APq
   refine pure_ (i := 3) (N := some 30) (v := ?_) (a' := ?_) #[true, false, false, true, false, false, false] rfl rfl (by kernel_rfl) (fun _ _ _ h => h) (Or.inl ⟨by rfl, ?_⟩) ?_ ?_; rotate_left
   · intro w'
     go_simp
     with_reducible rfl
   rotate_left
   · exact APq
   refine take_ (i := 1) (N := some 28) (v := ?_) (a' := ?_) #[true, true, false, true, false, false, false] rfl rfl (by kernel_rfl) (fun _ _ _ h => h) (Or.inl ⟨by rfl, ?_⟩) hHeld ?_ ?_; rotate_left
   · rintro w' ⟨s0, s1, s2, s3, s4, s5, s6, s7, s8, s9⟩
     go_simp
     with_reducible rfl
   rotate_left
   · exact APq
   refine take_ (i := 4) (N := some 31) (v := ?_) (a' := ?_) #[true, true, false, true, true, false, false] rfl rfl (by kernel_rfl) (fun _ _ _ h => h) (Or.inl ⟨by rfl, ?_⟩) hHeld ?_ ?_; rotate_left
   · rintro w' ⟨s0, s1, s2, s3, s4, s5, s6, s7, s8, s9⟩
     go_simp
     with_reducible rfl
   rotate_left
   · exact APq
   refine one_ (i := 2) (N := some 29) #[true, true, true, true, true, false, false] rfl rfl (by kernel_rfl) (by decide) (fun K hK => ?_); refine goes_ Try.func47 (by kernel_rfl) rfl #[.agg #[.int .u64 q7, .int .u64 q8, .int .u64 q9, .int .u64 qa], .int .i64 1] (by rfl) rfl rfl LMq ?_
   with_reducible refine (wide_Shl.calls q7 q8 q9 qa 1 qq qr qs qt _ A5.out).mono ?_
   rintro e w13 ⟨rfl, hb⟩; refine ⟨_, rfl, ?_⟩; replace q0 := Aside0.mk (blk_below q0.out hb); replace HB := Aside0.mk (below_step HB.out hb)
   (try clear hb)
   (try clear hb2)
   (try clear hk)
   (try clear hi)
   refine hK.out _ _ ⟨bc q0 0, bc q0 1, bc q0 2, bc q0 3, bc q0 4, bc q0 5, bc q0 6, bc q0 7, bc q0 8, bc q0 9⟩ (fun hHeld => ?_); clear hK K; refine norm_ (a' := ?_) ?_ ?_; rotate_left
   · show Act.put _ (some 29) _ = _
     exact APq
   refine one_ (i := 5) (N := some 32) #[true, true, true, true, true, true, false] rfl rfl (by kernel_rfl) (by decide) (fun K hK => ?_); refine goes_ Try.func46 (by kernel_rfl) rfl #[.agg #[.int .u64 qq, .int .u64 qr, .int .u64 qs, .int .u64 qt], .agg #[.int .u64 q3, .int .u64 q4, .int .u64 q5, .int .u64 q6]] (by rfl) rfl rfl LMq ?_
   with_reducible refine (wide_Cmp.calls qq qr qs qt q3 q4 q5 q6 qd _ A6.out).mono ?_
   rintro e w14 ⟨rfl, hb⟩; refine ⟨_, rfl, ?_⟩; replace q0 := Aside0.mk (blk_below q0.out hb); replace HB := Aside0.mk (below_step HB.out hb)
   (try clear hb)
   (try clear hb2)
   (try clear hk)
   (try clear hi)
   refine hK.out _ _ ⟨bc q0 0, bc q0 1, bc q0 2, bc q0 3, bc q0 4, bc q0 5, bc q0 6, bc q0 7, bc q0 8, bc q0 9⟩ (fun hHeld => ?_); clear hK K; refine norm_ (a' := ?_) ?_ ?_; rotate_left
   · show Act.put _ (some 32) _ = _
     exact APq
   refine pure_ (i := 6) (N := some 11) (v := ?_) (a' := ?_) #[true, true, true, true, true, true, true] rfl rfl (by kernel_rfl) (fun _ _ _ h => h) (Or.inl ⟨by rfl, ?_⟩) ?_ ?_; rotate_left
   · intro w'
     go_simp
     with_reducible rfl
   rotate_left
   · exact APq
   refine done_ (by kernel_rfl) ?_
   go_upto_region 6 with (fail)
   go_cut [42] (fun v42 wc => ∃ (kq : Nat) (qu : Bool), v42 = .bool qu ∧ Aside0 (whole_Rem.j0 kq ((Go.bits .and .u64 a0 9223372036854775808) != 0) qu q7 q8 q9 qa q3 q4 q5 q6 qc qb = some (r1, r2)) ∧ Aside0 (kq ≤ k) ∧ Aside0 (wc.heap[q1]? = some (.cells #[.int .u64 q7, .int .u64 q8, .int .u64 q9, .int .u64 qa, .int .u64 q3, .int .u64 q4, .int .u64 q5, .int .u64 q6, .int .i64 qc, .bool qb] 77 (0, 0))) ∧ Aside0 (Below w.heap.size w wc))
   case first =>
    have H := HC7.out; clear HC7
    by_cases c15 : qd > 0
    · rw [if_pos c15] at H
      have qk : decide (0 < qd) = true := decide_eq_true c15; clear c15
      (first | rw [qk] | (simp only [i64_w, i32_w]; rw [qk]) | skip)
      have H' := Aside0.mk H; clear H
      go_wp2
      go_meet
      case rel => exact ⟨_, (true), RSq, (by first | exact H' | (subst_vars; exact H')), ⟨by first | omega | exact Nat.le_refl _⟩, ⟨kB q0⟩, ⟨kHs HB qf⟩⟩
    rw [if_neg c15] at H
    have qk : decide (0 < qd) = false := decide_eq_false c15; clear c15
    (first | rw [qk] | (simp only [i64_w, i32_w]; rw [qk]) | skip)
    by_cases c16 : qd = 0
    · rw [if_pos c16] at H
      have q06 : (qd == 0) = true := beq_iff_eq.mpr c16; have q07 : (qd != 0) = false := bne_eq_false_iff_eq.mpr c16; clear c16; have H' := Aside0.mk H; clear H; have q10 : w14.cell? ⟨q1, 0, none⟩ = some (.int .u64 q7) := bc q0 0; have q11 : w14.cell? ⟨q1, 1, none⟩ = some (.int .u64 q8) := bc q0 1; have q12 : w14.cell? ⟨q1, 2, none⟩ = some (.int .u64 q9) := bc q0 2; have q13 : w14.cell? ⟨q1, 3, none⟩ = some (.int .u64 qa) := bc q0 3; have q14 : w14.cell? ⟨q1, 4, none⟩ = some (.int .u64 q3) := bc q0 4; have q15 : w14.cell? ⟨q1, 5, none⟩ = some (.int .u64 q4) := bc q0 5; have q16 : w14.cell? ⟨q1, 6, none⟩ = some (.int .u64 q5) := bc q0 6; have q17 : w14.cell? ⟨q1, 7, none⟩ = some (.int .u64 q6) := bc q0 7; have q18 : w14.cell? ⟨q1, 8, none⟩ = some (.int .i64 qc) := bc q0 8; have q19 : w14.cell? ⟨q1, 9, none⟩ = some (.bool qb) := bc q0 9; have q1a := blk_frozen q0.out 0; have q1b := blk_frozen q0.out 1; have q1c := blk_frozen q0.out 2; have q1d := blk_frozen q0.out 3; have q1e := blk_frozen q0.out 4; have q1f := blk_frozen q0.out 5; have q1g := blk_frozen q0.out 6; have q1h := blk_frozen q0.out 7; have q1i := blk_frozen q0.out 8; have q1j := blk_frozen q0.out 9
      go_wp2
      go_meet
      case rel => exact ⟨_, (qb), RSq, (by first | exact H' | (subst_vars; exact H')), ⟨by first | omega | exact Nat.le_refl _⟩, ⟨kB q0⟩, ⟨kHs HB qf⟩⟩
    rw [if_neg c16] at H
    have q06 : (qd == 0) = false := beq_eq_false_iff_ne.mpr c16; have q07 : (qd != 0) = true := bne_iff_ne.mpr c16; have H' := Aside0.mk H; clear H
    go_wp2
    go_meet
    case rel => exact ⟨_, (false), RSq, (by first | exact H' | (subst_vars; exact H')), ⟨by first | omega | exact Nat.le_refl _⟩, ⟨kB q0⟩, ⟨kHs HB qf⟩⟩
   case rest =>
    clear HC7; (try clear c1); (try clear p2); (try clear c4); (try clear p6); (try clear c15); (try clear qk); (try clear c16); (try clear q06); (try clear q07); (try clear c17); (try clear q0g q0h q0i q0j q0k q0l q0m q0n q0o q0p); (try clear q10 q11 q12 q13 q14 q15 q16 q17 q18 q19); (try clear q0q q0r q0s q0t q0u q0v q0w q0x q0y q0z); (try clear q1a q1b q1c q1d q1e q1f q1g q1h q1i q1j); obtain ⟨kq, qu, rfl, HA, HJ6, q0, HB⟩ := hcut
    cases kq with
    | zero => exact absurd HA.out (by simp [whole_Rem.j0])
    | succ kj6 =>
     have H := HA.out; clear HA
     simp only [whole_Rem.j0] at H
     by_cases c18 : qu = true
     · subst c18
       have H1 : ((wide_Sub.f q3 q4 q5 q6 q7 q8 q9 qa).bind fun qg => ((whole_rest_made.f qg.1 qg.2.1 qg.2.2.1 qg.2.2.2.1 q3 q4 q5 q6 qc qb (!((Go.bits .and .u64 a0 9223372036854775808) != 0))).bind fun qh => (some (qh.1, qh.2)))) = some (r1, r2) := by rw [if_pos rfl] at H; exact H
       clear H; have H := H1; clear H1; replace H := Option.bind_eq_some_iff.mp H; obtain ⟨⟨qi, qj, ql, qn, q1k⟩, q08, H⟩ := H; replace H : ((whole_rest_made.f qi qj ql qn q3 q4 q5 q6 qc qb (!((Go.bits .and .u64 a0 9223372036854775808) != 0))).bind fun qh => (some (qh.1, qh.2))) = some (r1, r2) := H; have A19 := Aside0.mk q08; clear q08; replace H := Option.bind_eq_some_iff.mp H; obtain ⟨⟨q09, q0a⟩, q0b, H⟩ := H; replace H : (some (q09, q0a)) = some (r1, r2) := H; have A20 := Aside0.mk q0b; clear q0b
       simp only [Option.some.injEq, Prod.mk.injEq] at H
       obtain ⟨rfl, rfl⟩ := H; have hcz21_0 : wc.cell? ⟨q1, 0, none⟩ = some (.int .u64 q7) := bc q0 0; have hcz21_1 : wc.cell? ⟨q1, 1, none⟩ = some (.int .u64 q8) := bc q0 1; have hcz21_2 : wc.cell? ⟨q1, 2, none⟩ = some (.int .u64 q9) := bc q0 2; have hcz21_3 : wc.cell? ⟨q1, 3, none⟩ = some (.int .u64 qa) := bc q0 3; have hcz21_4 : wc.cell? ⟨q1, 4, none⟩ = some (.int .u64 q3) := bc q0 4; have hcz21_5 : wc.cell? ⟨q1, 5, none⟩ = some (.int .u64 q4) := bc q0 5; have hcz21_6 : wc.cell? ⟨q1, 6, none⟩ = some (.int .u64 q5) := bc q0 6; have hcz21_7 : wc.cell? ⟨q1, 7, none⟩ = some (.int .u64 q6) := bc q0 7; have hcz21_8 : wc.cell? ⟨q1, 8, none⟩ = some (.int .i64 qc) := bc q0 8; have hcz21_9 : wc.cell? ⟨q1, 9, none⟩ = some (.bool qb) := bc q0 9; have hfz21_0 := blk_frozen q0.out 0; have hfz21_1 := blk_frozen q0.out 1; have hfz21_2 := blk_frozen q0.out 2; have hfz21_3 := blk_frozen q0.out 3; have hfz21_4 := blk_frozen q0.out 4; have hfz21_5 := blk_frozen q0.out 5; have hfz21_6 := blk_frozen q0.out 6; have hfz21_7 := blk_frozen q0.out 7; have hfz21_8 := blk_frozen q0.out 8; have hfz21_9 := blk_frozen q0.out 9
       go_wp2_with (first | ((with_reducible refine gate_callee (f := 48) rfl ?_); refine goesL_ (some 48) rfl rfl Try.func48 (by kernel_rfl) rfl #[.agg #[.int .u64 q3, .int .u64 q4, .int .u64 q5, .int .u64 q6], .agg #[.int .u64 q7, .int .u64 q8, .int .u64 q9, .int .u64 qa]] rfl LMq ?_; (with_reducible refine (wide_Sub.calls q3 q4 q5 q6 q7 q8 q9 qa qi qj ql qn q1k _ A19.out).mono ?_); rintro e w22 ⟨rfl, hb⟩; refine ⟨_, rfl, ?_⟩; replace q0 := Aside0.mk (blk_below (g := q1) (o := .cells #[.int .u64 q7, .int .u64 q8, .int .u64 q9, .int .u64 qa, .int .u64 q3, .int .u64 q4, .int .u64 q5, .int .u64 q6, .int .i64 qc, .bool qb] 77 (0, 0)) (kB q0) hb); replace HB := Aside0.mk (below_step (kHs HB qf) hb); (try clear hb); (try clear hb2); (try clear hk); (try clear hi); have hcz23_0 : w22.cell? ⟨q1, 0, none⟩ = some (.int .u64 q7) := bc q0 0; have hcz23_1 : w22.cell? ⟨q1, 1, none⟩ = some (.int .u64 q8) := bc q0 1; have hcz23_2 : w22.cell? ⟨q1, 2, none⟩ = some (.int .u64 q9) := bc q0 2; have hcz23_3 : w22.cell? ⟨q1, 3, none⟩ = some (.int .u64 qa) := bc q0 3; have hcz23_4 : w22.cell? ⟨q1, 4, none⟩ = some (.int .u64 q3) := bc q0 4; have hcz23_5 : w22.cell? ⟨q1, 5, none⟩ = some (.int .u64 q4) := bc q0 5; have hcz23_6 : w22.cell? ⟨q1, 6, none⟩ = some (.int .u64 q5) := bc q0 6; have hcz23_7 : w22.cell? ⟨q1, 7, none⟩ = some (.int .u64 q6) := bc q0 7; have hcz23_8 : w22.cell? ⟨q1, 8, none⟩ = some (.int .i64 qc) := bc q0 8; have hcz23_9 : w22.cell? ⟨q1, 9, none⟩ = some (.bool qb) := bc q0 9; have hfz23_0 := blk_frozen q0.out 0; have hfz23_1 := blk_frozen q0.out 1; have hfz23_2 := blk_frozen q0.out 2; have hfz23_3 := blk_frozen q0.out 3; have hfz23_4 := blk_frozen q0.out 4; have hfz23_5 := blk_frozen q0.out 5; have hfz23_6 := blk_frozen q0.out 6; have hfz23_7 := blk_frozen q0.out 7; have hfz23_8 := blk_frozen q0.out 8; have hfz23_9 := blk_frozen q0.out 9) | ((with_reducible refine gate_callee (f := 49) rfl ?_); refine goesL_ (some 56) rfl rfl Try.func49 (by kernel_rfl) rfl #[.agg #[.int .u64 qi, .int .u64 qj, .int .u64 ql, .int .u64 qn, .int .u64 q3, .int .u64 q4, .int .u64 q5, .int .u64 q6, .int .i64 qc, .bool qb], .bool (!((Go.bits .and .u64 a0 9223372036854775808) != 0))] rfl LMq ?_; (with_reducible refine (whole_rest_made.calls qi qj ql qn q3 q4 q5 q6 qc qb (!((Go.bits .and .u64 a0 9223372036854775808) != 0)) q09 q0a _ A20.out).mono ?_); rintro e w24 ⟨rfl, hb⟩; refine ⟨_, rfl, ?_⟩; replace q0 := Aside0.mk (blk_below (g := q1) (o := .cells #[.int .u64 qi, .int .u64 qj, .int .u64 ql, .int .u64 qn, .int .u64 q3, .int .u64 q4, .int .u64 q5, .int .u64 q6, .int .i64 qc, .bool qb] 77 (0, 0)) (by (with_reducible repeat (first | refine blk_drewN ?_ _ | refine blk_drew ?_ | refine blk_alloc ?_ _)); refine blk_put (cs := #[.int .u64 qi, .int .u64 qj, .int .u64 ql, .int .u64 qa, .int .u64 q3, .int .u64 q4, .int .u64 q5, .int .u64 q6, .int .i64 qc, .bool qb]) ?_ 3 _ rfl; refine blk_put (cs := #[.int .u64 qi, .int .u64 qj, .int .u64 q9, .int .u64 qa, .int .u64 q3, .int .u64 q4, .int .u64 q5, .int .u64 q6, .int .i64 qc, .bool qb]) ?_ 2 _ rfl; refine blk_put (cs := #[.int .u64 qi, .int .u64 q8, .int .u64 q9, .int .u64 qa, .int .u64 q3, .int .u64 q4, .int .u64 q5, .int .u64 q6, .int .i64 qc, .bool qb]) ?_ 1 _ rfl; refine blk_put (cs := #[.int .u64 q7, .int .u64 q8, .int .u64 q9, .int .u64 qa, .int .u64 q3, .int .u64 q4, .int .u64 q5, .int .u64 q6, .int .i64 qc, .bool qb]) ?_ 0 _ rfl; (with_reducible repeat (first | refine blk_drewN ?_ _ | refine blk_drew ?_ | refine blk_alloc ?_ _)); exact q0.out) hb); replace HB := Aside0.mk (below_step (kHs HB qf) hb); (try clear hb); (try clear hb2); (try clear hk); (try clear hi)))
       go_ret2
       exact ⟨by first | rfl | (simp [errW_none, errW_some] <;> rfl) | (simp [*, errW_none, errW_some] <;> rfl), kHs HB qf⟩
     replace c18 := Bool.eq_false_iff.mpr c18; subst c18
     have H1 : ((whole_rest_made.f q7 q8 q9 qa q3 q4 q5 q6 qc qb ((Go.bits .and .u64 a0 9223372036854775808) != 0)).bind fun qm => (some (qm.1, qm.2))) = some (r1, r2) := by rw [if_neg (show ¬ (false = true) by decide)] at H; exact H
     clear H; have H := H1; clear H1; replace H := Option.bind_eq_some_iff.mp H; obtain ⟨⟨q0c, q0d⟩, q0e, H⟩ := H; replace H : (some (q0c, q0d)) = some (r1, r2) := H; have A25 := Aside0.mk q0e; clear q0e
     simp only [Option.some.injEq, Prod.mk.injEq] at H
     obtain ⟨rfl, rfl⟩ := H; have hcz26_0 : wc.cell? ⟨q1, 0, none⟩ = some (.int .u64 q7) := bc q0 0; have hcz26_1 : wc.cell? ⟨q1, 1, none⟩ = some (.int .u64 q8) := bc q0 1; have hcz26_2 : wc.cell? ⟨q1, 2, none⟩ = some (.int .u64 q9) := bc q0 2; have hcz26_3 : wc.cell? ⟨q1, 3, none⟩ = some (.int .u64 qa) := bc q0 3; have hcz26_4 : wc.cell? ⟨q1, 4, none⟩ = some (.int .u64 q3) := bc q0 4; have hcz26_5 : wc.cell? ⟨q1, 5, none⟩ = some (.int .u64 q4) := bc q0 5; have hcz26_6 : wc.cell? ⟨q1, 6, none⟩ = some (.int .u64 q5) := bc q0 6; have hcz26_7 : wc.cell? ⟨q1, 7, none⟩ = some (.int .u64 q6) := bc q0 7; have hcz26_8 : wc.cell? ⟨q1, 8, none⟩ = some (.int .i64 qc) := bc q0 8; have hcz26_9 : wc.cell? ⟨q1, 9, none⟩ = some (.bool qb) := bc q0 9; have hfz26_0 := blk_frozen q0.out 0; have hfz26_1 := blk_frozen q0.out 1; have hfz26_2 := blk_frozen q0.out 2; have hfz26_3 := blk_frozen q0.out 3; have hfz26_4 := blk_frozen q0.out 4; have hfz26_5 := blk_frozen q0.out 5; have hfz26_6 := blk_frozen q0.out 6; have hfz26_7 := blk_frozen q0.out 7; have hfz26_8 := blk_frozen q0.out 8; have hfz26_9 := blk_frozen q0.out 9
     go_wp2_with (first | ((with_reducible refine gate_callee (f := 49) rfl ?_); refine goesL_ (some 56) rfl rfl Try.func49 (by kernel_rfl) rfl #[.agg #[.int .u64 q7, .int .u64 q8, .int .u64 q9, .int .u64 qa, .int .u64 q3, .int .u64 q4, .int .u64 q5, .int .u64 q6, .int .i64 qc, .bool qb], .bool ((Go.bits .and .u64 a0 9223372036854775808) != 0)] rfl LMq ?_; (with_reducible refine (whole_rest_made.calls q7 q8 q9 qa q3 q4 q5 q6 qc qb ((Go.bits .and .u64 a0 9223372036854775808) != 0) q0c q0d _ A25.out).mono ?_); rintro e w27 ⟨rfl, hb⟩; refine ⟨_, rfl, ?_⟩; replace q0 := Aside0.mk (blk_below (g := q1) (o := .cells #[.int .u64 q7, .int .u64 q8, .int .u64 q9, .int .u64 qa, .int .u64 q3, .int .u64 q4, .int .u64 q5, .int .u64 q6, .int .i64 qc, .bool qb] 77 (0, 0)) (kB q0) hb); replace HB := Aside0.mk (below_step (kHs HB qf) hb); (try clear hb); (try clear hb2); (try clear hk); (try clear hi)))
     go_ret2
     exact ⟨by first | rfl | (simp [errW_none, errW_some] <;> rfl) | (simp [*, errW_none, errW_some] <;> rfl), kHs HB qf⟩
 replace c4 := Bool.eq_false_iff.mpr c4; subst c4
 have H1 : (some (qo, qp)) = some (r1, r2) := by rw [if_neg (show ¬ (false = true) by decide)] at H; exact H
 clear H; have H := H1; clear H1
 simp only [Option.some.injEq, Prod.mk.injEq] at H
 obtain ⟨rfl, rfl⟩ := H
 go_enter Try.func17, Try.ntmps17
 go_wp2_with (first | ((with_reducible refine gate_callee (f := 45) rfl ?_); refine goesL_ (some 15) rfl rfl Try.func45 (by kernel_rfl) rfl #[.int .u64 a0, .int .u64 a1] rfl LMq ?_; (with_reducible refine (whole_rests.calls k a0 a1 q7 q8 q9 qa q3 q4 q5 q6 qc qb false qo qp _ A3.out).mono ?_); rintro e w28 ⟨rfl, hb⟩; refine ⟨_, rfl, ?_⟩; replace HB := Aside0.mk (below_step (kH HB) hb); (try clear hb); (try clear hb2); (try clear hk); (try clear hi)) | ((with_reducible refine gate_dst (N := 6) rfl ?_); refine box_event ?hg (N := 6) ?hd (cs := #[.int .u64 0, .int .u64 0, .int .u64 0, .int .u64 0, .int .u64 0, .int .u64 0, .int .u64 0, .int .u64 0, .int .i64 0, .bool false]) (t := 77) ?hr ?_; (case hd => rfl); (case hg => rfl); (case hr => first | (go_simp; done) | (go_simp; rfl)); intro q1 hg w29 hbox hb; have q0 := Aside0.mk (hbox); have q0f := Aside0.mk ((by rw [hg]; exact (below_size (kH HB)) : w.heap.size ≤ q1)); have qf := Aside0.mk ((by rw [hg]; exact (below_size (kH HB)) : w.heap.size ≤ q1)); replace HB := Aside0.mk (below_step (kH HB) hb); clear hb hbox hg; have hcz30_0 : w29.cell? ⟨q1, 0, none⟩ = some (.int .u64 0) := bc q0 0; have hcz30_1 : w29.cell? ⟨q1, 1, none⟩ = some (.int .u64 0) := bc q0 1; have hcz30_2 : w29.cell? ⟨q1, 2, none⟩ = some (.int .u64 0) := bc q0 2; have hcz30_3 : w29.cell? ⟨q1, 3, none⟩ = some (.int .u64 0) := bc q0 3; have hcz30_4 : w29.cell? ⟨q1, 4, none⟩ = some (.int .u64 0) := bc q0 4; have hcz30_5 : w29.cell? ⟨q1, 5, none⟩ = some (.int .u64 0) := bc q0 5; have hcz30_6 : w29.cell? ⟨q1, 6, none⟩ = some (.int .u64 0) := bc q0 6; have hcz30_7 : w29.cell? ⟨q1, 7, none⟩ = some (.int .u64 0) := bc q0 7; have hcz30_8 : w29.cell? ⟨q1, 8, none⟩ = some (.int .i64 0) := bc q0 8; have hcz30_9 : w29.cell? ⟨q1, 9, none⟩ = some (.bool false) := bc q0 9; have hfz30_0 := blk_frozen q0.out 0; have hfz30_1 := blk_frozen q0.out 1; have hfz30_2 := blk_frozen q0.out 2; have hfz30_3 := blk_frozen q0.out 3; have hfz30_4 := blk_frozen q0.out 4; have hfz30_5 := blk_frozen q0.out 5; have hfz30_6 := blk_frozen q0.out 6; have hfz30_7 := blk_frozen q0.out 7; have hfz30_8 := blk_frozen q0.out 8; have hfz30_9 := blk_frozen q0.out 9))
 go_ret2
 exact ⟨by first | rfl | (simp [errW_none, errW_some] <;> rfl) | (simp [*, errW_none, errW_some] <;> rfl), kHs HB qf⟩
end Go.Proofs.Ytfnkmedajchbgaa.X
