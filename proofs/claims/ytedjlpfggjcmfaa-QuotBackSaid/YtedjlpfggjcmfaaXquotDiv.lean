-- printed by a turned print of this work's own (wip/mp.sh): Lean checks it
import Derived.Test.YtedjlpfggjcmfaaX0
import Derived.Test.YtedjlpfggjcmfaaXE0
import Derived.Test.YtedjlpfggjcmfaaXH
namespace Go.Proofs.Ytedjlpfggjcmfaa.X
open Go.RowKit Go.Proofs.YtedjlpfggjcmfaaW.PrintWords Go.Proofs.YtedjlpfggjcmfaaW.PrintLast Go.Proofs.YtedjlpfggjcmfaaW.PrintMore
attribute [local go_sem] max2_int min2_int max_two min_two max_three min_three max_four min_four   -- for this text's walks alone
set_option linter.unusedVariables false
set_option linter.unusedSimpArgs false

attribute [local go_sem high] eqA41
/-! ### quot_Div: function 8 -/
mutual
def quot_Div.j0 : Nat → Int → Int → Int → Int → Bool → Bool → Int → Int → Int → Bool → Int → Int → Int → Option (Int × Int)
 | 0, _, _, _, _, _, _, _, _, _, _, _, _, _ => none
 | k + 1, x0, x1, x2, x8, x22, x110000, x110001, x110002, x110003, x111000, x111001, x111002, x111003 => if x22 = true then ((quot_none.f x0 x1).bind fun bt113 => (some (bt113.1, bt113.2))) else (if x110001 = x111001 then (if x110001 = 0 then (quot_Div.j1 k x2 x8 true x110000 x110001 x110002 x110003 x111000 x111001 x111002 x111003) else (quot_Div.j1 k x2 x8 (x110001 == 3) x110000 x110001 x110002 x110003 x111000 x111001 x111002 x111003)) else (quot_Div.j1 k x2 x8 false x110000 x110001 x110002 x110003 x111000 x111001 x111002 x111003))
def quot_Div.j1 : Nat → Int → Int → Bool → Bool → Int → Int → Int → Bool → Int → Int → Int → Option (Int × Int)
 | 0, _, _, _, _, _, _, _, _, _, _, _ => none
 | k + 1, x2, x8, x34, x110000, x110001, x110002, x110003, x111000, x111001, x111002, x111003 => if x34 = true then (some (9221120237041090560, 1)) else (if x110001 = 3 then (some (Go.bits .or .u64 9218868437227405312 x8, 0)) else (if x111001 = 3 then (some (x8, 0)) else (if x111001 = 0 then (some (Go.bits .or .u64 9218868437227405312 x8, 2)) else ((wide_Of.f x110003).bind fun bt115 => ((wide_Shl.f bt115.1 bt115.2.1 bt115.2.2.1 bt115.2.2.2 128).bind fun bt119 => ((wide_Of.f x111003).bind fun bt123 => ((wide_DivMod.f bt119.1 bt119.2.1 bt119.2.2.1 bt119.2.2.2 bt123.1 bt123.2.1 bt123.2.2.1 bt123.2.2.2).bind fun bt127 => ((rnd_Round.f (x8 != 0) (wrap64 ((wrap64 (x110002 - x111002)) - 128)) bt127.1 bt127.2.1 bt127.2.2.1 bt127.2.2.2.1 (!(bt127.2.2.2.2.1 == 0) || (!(bt127.2.2.2.2.2.1 == 0) || (!(bt127.2.2.2.2.2.2.1 == 0) || (!(bt127.2.2.2.2.2.2.2 == 0))))) x2).bind fun bt137 => (some (bt137.1, bt137.2))))))))))
end
def quot_Div.f (k : Nat) (a0 : Int) (a1 : Int) (a2 : Int) : Option (Int × Int) := (pat_Take.f a0).bind fun bt101 => ((pat_Take.f a1).bind fun bt105 => ((pat_IsNaN.f a0).bind fun t111 => (if t111 = true then (quot_Div.j0 k a0 a1 a2 (Go.bits .and .u64 (Go.bits .xor .u64 a0 a1) 9223372036854775808) true bt101.1 bt101.2.1 bt101.2.2.1 bt101.2.2.2 bt105.1 bt105.2.1 bt105.2.2.1 bt105.2.2.2) else ((pat_IsNaN.f a1).bind fun t112 => (quot_Div.j0 k a0 a1 a2 (Go.bits .and .u64 (Go.bits .xor .u64 a0 a1) 9223372036854775808) t112 bt101.1 bt101.2.1 bt101.2.2.1 bt101.2.2.2 bt105.1 bt105.2.1 bt105.2.2.1 bt105.2.2.2)))))
theorem quot_Div.mono_l : ∀ k, (∀ y0 y1 y2 y3 y4 y5 y6 y7 y8 y9 y10 y11 y12, LeO (quot_Div.j0 k y0 y1 y2 y3 y4 y5 y6 y7 y8 y9 y10 y11 y12) (quot_Div.j0 (k + 1) y0 y1 y2 y3 y4 y5 y6 y7 y8 y9 y10 y11 y12)) ∧ (∀ y0 y1 y2 y3 y4 y5 y6 y7 y8 y9 y10, LeO (quot_Div.j1 k y0 y1 y2 y3 y4 y5 y6 y7 y8 y9 y10) (quot_Div.j1 (k + 1) y0 y1 y2 y3 y4 y5 y6 y7 y8 y9 y10))
 | 0 => ⟨fun _ _ _ _ _ _ _ _ _ _ _ _ _ r h => by simp [quot_Div.j0] at h, fun _ _ _ _ _ _ _ _ _ _ _ r h => by simp [quot_Div.j1] at h⟩
 | k + 1 => by
  obtain ⟨ih0, ih1⟩ := quot_Div.mono_l k
  refine ⟨?_, ?_⟩
  · intro y0 y1 y2 y3 y4 y5 y6 y7 y8 y9 y10 y11 y12
    unfold quot_Div.j0
    repeat' first
    | (with_reducible exact ih0 _ _ _ _ _ _ _ _ _ _ _ _ _)
    | (with_reducible exact ih1 _ _ _ _ _ _ _ _ _ _ _)
    | (with_reducible exact LeO.refl _)
    | (with_reducible exact LeO.none _)
    | (with_reducible refine LeO.ite ?_ ?_)
    | (with_reducible refine LeO.bind ?_ (fun _ => ?_))
    | exact ih0 _ _ _ _ _ _ _ _ _ _ _ _ _
    | exact ih1 _ _ _ _ _ _ _ _ _ _ _
    | exact LeO.none _
    | refine LeO.ite ?_ ?_
    | refine LeO.bind ?_ (fun _ => ?_)
  · intro y0 y1 y2 y3 y4 y5 y6 y7 y8 y9 y10
    unfold quot_Div.j1
    repeat' first
    | (with_reducible exact ih0 _ _ _ _ _ _ _ _ _ _ _ _ _)
    | (with_reducible exact ih1 _ _ _ _ _ _ _ _ _ _ _)
    | (with_reducible exact LeO.refl _)
    | (with_reducible exact LeO.none _)
    | (with_reducible refine LeO.ite ?_ ?_)
    | (with_reducible refine LeO.bind ?_ (fun _ => ?_))
    | exact ih0 _ _ _ _ _ _ _ _ _ _ _ _ _
    | exact ih1 _ _ _ _ _ _ _ _ _ _ _
    | exact LeO.none _
    | refine LeO.ite ?_ ?_
    | refine LeO.bind ?_ (fun _ => ?_)
theorem quot_Div.mono : ∀ a0 a1 a2 k, LeO (quot_Div.f k a0 a1 a2) (quot_Div.f (k + 1) a0 a1 a2) := by
 intro a0 a1 a2 k
 obtain ⟨ih0, ih1⟩ := quot_Div.mono_l k
 unfold quot_Div.f
 repeat' first
  | (with_reducible exact ih0 _ _ _ _ _ _ _ _ _ _ _ _ _)
  | (with_reducible exact ih1 _ _ _ _ _ _ _ _ _ _ _)
  | (with_reducible exact LeO.refl _)
  | (with_reducible exact LeO.none _)
  | (with_reducible refine LeO.ite ?_ ?_)
  | (with_reducible refine LeO.bind ?_ (fun _ => ?_))
  | exact ih0 _ _ _ _ _ _ _ _ _ _ _ _ _
  | exact ih1 _ _ _ _ _ _ _ _ _ _ _
  | exact LeO.none _
  | refine LeO.ite ?_ ?_
  | refine LeO.bind ?_ (fun _ => ?_)
def quot_Div.T13 : Bool × List (List Nat × List Nat) := (true, [([], []), ([0], [0]), ([1], [1]), ([2, 2], [2]), ([], []), ([4], [4]), ([5, 3], [5]), ([3, 6, 6], [3, 6]), ([7], [7]), ([8], [8]), ([8], [8]), ([8], [8]), ([], []), ([], []), ([12, 9, 7, 0, 1, 2, 3, 4, 5, 6, 7, 8, 9, 12, 13], [9, 12]), ([13, 10, 14, 0, 1, 2, 3, 4, 5, 6, 7, 8, 9, 10, 12, 13, 14], [10, 13]), ([11, 15, 0, 1, 2, 3, 4, 5, 6, 7, 8, 9, 10, 11, 12, 13, 14, 15], [11])])
def quot_Div.B13 : List Nat := [0, 1, 3, 7, 0, 16, 63, 127, 255, 511, 511, 511, 0, 0, 13311, 30719, 65535]
theorem quot_Div.tab13 : rtab .any (opsOf Try.f8 13) = quot_Div.T13 := by kernel_rfl
theorem quot_Div.bits13 : waitsOk quot_Div.T13.2 quot_Div.B13 = true := by kernel_rfl
def quot_Div.T16 : Bool × List (List Nat × List Nat) := (true, [([], []), ([0], [0]), ([], []), ([2], [2]), ([], []), ([4], [4]), ([3, 5], [3, 5]), ([6], [6]), ([], []), ([], []), ([], []), ([9, 10], [9, 10]), ([1, 7, 8, 11], [1, 7, 8, 11]), ([], []), ([12, 13], [12, 13]), ([14], [14]), ([14], [14]), ([15, 14, 0, 1, 2, 3, 4, 5, 6, 7, 8, 9, 10, 11, 12, 13, 14, 15, 16], [15]), ([16, 17, 0, 1, 2, 3, 4, 5, 6, 7, 8, 9, 10, 11, 12, 13, 14, 15, 16, 17], [16])])
def quot_Div.B16 : List Nat := [0, 1, 0, 4, 0, 16, 60, 124, 0, 0, 0, 1536, 4095, 0, 16383, 32767, 32767, 131071, 262143]
theorem quot_Div.tab16 : rtab .any (opsOf Try.f8 16) = quot_Div.T16 := by kernel_rfl
theorem quot_Div.bits16 : waitsOk quot_Div.T16.2 quot_Div.B16 = true := by kernel_rfl
set_option maxHeartbeats 8000000 in
set_option maxRecDepth 100000 in
theorem quot_Div.calls (k : Nat) (a0 : Int) (a1 : Int) (a2 : Int) (r1 : Int) (r2 : Int) (w : World) (h : quot_Div.f k a0 a1 a2 = some (r1, r2)) :
 Calls Try.prog 8 #[.int .u64 a0, .int .u64 a1, .int .i64 a2] w fun e w' => e = .returned (.tuple #[.int .u64 r1, .int .u8 r2]) ∧ Below w.heap.size w w' := by
 have hu36 := Try.underlying36
 have hu41 := Try.underlying41
 have hu50 := Try.underlying50
 have hu43 := Try.underlying43
 have herN := errW_none; have herS := errW_some
 have HB := Aside0.mk (Below.refl w.heap.size w)
 have H : ((pat_Take.f a0).bind fun bt101 => ((pat_Take.f a1).bind fun bt105 => ((pat_IsNaN.f a0).bind fun t111 => (if t111 = true then (quot_Div.j0 k a0 a1 a2 (Go.bits .and .u64 (Go.bits .xor .u64 a0 a1) 9223372036854775808) true bt101.1 bt101.2.1 bt101.2.2.1 bt101.2.2.2 bt105.1 bt105.2.1 bt105.2.2.1 bt105.2.2.2) else ((pat_IsNaN.f a1).bind fun t112 => (quot_Div.j0 k a0 a1 a2 (Go.bits .and .u64 (Go.bits .xor .u64 a0 a1) 9223372036854775808) t112 bt101.1 bt101.2.1 bt101.2.2.1 bt101.2.2.2 bt105.1 bt105.2.1 bt105.2.2.1 bt105.2.2.2)))))) = some (r1, r2) := h
 clear h
 replace H := Option.bind_eq_some_iff.mp H
 obtain ⟨⟨t101, t102, t103, t104⟩, A40, H⟩ := H
 replace H : ((pat_Take.f a1).bind fun bt105 => ((pat_IsNaN.f a0).bind fun t111 => (if t111 = true then (quot_Div.j0 k a0 a1 a2 (Go.bits .and .u64 (Go.bits .xor .u64 a0 a1) 9223372036854775808) true t101 t102 t103 t104 bt105.1 bt105.2.1 bt105.2.2.1 bt105.2.2.2) else ((pat_IsNaN.f a1).bind fun t112 => (quot_Div.j0 k a0 a1 a2 (Go.bits .and .u64 (Go.bits .xor .u64 a0 a1) 9223372036854775808) t112 t101 t102 t103 t104 bt105.1 bt105.2.1 bt105.2.2.1 bt105.2.2.2))))) = some (r1, r2) := H
 have A4 := Aside0.mk A40
 clear A40
 replace H := Option.bind_eq_some_iff.mp H
 obtain ⟨⟨t105, t106, t107, t108⟩, A50, H⟩ := H
 replace H : ((pat_IsNaN.f a0).bind fun t111 => (if t111 = true then (quot_Div.j0 k a0 a1 a2 (Go.bits .and .u64 (Go.bits .xor .u64 a0 a1) 9223372036854775808) true t101 t102 t103 t104 t105 t106 t107 t108) else ((pat_IsNaN.f a1).bind fun t112 => (quot_Div.j0 k a0 a1 a2 (Go.bits .and .u64 (Go.bits .xor .u64 a0 a1) 9223372036854775808) t112 t101 t102 t103 t104 t105 t106 t107 t108)))) = some (r1, r2) := H
 have A5 := Aside0.mk A50
 clear A50
 have HC6 := Aside0.mk H
 clear H
 go_enter Try.func8, Try.ntmps8
 go_upto_region 3 with (first | ((with_reducible refine gate_callee (f := 14) rfl ?_); refine goesL_ (some 19) rfl rfl Try.func14 (by kernel_rfl) rfl #[.int .u64 a0] rfl (by (try simp only [List.map_toArray, List.map_cons, List.map_nil]); first | done | rfl | (simp only [List.length_drop, List.length_take]; rfl)) ?_; (with_reducible refine (pat_Take.calls a0 t101 t102 t103 t104 _ A4.out).mono ?_); rintro e w7 ⟨rfl, hb⟩; refine ⟨_, rfl, ?_⟩; have n0_ := Aside0.mk (below_step (by repeat (first | (with_reducible first | exact HB.out | apply below_alloc | apply pw_below_drewN | apply below_drew1) | exact HB.out)) hb); clear HB; have HB := n0_; clear n0_; (try clear hb); (try clear hb2); (try clear hk); (try clear hi)) | ((with_reducible refine gate_callee (f := 14) rfl ?_); refine goesL_ (some 21) rfl rfl Try.func14 (by kernel_rfl) rfl #[.int .u64 a1] rfl (by (try simp only [List.map_toArray, List.map_cons, List.map_nil]); first | done | rfl | (simp only [List.length_drop, List.length_take]; rfl)) ?_; (with_reducible refine (pat_Take.calls a1 t105 t106 t107 t108 _ A5.out).mono ?_); rintro e w8 ⟨rfl, hb⟩; refine ⟨_, rfl, ?_⟩; have n0_ := Aside0.mk (below_step (by repeat (first | (with_reducible first | exact HB.out | apply below_alloc | apply pw_below_drewN | apply below_drew1) | exact HB.out)) hb); clear HB; have HB := n0_; clear n0_; (try clear hb); (try clear hb2); (try clear hk); (try clear hi)) | ((with_reducible refine gate_dst (N := 9) rfl ?_); refine box_event ?hg (N := 9) ?hd (cs := #[.bool false, .int .i64 0, .int .i64 0, .int .u64 0]) (t := 36) ?hr ?_; (case hd => rfl); (case hg => rfl); (case hr => first | (go_simp; done) | (go_simp; rfl)); intro gb109 hg w9 hbox hb; have n0_ := Aside0.mk (below_step (by repeat (first | (with_reducible first | exact HB.out | apply below_alloc | apply pw_below_drewN | apply below_drew1) | exact HB.out)) hb); have n1_ := Aside0.mk (hbox); have n2_ := Aside0.mk ((by rw [hg]; exact (below_size (by repeat (first | (with_reducible first | exact HB.out | apply below_alloc | apply pw_below_drewN | apply below_drew1) | exact HB.out))) : w.heap.size ≤ gb109)); have n3_ := Aside0.mk ((by rw [hg]; exact (below_size (by repeat (first | (with_reducible first | exact HB.out | apply below_alloc | apply pw_below_drewN | apply below_drew1) | exact HB.out))) : w.heap.size ≤ gb109)); clear HB; have HB := n0_; have BK109 := n1_; have GW109 := n2_; have GE109 := n3_; clear n0_ n1_ n2_ n3_; clear hb hbox hg) | ((with_reducible refine gate_dst (N := 10) rfl ?_); refine box_event ?hg (N := 10) ?hd (cs := #[.bool false, .int .i64 0, .int .i64 0, .int .u64 0]) (t := 36) ?hr ?_; (case hd => rfl); (case hg => rfl); (case hr => first | (go_simp; done) | (go_simp; rfl)); intro gb110 hg w10 hbox hb; have n0_ := Aside0.mk (blk_below (g := gb109) (o := .cells #[.bool false, .int .i64 0, .int .i64 0, .int .u64 0] 36 (0, 0)) (by (with_reducible repeat (first | refine blk_drewN ?_ _ | refine blk_drew ?_ | refine blk_alloc ?_ _)); exact BK109.out) hb); have n1_ := Aside0.mk (below_step (by repeat (first | (with_reducible first | exact HB.out | apply below_alloc | apply pw_below_drewN | apply below_drew1 | refine below_set ?_ GE109.out) | exact HB.out)) hb); have n2_ := Aside0.mk (hbox); have n3_ := Aside0.mk ((by rw [hg]; exact (below_size (by repeat (first | (with_reducible first | exact HB.out | apply below_alloc | apply pw_below_drewN | apply below_drew1 | refine below_set ?_ GE109.out) | exact HB.out))) : w.heap.size ≤ gb110)); have n4_ := Aside0.mk ((by rw [hg]; exact (below_size (by repeat (first | (with_reducible first | exact HB.out | apply below_alloc | apply pw_below_drewN | apply below_drew1 | refine below_set ?_ GE109.out) | exact HB.out))) : w.heap.size ≤ gb110)); have n5_ := Aside0.mk ((by rw [hg]; exact Nat.ne_of_lt (blk_lt (g := gb109) (o := .cells #[.bool false, .int .i64 0, .int .i64 0, .int .u64 0] 36 (0, 0)) (by (with_reducible repeat (first | refine blk_drewN ?_ _ | refine blk_drew ?_ | refine blk_alloc ?_ _)); exact BK109.out)) : gb109 ≠ gb110)); have n6_ := Aside0.mk ((by rw [hg]; exact Nat.ne_of_gt (blk_lt (g := gb109) (o := .cells #[.bool false, .int .i64 0, .int .i64 0, .int .u64 0] 36 (0, 0)) (by (with_reducible repeat (first | refine blk_drewN ?_ _ | refine blk_drew ?_ | refine blk_alloc ?_ _)); exact BK109.out)) : gb110 ≠ gb109)); clear BK109; clear HB; have BK109 := n0_; have HB := n1_; have BK110 := n2_; have GW110 := n3_; have GE110 := n4_; have NB109_110 := n5_; have NB110_109 := n6_; clear n0_ n1_ n2_ n3_ n4_ n5_ n6_; clear hb hbox hg; have hnb11 := NB109_110.out; have hnc11 := NB110_109.out; have hcz12_0 : w10.cell? ⟨gb109, 0, none⟩ = some (.bool false) := (blk_cell BK109.out 0).trans rfl; have hcz12_1 : w10.cell? ⟨gb109, 1, none⟩ = some (.int .i64 0) := (blk_cell BK109.out 1).trans rfl; have hcz12_2 : w10.cell? ⟨gb109, 2, none⟩ = some (.int .i64 0) := (blk_cell BK109.out 2).trans rfl; have hcz12_3 : w10.cell? ⟨gb109, 3, none⟩ = some (.int .u64 0) := (blk_cell BK109.out 3).trans rfl; have hfz12_0 := blk_frozen BK109.out 0; have hfz12_1 := blk_frozen BK109.out 1; have hfz12_2 := blk_frozen BK109.out 2; have hfz12_3 := blk_frozen BK109.out 3; have hcz13_0 : w10.cell? ⟨gb110, 0, none⟩ = some (.bool false) := (blk_cell BK110.out 0).trans rfl; have hcz13_1 : w10.cell? ⟨gb110, 1, none⟩ = some (.int .i64 0) := (blk_cell BK110.out 1).trans rfl; have hcz13_2 : w10.cell? ⟨gb110, 2, none⟩ = some (.int .i64 0) := (blk_cell BK110.out 2).trans rfl; have hcz13_3 : w10.cell? ⟨gb110, 3, none⟩ = some (.int .u64 0) := (blk_cell BK110.out 3).trans rfl; have hfz13_0 := blk_frozen BK110.out 0; have hfz13_1 := blk_frozen BK110.out 1; have hfz13_2 := blk_frozen BK110.out 2; have hfz13_3 := blk_frozen BK110.out 3))
 (try simp only [Act.put, List.setIfInBounds_toArray, List.set_cons_zero, List.set_cons_succ])
 go_cut [22] (fun v22 wc => ∃ (kq : Nat) (x22_5 : Bool), v22 = .bool x22_5 ∧ Aside0 (quot_Div.j0 kq a0 a1 a2 (Go.bits .and .u64 (Go.bits .xor .u64 a0 a1) 9223372036854775808) x22_5 t101 t102 t103 t104 t105 t106 t107 t108 = some (r1, r2)) ∧ Aside0 (kq ≤ k) ∧ Aside0 (wc.heap[gb109]? = some (.cells #[.bool t101, .int .i64 t102, .int .i64 t103, .int .u64 t104] 36 (0, 0))) ∧ Aside0 (wc.heap[gb110]? = some (.cells #[.bool t105, .int .i64 t106, .int .i64 t107, .int .u64 t108] 36 (0, 0))) ∧ Aside0 (Below w.heap.size w wc))
 case first =>
  have H := HC6.out
  clear HC6
  replace H := Option.bind_eq_some_iff.mp H
  obtain ⟨t111, A140, H⟩ := H
  replace H : (if t111 = true then (quot_Div.j0 k a0 a1 a2 (Go.bits .and .u64 (Go.bits .xor .u64 a0 a1) 9223372036854775808) true t101 t102 t103 t104 t105 t106 t107 t108) else ((pat_IsNaN.f a1).bind fun t112 => (quot_Div.j0 k a0 a1 a2 (Go.bits .and .u64 (Go.bits .xor .u64 a0 a1) 9223372036854775808) t112 t101 t102 t103 t104 t105 t106 t107 t108))) = some (r1, r2) := H
  have A14 := Aside0.mk A140
  clear A140
  by_cases c15 : t111 = true
  · subst c15
    have H1 : (quot_Div.j0 k a0 a1 a2 (Go.bits .and .u64 (Go.bits .xor .u64 a0 a1) 9223372036854775808) true t101 t102 t103 t104 t105 t106 t107 t108) = some (r1, r2) := by rw [if_pos rfl] at H; exact H
    clear H; have H := H1; clear H1
    have H' := Aside0.mk H
    clear H
    go_wp2_with (first | ((with_reducible refine gate_callee (f := 15) rfl ?_); refine goesL_ (some 24) rfl rfl Try.func15 (by kernel_rfl) rfl #[.int .u64 a0] rfl (by (try simp only [List.map_toArray, List.map_cons, List.map_nil]); first | done | rfl | (simp only [List.length_drop, List.length_take]; rfl)) ?_; (with_reducible refine (pat_IsNaN.calls a0 true _ A14.out).mono ?_); rintro e w16 ⟨rfl, hb⟩; refine ⟨_, rfl, ?_⟩; have n0_ := Aside0.mk (blk_below (g := gb109) (o := .cells #[.bool t101, .int .i64 t102, .int .i64 t103, .int .u64 t104] 36 (0, 0)) (by (with_reducible repeat (first | refine blk_drewN ?_ _ | refine blk_drew ?_ | refine blk_alloc ?_ _)); refine blk_far ?_ NB109_110.out _; (with_reducible repeat (first | refine blk_drewN ?_ _ | refine blk_drew ?_ | refine blk_alloc ?_ _)); refine blk_far ?_ NB109_110.out _; (with_reducible repeat (first | refine blk_drewN ?_ _ | refine blk_drew ?_ | refine blk_alloc ?_ _)); refine blk_far ?_ NB109_110.out _; (with_reducible repeat (first | refine blk_drewN ?_ _ | refine blk_drew ?_ | refine blk_alloc ?_ _)); refine blk_far ?_ NB109_110.out _; (with_reducible repeat (first | refine blk_drewN ?_ _ | refine blk_drew ?_ | refine blk_alloc ?_ _)); refine blk_put (cs := #[.bool t101, .int .i64 t102, .int .i64 t103, .int .u64 0]) ?_ 3 _ rfl; (with_reducible repeat (first | refine blk_drewN ?_ _ | refine blk_drew ?_ | refine blk_alloc ?_ _)); refine blk_put (cs := #[.bool t101, .int .i64 t102, .int .i64 0, .int .u64 0]) ?_ 2 _ rfl; (with_reducible repeat (first | refine blk_drewN ?_ _ | refine blk_drew ?_ | refine blk_alloc ?_ _)); refine blk_put (cs := #[.bool t101, .int .i64 0, .int .i64 0, .int .u64 0]) ?_ 1 _ rfl; (with_reducible repeat (first | refine blk_drewN ?_ _ | refine blk_drew ?_ | refine blk_alloc ?_ _)); refine blk_put (cs := #[.bool false, .int .i64 0, .int .i64 0, .int .u64 0]) ?_ 0 _ rfl; (with_reducible repeat (first | refine blk_drewN ?_ _ | refine blk_drew ?_ | refine blk_alloc ?_ _)); exact BK109.out) hb); have n1_ := Aside0.mk (blk_below (g := gb110) (o := .cells #[.bool t105, .int .i64 t106, .int .i64 t107, .int .u64 t108] 36 (0, 0)) (by (with_reducible repeat (first | refine blk_drewN ?_ _ | refine blk_drew ?_ | refine blk_alloc ?_ _)); refine blk_put (cs := #[.bool t105, .int .i64 t106, .int .i64 t107, .int .u64 0]) ?_ 3 _ rfl; (with_reducible repeat (first | refine blk_drewN ?_ _ | refine blk_drew ?_ | refine blk_alloc ?_ _)); refine blk_put (cs := #[.bool t105, .int .i64 t106, .int .i64 0, .int .u64 0]) ?_ 2 _ rfl; (with_reducible repeat (first | refine blk_drewN ?_ _ | refine blk_drew ?_ | refine blk_alloc ?_ _)); refine blk_put (cs := #[.bool t105, .int .i64 0, .int .i64 0, .int .u64 0]) ?_ 1 _ rfl; (with_reducible repeat (first | refine blk_drewN ?_ _ | refine blk_drew ?_ | refine blk_alloc ?_ _)); refine blk_put (cs := #[.bool false, .int .i64 0, .int .i64 0, .int .u64 0]) ?_ 0 _ rfl; (with_reducible repeat (first | refine blk_drewN ?_ _ | refine blk_drew ?_ | refine blk_alloc ?_ _)); refine blk_far ?_ NB110_109.out _; (with_reducible repeat (first | refine blk_drewN ?_ _ | refine blk_drew ?_ | refine blk_alloc ?_ _)); refine blk_far ?_ NB110_109.out _; (with_reducible repeat (first | refine blk_drewN ?_ _ | refine blk_drew ?_ | refine blk_alloc ?_ _)); refine blk_far ?_ NB110_109.out _; (with_reducible repeat (first | refine blk_drewN ?_ _ | refine blk_drew ?_ | refine blk_alloc ?_ _)); refine blk_far ?_ NB110_109.out _; (with_reducible repeat (first | refine blk_drewN ?_ _ | refine blk_drew ?_ | refine blk_alloc ?_ _)); exact BK110.out) hb); have n2_ := Aside0.mk (below_step (by repeat (first | (with_reducible first | exact HB.out | apply below_alloc | apply pw_below_drewN | apply below_drew1 | refine below_set ?_ GE109.out | refine below_set ?_ GE110.out) | exact HB.out)) hb); clear BK109; clear BK110; clear HB; have BK109 := n0_; have BK110 := n1_; have HB := n2_; clear n0_ n1_ n2_; (try clear hb); (try clear hb2); (try clear hk); (try clear hi)))
    go_meet
    case rel => exact ⟨_, (true), (by first | rfl | (simp; done) | (simp [*]; done)), (by first | exact H' | (subst_vars; exact H')), ⟨by first | omega | exact Nat.le_refl _⟩, ⟨by (with_reducible repeat (first | refine blk_drewN ?_ _ | refine blk_drew ?_ | refine blk_alloc ?_ _)); exact BK109.out⟩, ⟨by (with_reducible repeat (first | refine blk_drewN ?_ _ | refine blk_drew ?_ | refine blk_alloc ?_ _)); exact BK110.out⟩, ⟨by repeat (first | (with_reducible first | exact HB.out | apply below_alloc | apply pw_below_drewN | apply below_drew1 | refine below_set ?_ GE109.out | refine below_set ?_ GE110.out) | exact HB.out)⟩⟩
  · replace c15 := Bool.eq_false_iff.mpr c15
    subst c15
    have H1 : ((pat_IsNaN.f a1).bind fun t112 => (quot_Div.j0 k a0 a1 a2 (Go.bits .and .u64 (Go.bits .xor .u64 a0 a1) 9223372036854775808) t112 t101 t102 t103 t104 t105 t106 t107 t108)) = some (r1, r2) := by rw [if_neg (show ¬ (false = true) by decide)] at H; exact H
    clear H; have H := H1; clear H1
    replace H := Option.bind_eq_some_iff.mp H
    obtain ⟨t112, A170, H⟩ := H
    replace H : (quot_Div.j0 k a0 a1 a2 (Go.bits .and .u64 (Go.bits .xor .u64 a0 a1) 9223372036854775808) t112 t101 t102 t103 t104 t105 t106 t107 t108) = some (r1, r2) := H
    have A17 := Aside0.mk A170
    clear A170
    have H' := Aside0.mk H
    clear H
    go_wp2_with (first | ((with_reducible refine gate_callee (f := 15) rfl ?_); refine goesL_ (some 24) rfl rfl Try.func15 (by kernel_rfl) rfl #[.int .u64 a0] rfl (by (try simp only [List.map_toArray, List.map_cons, List.map_nil]); first | done | rfl | (simp only [List.length_drop, List.length_take]; rfl)) ?_; (with_reducible refine (pat_IsNaN.calls a0 false _ A14.out).mono ?_); rintro e w18 ⟨rfl, hb⟩; refine ⟨_, rfl, ?_⟩; have n0_ := Aside0.mk (blk_below (g := gb109) (o := .cells #[.bool t101, .int .i64 t102, .int .i64 t103, .int .u64 t104] 36 (0, 0)) (by (with_reducible repeat (first | refine blk_drewN ?_ _ | refine blk_drew ?_ | refine blk_alloc ?_ _)); refine blk_far ?_ NB109_110.out _; (with_reducible repeat (first | refine blk_drewN ?_ _ | refine blk_drew ?_ | refine blk_alloc ?_ _)); refine blk_far ?_ NB109_110.out _; (with_reducible repeat (first | refine blk_drewN ?_ _ | refine blk_drew ?_ | refine blk_alloc ?_ _)); refine blk_far ?_ NB109_110.out _; (with_reducible repeat (first | refine blk_drewN ?_ _ | refine blk_drew ?_ | refine blk_alloc ?_ _)); refine blk_far ?_ NB109_110.out _; (with_reducible repeat (first | refine blk_drewN ?_ _ | refine blk_drew ?_ | refine blk_alloc ?_ _)); refine blk_put (cs := #[.bool t101, .int .i64 t102, .int .i64 t103, .int .u64 0]) ?_ 3 _ rfl; (with_reducible repeat (first | refine blk_drewN ?_ _ | refine blk_drew ?_ | refine blk_alloc ?_ _)); refine blk_put (cs := #[.bool t101, .int .i64 t102, .int .i64 0, .int .u64 0]) ?_ 2 _ rfl; (with_reducible repeat (first | refine blk_drewN ?_ _ | refine blk_drew ?_ | refine blk_alloc ?_ _)); refine blk_put (cs := #[.bool t101, .int .i64 0, .int .i64 0, .int .u64 0]) ?_ 1 _ rfl; (with_reducible repeat (first | refine blk_drewN ?_ _ | refine blk_drew ?_ | refine blk_alloc ?_ _)); refine blk_put (cs := #[.bool false, .int .i64 0, .int .i64 0, .int .u64 0]) ?_ 0 _ rfl; (with_reducible repeat (first | refine blk_drewN ?_ _ | refine blk_drew ?_ | refine blk_alloc ?_ _)); exact BK109.out) hb); have n1_ := Aside0.mk (blk_below (g := gb110) (o := .cells #[.bool t105, .int .i64 t106, .int .i64 t107, .int .u64 t108] 36 (0, 0)) (by (with_reducible repeat (first | refine blk_drewN ?_ _ | refine blk_drew ?_ | refine blk_alloc ?_ _)); refine blk_put (cs := #[.bool t105, .int .i64 t106, .int .i64 t107, .int .u64 0]) ?_ 3 _ rfl; (with_reducible repeat (first | refine blk_drewN ?_ _ | refine blk_drew ?_ | refine blk_alloc ?_ _)); refine blk_put (cs := #[.bool t105, .int .i64 t106, .int .i64 0, .int .u64 0]) ?_ 2 _ rfl; (with_reducible repeat (first | refine blk_drewN ?_ _ | refine blk_drew ?_ | refine blk_alloc ?_ _)); refine blk_put (cs := #[.bool t105, .int .i64 0, .int .i64 0, .int .u64 0]) ?_ 1 _ rfl; (with_reducible repeat (first | refine blk_drewN ?_ _ | refine blk_drew ?_ | refine blk_alloc ?_ _)); refine blk_put (cs := #[.bool false, .int .i64 0, .int .i64 0, .int .u64 0]) ?_ 0 _ rfl; (with_reducible repeat (first | refine blk_drewN ?_ _ | refine blk_drew ?_ | refine blk_alloc ?_ _)); refine blk_far ?_ NB110_109.out _; (with_reducible repeat (first | refine blk_drewN ?_ _ | refine blk_drew ?_ | refine blk_alloc ?_ _)); refine blk_far ?_ NB110_109.out _; (with_reducible repeat (first | refine blk_drewN ?_ _ | refine blk_drew ?_ | refine blk_alloc ?_ _)); refine blk_far ?_ NB110_109.out _; (with_reducible repeat (first | refine blk_drewN ?_ _ | refine blk_drew ?_ | refine blk_alloc ?_ _)); refine blk_far ?_ NB110_109.out _; (with_reducible repeat (first | refine blk_drewN ?_ _ | refine blk_drew ?_ | refine blk_alloc ?_ _)); exact BK110.out) hb); have n2_ := Aside0.mk (below_step (by repeat (first | (with_reducible first | exact HB.out | apply below_alloc | apply pw_below_drewN | apply below_drew1 | refine below_set ?_ GE109.out | refine below_set ?_ GE110.out) | exact HB.out)) hb); clear BK109; clear BK110; clear HB; have BK109 := n0_; have BK110 := n1_; have HB := n2_; clear n0_ n1_ n2_; (try clear hb); (try clear hb2); (try clear hk); (try clear hi)) | (go_at_call 15; (with_reducible refine (pat_IsNaN.calls a1 t112 _ A17.out).mono ?_); rintro e w19 ⟨rfl, hb⟩; have n0_ := Aside0.mk (blk_below (g := gb109) (o := .cells #[.bool t101, .int .i64 t102, .int .i64 t103, .int .u64 t104] 36 (0, 0)) (by (with_reducible repeat (first | refine blk_drewN ?_ _ | refine blk_drew ?_ | refine blk_alloc ?_ _)); exact BK109.out) hb); have n1_ := Aside0.mk (blk_below (g := gb110) (o := .cells #[.bool t105, .int .i64 t106, .int .i64 t107, .int .u64 t108] 36 (0, 0)) (by (with_reducible repeat (first | refine blk_drewN ?_ _ | refine blk_drew ?_ | refine blk_alloc ?_ _)); exact BK110.out) hb); have n2_ := Aside0.mk (below_step (by repeat (first | (with_reducible first | exact HB.out | apply below_alloc | apply pw_below_drewN | apply below_drew1 | refine below_set ?_ GE109.out | refine below_set ?_ GE110.out) | exact HB.out)) hb); clear BK109; clear BK110; clear HB; have BK109 := n0_; have BK110 := n1_; have HB := n2_; clear n0_ n1_ n2_; (try clear hb); (try clear hb2); (try clear hk); (try clear hi)))
    go_meet
    case rel => exact ⟨_, (t112), (by first | rfl | (simp; done) | (simp [*]; done)), (by first | exact H' | (subst_vars; exact H')), ⟨by first | omega | exact Nat.le_refl _⟩, ⟨by (with_reducible repeat (first | refine blk_drewN ?_ _ | refine blk_drew ?_ | refine blk_alloc ?_ _)); exact BK109.out⟩, ⟨by (with_reducible repeat (first | refine blk_drewN ?_ _ | refine blk_drew ?_ | refine blk_alloc ?_ _)); exact BK110.out⟩, ⟨by repeat (first | (with_reducible first | exact HB.out | apply below_alloc | apply pw_below_drewN | apply below_drew1 | refine below_set ?_ GE109.out | refine below_set ?_ GE110.out) | exact HB.out)⟩⟩
 case rest =>
  clear HC6
  try clear c1
  try clear p2
  try clear c8
  try clear c11
  try clear c14
  try clear c15
  try clear hcz12_0
  try clear hcz12_1
  try clear hcz12_2
  try clear hcz12_3
  try clear hcz13_0
  try clear hcz13_1
  try clear hcz13_2
  try clear hcz13_3
  try clear hfz12_0
  try clear hfz12_1
  try clear hfz12_2
  try clear hfz12_3
  try clear hfz13_0
  try clear hfz13_1
  try clear hfz13_2
  try clear hfz13_3
  obtain ⟨kq, x22_5, rfl, HA, HJ5, BK109, BK110, HB⟩ := hcut
  cases kq with
  | zero => exact absurd HA.out (by simp [quot_Div.j0])
  | succ kj5 =>
   have H := HA.out
   clear HA
   simp only [quot_Div.j0] at H
   by_cases c20 : x22_5 = true
   · subst c20
     have H1 : ((quot_none.f a0 a1).bind fun bt113 => (some (bt113.1, bt113.2))) = some (r1, r2) := by rw [if_pos rfl] at H; exact H
     clear H; have H := H1; clear H1
     replace H := Option.bind_eq_some_iff.mp H
     obtain ⟨⟨t113, t114⟩, A210, H⟩ := H
     replace H : (some (t113, t114)) = some (r1, r2) := H
     have A21 := Aside0.mk A210
     clear A210
     simp only [Option.some.injEq, Prod.mk.injEq] at H
     obtain ⟨rfl, rfl⟩ := H
     go_wp2_with (first | ((with_reducible refine gate_callee (f := 16) rfl ?_); refine goesL_ (some 31) rfl rfl Try.func16 (by kernel_rfl) rfl #[.int .u64 a0, .int .u64 a1] rfl (by (try simp only [List.map_toArray, List.map_cons, List.map_nil]); first | done | rfl | (simp only [List.length_drop, List.length_take]; rfl)) ?_; (with_reducible refine (quot_none.calls a0 a1 t113 t114 _ A21.out).mono ?_); rintro e w22 ⟨rfl, hb⟩; refine ⟨_, rfl, ?_⟩; have n0_ := Aside0.mk (blk_below (g := gb109) (o := .cells #[.bool t101, .int .i64 t102, .int .i64 t103, .int .u64 t104] 36 (0, 0)) (by (with_reducible repeat (first | refine blk_drewN ?_ _ | refine blk_drew ?_ | refine blk_alloc ?_ _)); exact BK109.out) hb); have n1_ := Aside0.mk (blk_below (g := gb110) (o := .cells #[.bool t105, .int .i64 t106, .int .i64 t107, .int .u64 t108] 36 (0, 0)) (by (with_reducible repeat (first | refine blk_drewN ?_ _ | refine blk_drew ?_ | refine blk_alloc ?_ _)); exact BK110.out) hb); have n2_ := Aside0.mk (below_step (by repeat (first | (with_reducible first | exact HB.out | apply below_alloc | apply pw_below_drewN | apply below_drew1 | refine below_set ?_ GE109.out | refine below_set ?_ GE110.out) | exact HB.out)) hb); clear BK109; clear BK110; clear HB; have BK109 := n0_; have BK110 := n1_; have HB := n2_; clear n0_ n1_ n2_; (try clear hb); (try clear hb2); (try clear hk); (try clear hi)))
     go_ret2
     exact ⟨by first | rfl | (simp [errW_none, errW_some] <;> rfl) | (simp [*, errW_none, errW_some] <;> rfl), by repeat (first | (with_reducible first | exact HB.out | apply below_alloc | apply pw_below_drewN | apply below_drew1 | refine below_set ?_ GE109.out | refine below_set ?_ GE110.out) | exact HB.out)⟩
   · replace c20 := Bool.eq_false_iff.mpr c20
     subst c20
     have H1 : (if t102 = t106 then (if t102 = 0 then (quot_Div.j1 kj5 a2 (Go.bits .and .u64 (Go.bits .xor .u64 a0 a1) 9223372036854775808) true t101 t102 t103 t104 t105 t106 t107 t108) else (quot_Div.j1 kj5 a2 (Go.bits .and .u64 (Go.bits .xor .u64 a0 a1) 9223372036854775808) (t102 == 3) t101 t102 t103 t104 t105 t106 t107 t108)) else (quot_Div.j1 kj5 a2 (Go.bits .and .u64 (Go.bits .xor .u64 a0 a1) 9223372036854775808) false t101 t102 t103 t104 t105 t106 t107 t108)) = some (r1, r2) := by rw [if_neg (show ¬ (false = true) by decide)] at H; exact H
     clear H; have H := H1; clear H1
     have HC23 := Aside0.mk H
     clear H
     go_upto_region 5 with (fail)
     go_cut [34] (fun v34 wc => ∃ (kq : Nat) (x34_22 : Bool), v34 = .bool x34_22 ∧ Aside0 (quot_Div.j1 kq a2 (Go.bits .and .u64 (Go.bits .xor .u64 a0 a1) 9223372036854775808) x34_22 t101 t102 t103 t104 t105 t106 t107 t108 = some (r1, r2)) ∧ Aside0 (kq ≤ kj5) ∧ Aside0 (wc.heap[gb109]? = some (.cells #[.bool t101, .int .i64 t102, .int .i64 t103, .int .u64 t104] 36 (0, 0))) ∧ Aside0 (wc.heap[gb110]? = some (.cells #[.bool t105, .int .i64 t106, .int .i64 t107, .int .u64 t108] 36 (0, 0))) ∧ Aside0 (Below w.heap.size w wc))
     case first =>
      have H := HC23.out
      clear HC23
      by_cases c24 : t102 = t106
      · rw [if_pos c24] at H
        have c24b0 : (t102 == t106) = true := beq_iff_eq.mpr c24
        have c24b1 : (t102 != t106) = false := bne_eq_false_iff_eq.mpr c24
        clear c24
        (first | rw [c24b0] | (simp only [i64_w, i32_w]; rw [c24b0]) | skip)
        by_cases c25 : t102 = 0
        · rw [if_pos c25] at H
          have c25b0 : (t102 == 0) = true := beq_iff_eq.mpr c25
          have c25b1 : (t102 != 0) = false := bne_eq_false_iff_eq.mpr c25
          clear c25
          have H' := Aside0.mk H
          clear H
          have hnb26 := NB109_110.out
          have hnc26 := NB110_109.out
          have hcz27_0 : wc.cell? ⟨gb109, 0, none⟩ = some (.bool t101) := (blk_cell BK109.out 0).trans rfl
          have hcz27_1 : wc.cell? ⟨gb109, 1, none⟩ = some (.int .i64 t102) := (blk_cell BK109.out 1).trans rfl
          have hcz27_2 : wc.cell? ⟨gb109, 2, none⟩ = some (.int .i64 t103) := (blk_cell BK109.out 2).trans rfl
          have hcz27_3 : wc.cell? ⟨gb109, 3, none⟩ = some (.int .u64 t104) := (blk_cell BK109.out 3).trans rfl
          have hfz27_0 := blk_frozen BK109.out 0
          have hfz27_1 := blk_frozen BK109.out 1
          have hfz27_2 := blk_frozen BK109.out 2
          have hfz27_3 := blk_frozen BK109.out 3
          have hcz28_0 : wc.cell? ⟨gb110, 0, none⟩ = some (.bool t105) := (blk_cell BK110.out 0).trans rfl
          have hcz28_1 : wc.cell? ⟨gb110, 1, none⟩ = some (.int .i64 t106) := (blk_cell BK110.out 1).trans rfl
          have hcz28_2 : wc.cell? ⟨gb110, 2, none⟩ = some (.int .i64 t107) := (blk_cell BK110.out 2).trans rfl
          have hcz28_3 : wc.cell? ⟨gb110, 3, none⟩ = some (.int .u64 t108) := (blk_cell BK110.out 3).trans rfl
          have hfz28_0 := blk_frozen BK110.out 0
          have hfz28_1 := blk_frozen BK110.out 1
          have hfz28_2 := blk_frozen BK110.out 2
          have hfz28_3 := blk_frozen BK110.out 3
          go_wp2
          go_meet
          case rel => exact ⟨_, (true), (by first | rfl | (simp; done) | (simp [*]; done)), (by first | exact H' | (subst_vars; exact H')), ⟨by have := HJ5.out; first | omega | exact Nat.le_refl _⟩, ⟨by (with_reducible repeat (first | refine blk_drewN ?_ _ | refine blk_drew ?_ | refine blk_alloc ?_ _)); exact BK109.out⟩, ⟨by (with_reducible repeat (first | refine blk_drewN ?_ _ | refine blk_drew ?_ | refine blk_alloc ?_ _)); exact BK110.out⟩, ⟨by repeat (first | (with_reducible first | exact HB.out | apply below_alloc | apply pw_below_drewN | apply below_drew1 | refine below_set ?_ GE109.out | refine below_set ?_ GE110.out) | exact HB.out)⟩⟩
        · rw [if_neg c25] at H
          have c25b0 : (t102 == 0) = false := beq_eq_false_iff_ne.mpr c25
          have c25b1 : (t102 != 0) = true := bne_iff_ne.mpr c25
          have H' := Aside0.mk H
          clear H
          have hnb29 := NB109_110.out
          have hnc29 := NB110_109.out
          have hcz30_0 : wc.cell? ⟨gb109, 0, none⟩ = some (.bool t101) := (blk_cell BK109.out 0).trans rfl
          have hcz30_1 : wc.cell? ⟨gb109, 1, none⟩ = some (.int .i64 t102) := (blk_cell BK109.out 1).trans rfl
          have hcz30_2 : wc.cell? ⟨gb109, 2, none⟩ = some (.int .i64 t103) := (blk_cell BK109.out 2).trans rfl
          have hcz30_3 : wc.cell? ⟨gb109, 3, none⟩ = some (.int .u64 t104) := (blk_cell BK109.out 3).trans rfl
          have hfz30_0 := blk_frozen BK109.out 0
          have hfz30_1 := blk_frozen BK109.out 1
          have hfz30_2 := blk_frozen BK109.out 2
          have hfz30_3 := blk_frozen BK109.out 3
          have hcz31_0 : wc.cell? ⟨gb110, 0, none⟩ = some (.bool t105) := (blk_cell BK110.out 0).trans rfl
          have hcz31_1 : wc.cell? ⟨gb110, 1, none⟩ = some (.int .i64 t106) := (blk_cell BK110.out 1).trans rfl
          have hcz31_2 : wc.cell? ⟨gb110, 2, none⟩ = some (.int .i64 t107) := (blk_cell BK110.out 2).trans rfl
          have hcz31_3 : wc.cell? ⟨gb110, 3, none⟩ = some (.int .u64 t108) := (blk_cell BK110.out 3).trans rfl
          have hfz31_0 := blk_frozen BK110.out 0
          have hfz31_1 := blk_frozen BK110.out 1
          have hfz31_2 := blk_frozen BK110.out 2
          have hfz31_3 := blk_frozen BK110.out 3
          go_wp2
          go_meet
          case rel => exact ⟨_, ((t102 == 3)), (by first | rfl | (simp; done) | (simp [*]; done)), (by first | exact H' | (subst_vars; exact H')), ⟨by have := HJ5.out; first | omega | exact Nat.le_refl _⟩, ⟨by (with_reducible repeat (first | refine blk_drewN ?_ _ | refine blk_drew ?_ | refine blk_alloc ?_ _)); exact BK109.out⟩, ⟨by (with_reducible repeat (first | refine blk_drewN ?_ _ | refine blk_drew ?_ | refine blk_alloc ?_ _)); exact BK110.out⟩, ⟨by repeat (first | (with_reducible first | exact HB.out | apply below_alloc | apply pw_below_drewN | apply below_drew1 | refine below_set ?_ GE109.out | refine below_set ?_ GE110.out) | exact HB.out)⟩⟩
      · rw [if_neg c24] at H
        have c24b0 : (t102 == t106) = false := beq_eq_false_iff_ne.mpr c24
        have c24b1 : (t102 != t106) = true := bne_iff_ne.mpr c24
        (first | rw [c24b0] | (simp only [i64_w, i32_w]; rw [c24b0]) | skip)
        have H' := Aside0.mk H
        clear H
        have hnb32 := NB109_110.out
        have hnc32 := NB110_109.out
        have hcz33_0 : wc.cell? ⟨gb109, 0, none⟩ = some (.bool t101) := (blk_cell BK109.out 0).trans rfl
        have hcz33_1 : wc.cell? ⟨gb109, 1, none⟩ = some (.int .i64 t102) := (blk_cell BK109.out 1).trans rfl
        have hcz33_2 : wc.cell? ⟨gb109, 2, none⟩ = some (.int .i64 t103) := (blk_cell BK109.out 2).trans rfl
        have hcz33_3 : wc.cell? ⟨gb109, 3, none⟩ = some (.int .u64 t104) := (blk_cell BK109.out 3).trans rfl
        have hfz33_0 := blk_frozen BK109.out 0
        have hfz33_1 := blk_frozen BK109.out 1
        have hfz33_2 := blk_frozen BK109.out 2
        have hfz33_3 := blk_frozen BK109.out 3
        have hcz34_0 : wc.cell? ⟨gb110, 0, none⟩ = some (.bool t105) := (blk_cell BK110.out 0).trans rfl
        have hcz34_1 : wc.cell? ⟨gb110, 1, none⟩ = some (.int .i64 t106) := (blk_cell BK110.out 1).trans rfl
        have hcz34_2 : wc.cell? ⟨gb110, 2, none⟩ = some (.int .i64 t107) := (blk_cell BK110.out 2).trans rfl
        have hcz34_3 : wc.cell? ⟨gb110, 3, none⟩ = some (.int .u64 t108) := (blk_cell BK110.out 3).trans rfl
        have hfz34_0 := blk_frozen BK110.out 0
        have hfz34_1 := blk_frozen BK110.out 1
        have hfz34_2 := blk_frozen BK110.out 2
        have hfz34_3 := blk_frozen BK110.out 3
        go_wp2
        go_meet
        case rel => exact ⟨_, (false), (by first | rfl | (simp; done) | (simp [*]; done)), (by first | exact H' | (subst_vars; exact H')), ⟨by have := HJ5.out; first | omega | exact Nat.le_refl _⟩, ⟨by (with_reducible repeat (first | refine blk_drewN ?_ _ | refine blk_drew ?_ | refine blk_alloc ?_ _)); exact BK109.out⟩, ⟨by (with_reducible repeat (first | refine blk_drewN ?_ _ | refine blk_drew ?_ | refine blk_alloc ?_ _)); exact BK110.out⟩, ⟨by repeat (first | (with_reducible first | exact HB.out | apply below_alloc | apply pw_below_drewN | apply below_drew1 | refine below_set ?_ GE109.out | refine below_set ?_ GE110.out) | exact HB.out)⟩⟩
     case rest =>
      clear HC23
      try clear c1
      try clear c2
      try clear p2
      try clear c3
      try clear c8
      try clear c11
      try clear c14
      try clear c15
      try clear c16
      try clear c20
      try clear c24
      try clear c24b0
      try clear c24b1
      try clear c25
      try clear c25b0
      try clear c25b1
      try clear c26
      try clear c29
      try clear c32
      try clear hcz12_0
      try clear hcz12_1
      try clear hcz12_2
      try clear hcz12_3
      try clear hcz13_0
      try clear hcz13_1
      try clear hcz13_2
      try clear hcz13_3
      try clear hcz27_0
      try clear hcz27_1
      try clear hcz27_2
      try clear hcz27_3
      try clear hcz28_0
      try clear hcz28_1
      try clear hcz28_2
      try clear hcz28_3
      try clear hcz30_0
      try clear hcz30_1
      try clear hcz30_2
      try clear hcz30_3
      try clear hcz31_0
      try clear hcz31_1
      try clear hcz31_2
      try clear hcz31_3
      try clear hcz33_0
      try clear hcz33_1
      try clear hcz33_2
      try clear hcz33_3
      try clear hcz34_0
      try clear hcz34_1
      try clear hcz34_2
      try clear hcz34_3
      try clear hfz12_0
      try clear hfz12_1
      try clear hfz12_2
      try clear hfz12_3
      try clear hfz13_0
      try clear hfz13_1
      try clear hfz13_2
      try clear hfz13_3
      try clear hfz27_0
      try clear hfz27_1
      try clear hfz27_2
      try clear hfz27_3
      try clear hfz28_0
      try clear hfz28_1
      try clear hfz28_2
      try clear hfz28_3
      try clear hfz30_0
      try clear hfz30_1
      try clear hfz30_2
      try clear hfz30_3
      try clear hfz31_0
      try clear hfz31_1
      try clear hfz31_2
      try clear hfz31_3
      try clear hfz33_0
      try clear hfz33_1
      try clear hfz33_2
      try clear hfz33_3
      try clear hfz34_0
      try clear hfz34_1
      try clear hfz34_2
      try clear hfz34_3
      try clear p2
      obtain ⟨kq, x34_22, rfl, HA, HJ22, BK109, BK110, HB⟩ := hcut
      cases kq with
      | zero => exact absurd HA.out (by simp [quot_Div.j1])
      | succ kj22 =>
       have H := HA.out
       clear HA
       simp only [quot_Div.j1] at H
       by_cases c35 : x34_22 = true
       · subst c35
         have H1 : (some (9221120237041090560, 1)) = some (r1, r2) := by rw [if_pos rfl] at H; exact H
         clear H; have H := H1; clear H1
         simp only [Option.some.injEq, Prod.mk.injEq] at H
         obtain ⟨rfl, rfl⟩ := H
         go_wp2
         go_ret2
         exact ⟨by first | rfl | (simp [errW_none, errW_some] <;> rfl) | (simp [*, errW_none, errW_some] <;> rfl), by repeat (first | (with_reducible first | exact HB.out | apply below_alloc | apply pw_below_drewN | apply below_drew1 | refine below_set ?_ GE109.out | refine below_set ?_ GE110.out) | exact HB.out)⟩
       · replace c35 := Bool.eq_false_iff.mpr c35
         subst c35
         have H1 : (if t102 = 3 then (some (Go.bits .or .u64 9218868437227405312 (Go.bits .and .u64 (Go.bits .xor .u64 a0 a1) 9223372036854775808), 0)) else (if t106 = 3 then (some ((Go.bits .and .u64 (Go.bits .xor .u64 a0 a1) 9223372036854775808), 0)) else (if t106 = 0 then (some (Go.bits .or .u64 9218868437227405312 (Go.bits .and .u64 (Go.bits .xor .u64 a0 a1) 9223372036854775808), 2)) else ((wide_Of.f t104).bind fun bt115 => ((wide_Shl.f bt115.1 bt115.2.1 bt115.2.2.1 bt115.2.2.2 128).bind fun bt119 => ((wide_Of.f t108).bind fun bt123 => ((wide_DivMod.f bt119.1 bt119.2.1 bt119.2.2.1 bt119.2.2.2 bt123.1 bt123.2.1 bt123.2.2.1 bt123.2.2.2).bind fun bt127 => ((rnd_Round.f ((Go.bits .and .u64 (Go.bits .xor .u64 a0 a1) 9223372036854775808) != 0) (wrap64 ((wrap64 (t103 - t107)) - 128)) bt127.1 bt127.2.1 bt127.2.2.1 bt127.2.2.2.1 (!(bt127.2.2.2.2.1 == 0) || (!(bt127.2.2.2.2.2.1 == 0) || (!(bt127.2.2.2.2.2.2.1 == 0) || (!(bt127.2.2.2.2.2.2.2 == 0))))) a2).bind fun bt137 => (some (bt137.1, bt137.2)))))))))) = some (r1, r2) := by rw [if_neg (show ¬ (false = true) by decide)] at H; exact H
         clear H; have H := H1; clear H1
         by_cases c36 : t102 = 3
         · rw [if_pos c36] at H
           have c36b0 : (t102 == 3) = true := beq_iff_eq.mpr c36
           have c36b1 : (t102 != 3) = false := bne_eq_false_iff_eq.mpr c36
           clear c36
           simp only [Option.some.injEq, Prod.mk.injEq] at H
           obtain ⟨rfl, rfl⟩ := H
           have hnb37 := NB109_110.out
           have hnc37 := NB110_109.out
           have hcz38_0 : wc.cell? ⟨gb109, 0, none⟩ = some (.bool t101) := (blk_cell BK109.out 0).trans rfl
           have hcz38_1 : wc.cell? ⟨gb109, 1, none⟩ = some (.int .i64 t102) := (blk_cell BK109.out 1).trans rfl
           have hcz38_2 : wc.cell? ⟨gb109, 2, none⟩ = some (.int .i64 t103) := (blk_cell BK109.out 2).trans rfl
           have hcz38_3 : wc.cell? ⟨gb109, 3, none⟩ = some (.int .u64 t104) := (blk_cell BK109.out 3).trans rfl
           have hfz38_0 := blk_frozen BK109.out 0
           have hfz38_1 := blk_frozen BK109.out 1
           have hfz38_2 := blk_frozen BK109.out 2
           have hfz38_3 := blk_frozen BK109.out 3
           go_wp2
           go_ret2
           exact ⟨by first | rfl | (simp [errW_none, errW_some] <;> rfl) | (simp [*, errW_none, errW_some] <;> rfl), by repeat (first | (with_reducible first | exact HB.out | apply below_alloc | apply pw_below_drewN | apply below_drew1 | refine below_set ?_ GE109.out | refine below_set ?_ GE110.out) | exact HB.out)⟩
         · rw [if_neg c36] at H
           have c36b0 : (t102 == 3) = false := beq_eq_false_iff_ne.mpr c36
           have c36b1 : (t102 != 3) = true := bne_iff_ne.mpr c36
           by_cases c39 : t106 = 3
           · rw [if_pos c39] at H
             have c39b0 : (t106 == 3) = true := beq_iff_eq.mpr c39
             have c39b1 : (t106 != 3) = false := bne_eq_false_iff_eq.mpr c39
             clear c39
             simp only [Option.some.injEq, Prod.mk.injEq] at H
             obtain ⟨rfl, rfl⟩ := H
             have hnb40 := NB109_110.out
             have hnc40 := NB110_109.out
             have hcz41_0 : wc.cell? ⟨gb109, 0, none⟩ = some (.bool t101) := (blk_cell BK109.out 0).trans rfl
             have hcz41_1 : wc.cell? ⟨gb109, 1, none⟩ = some (.int .i64 t102) := (blk_cell BK109.out 1).trans rfl
             have hcz41_2 : wc.cell? ⟨gb109, 2, none⟩ = some (.int .i64 t103) := (blk_cell BK109.out 2).trans rfl
             have hcz41_3 : wc.cell? ⟨gb109, 3, none⟩ = some (.int .u64 t104) := (blk_cell BK109.out 3).trans rfl
             have hfz41_0 := blk_frozen BK109.out 0
             have hfz41_1 := blk_frozen BK109.out 1
             have hfz41_2 := blk_frozen BK109.out 2
             have hfz41_3 := blk_frozen BK109.out 3
             have hcz42_0 : wc.cell? ⟨gb110, 0, none⟩ = some (.bool t105) := (blk_cell BK110.out 0).trans rfl
             have hcz42_1 : wc.cell? ⟨gb110, 1, none⟩ = some (.int .i64 t106) := (blk_cell BK110.out 1).trans rfl
             have hcz42_2 : wc.cell? ⟨gb110, 2, none⟩ = some (.int .i64 t107) := (blk_cell BK110.out 2).trans rfl
             have hcz42_3 : wc.cell? ⟨gb110, 3, none⟩ = some (.int .u64 t108) := (blk_cell BK110.out 3).trans rfl
             have hfz42_0 := blk_frozen BK110.out 0
             have hfz42_1 := blk_frozen BK110.out 1
             have hfz42_2 := blk_frozen BK110.out 2
             have hfz42_3 := blk_frozen BK110.out 3
             go_wp2
             go_ret2
             exact ⟨by first | rfl | (simp [errW_none, errW_some] <;> rfl) | (simp [*, errW_none, errW_some] <;> rfl), by repeat (first | (with_reducible first | exact HB.out | apply below_alloc | apply pw_below_drewN | apply below_drew1 | refine below_set ?_ GE109.out | refine below_set ?_ GE110.out) | exact HB.out)⟩
           · rw [if_neg c39] at H
             have c39b0 : (t106 == 3) = false := beq_eq_false_iff_ne.mpr c39
             have c39b1 : (t106 != 3) = true := bne_iff_ne.mpr c39
             by_cases c43 : t106 = 0
             · rw [if_pos c43] at H
               have c43b0 : (t106 == 0) = true := beq_iff_eq.mpr c43
               have c43b1 : (t106 != 0) = false := bne_eq_false_iff_eq.mpr c43
               clear c43
               simp only [Option.some.injEq, Prod.mk.injEq] at H
               obtain ⟨rfl, rfl⟩ := H
               have hnb44 := NB109_110.out
               have hnc44 := NB110_109.out
               have hcz45_0 : wc.cell? ⟨gb109, 0, none⟩ = some (.bool t101) := (blk_cell BK109.out 0).trans rfl
               have hcz45_1 : wc.cell? ⟨gb109, 1, none⟩ = some (.int .i64 t102) := (blk_cell BK109.out 1).trans rfl
               have hcz45_2 : wc.cell? ⟨gb109, 2, none⟩ = some (.int .i64 t103) := (blk_cell BK109.out 2).trans rfl
               have hcz45_3 : wc.cell? ⟨gb109, 3, none⟩ = some (.int .u64 t104) := (blk_cell BK109.out 3).trans rfl
               have hfz45_0 := blk_frozen BK109.out 0
               have hfz45_1 := blk_frozen BK109.out 1
               have hfz45_2 := blk_frozen BK109.out 2
               have hfz45_3 := blk_frozen BK109.out 3
               have hcz46_0 : wc.cell? ⟨gb110, 0, none⟩ = some (.bool t105) := (blk_cell BK110.out 0).trans rfl
               have hcz46_1 : wc.cell? ⟨gb110, 1, none⟩ = some (.int .i64 t106) := (blk_cell BK110.out 1).trans rfl
               have hcz46_2 : wc.cell? ⟨gb110, 2, none⟩ = some (.int .i64 t107) := (blk_cell BK110.out 2).trans rfl
               have hcz46_3 : wc.cell? ⟨gb110, 3, none⟩ = some (.int .u64 t108) := (blk_cell BK110.out 3).trans rfl
               have hfz46_0 := blk_frozen BK110.out 0
               have hfz46_1 := blk_frozen BK110.out 1
               have hfz46_2 := blk_frozen BK110.out 2
               have hfz46_3 := blk_frozen BK110.out 3
               go_wp2
               go_ret2
               exact ⟨by first | rfl | (simp [errW_none, errW_some] <;> rfl) | (simp [*, errW_none, errW_some] <;> rfl), by repeat (first | (with_reducible first | exact HB.out | apply below_alloc | apply pw_below_drewN | apply below_drew1 | refine below_set ?_ GE109.out | refine below_set ?_ GE110.out) | exact HB.out)⟩
             · rw [if_neg c43] at H
               have c43b0 : (t106 == 0) = false := beq_eq_false_iff_ne.mpr c43
               have c43b1 : (t106 != 0) = true := bne_iff_ne.mpr c43
               replace H := Option.bind_eq_some_iff.mp H
               obtain ⟨⟨t115, t116, t117, t118⟩, A470, H⟩ := H
               replace H : ((wide_Shl.f t115 t116 t117 t118 128).bind fun bt119 => ((wide_Of.f t108).bind fun bt123 => ((wide_DivMod.f bt119.1 bt119.2.1 bt119.2.2.1 bt119.2.2.2 bt123.1 bt123.2.1 bt123.2.2.1 bt123.2.2.2).bind fun bt127 => ((rnd_Round.f ((Go.bits .and .u64 (Go.bits .xor .u64 a0 a1) 9223372036854775808) != 0) (wrap64 ((wrap64 (t103 - t107)) - 128)) bt127.1 bt127.2.1 bt127.2.2.1 bt127.2.2.2.1 (!(bt127.2.2.2.2.1 == 0) || (!(bt127.2.2.2.2.2.1 == 0) || (!(bt127.2.2.2.2.2.2.1 == 0) || (!(bt127.2.2.2.2.2.2.2 == 0))))) a2).bind fun bt137 => (some (bt137.1, bt137.2)))))) = some (r1, r2) := H
               have A47 := Aside0.mk A470
               clear A470
               replace H := Option.bind_eq_some_iff.mp H
               obtain ⟨⟨t119, t120, t121, t122⟩, A480, H⟩ := H
               replace H : ((wide_Of.f t108).bind fun bt123 => ((wide_DivMod.f t119 t120 t121 t122 bt123.1 bt123.2.1 bt123.2.2.1 bt123.2.2.2).bind fun bt127 => ((rnd_Round.f ((Go.bits .and .u64 (Go.bits .xor .u64 a0 a1) 9223372036854775808) != 0) (wrap64 ((wrap64 (t103 - t107)) - 128)) bt127.1 bt127.2.1 bt127.2.2.1 bt127.2.2.2.1 (!(bt127.2.2.2.2.1 == 0) || (!(bt127.2.2.2.2.2.1 == 0) || (!(bt127.2.2.2.2.2.2.1 == 0) || (!(bt127.2.2.2.2.2.2.2 == 0))))) a2).bind fun bt137 => (some (bt137.1, bt137.2))))) = some (r1, r2) := H
               have A48 := Aside0.mk A480
               clear A480
               replace H := Option.bind_eq_some_iff.mp H
               obtain ⟨⟨t123, t124, t125, t126⟩, A490, H⟩ := H
               replace H : ((wide_DivMod.f t119 t120 t121 t122 t123 t124 t125 t126).bind fun bt127 => ((rnd_Round.f ((Go.bits .and .u64 (Go.bits .xor .u64 a0 a1) 9223372036854775808) != 0) (wrap64 ((wrap64 (t103 - t107)) - 128)) bt127.1 bt127.2.1 bt127.2.2.1 bt127.2.2.2.1 (!(bt127.2.2.2.2.1 == 0) || (!(bt127.2.2.2.2.2.1 == 0) || (!(bt127.2.2.2.2.2.2.1 == 0) || (!(bt127.2.2.2.2.2.2.2 == 0))))) a2).bind fun bt137 => (some (bt137.1, bt137.2)))) = some (r1, r2) := H
               have A49 := Aside0.mk A490
               clear A490
               replace H := Option.bind_eq_some_iff.mp H
               obtain ⟨⟨t127, t128, t129, t130, t131, t132, t133, t134⟩, A500, H⟩ := H
               replace H : ((rnd_Round.f ((Go.bits .and .u64 (Go.bits .xor .u64 a0 a1) 9223372036854775808) != 0) (wrap64 ((wrap64 (t103 - t107)) - 128)) t127 t128 t129 t130 (!(t131 == 0) || (!(t132 == 0) || (!(t133 == 0) || (!(t134 == 0))))) a2).bind fun bt137 => (some (bt137.1, bt137.2))) = some (r1, r2) := H
               have A50 := Aside0.mk A500
               clear A500
               replace H := Option.bind_eq_some_iff.mp H
               obtain ⟨⟨t137, t138⟩, A510, H⟩ := H
               replace H : (some (t137, t138)) = some (r1, r2) := H
               have A51 := Aside0.mk A510
               clear A510
               simp only [Option.some.injEq, Prod.mk.injEq] at H
               obtain ⟨rfl, rfl⟩ := H
               have hnb52 := NB109_110.out
               have hnc52 := NB110_109.out
               have hcz53_0 : wc.cell? ⟨gb109, 0, none⟩ = some (.bool t101) := (blk_cell BK109.out 0).trans rfl
               have hcz53_1 : wc.cell? ⟨gb109, 1, none⟩ = some (.int .i64 t102) := (blk_cell BK109.out 1).trans rfl
               have hcz53_2 : wc.cell? ⟨gb109, 2, none⟩ = some (.int .i64 t103) := (blk_cell BK109.out 2).trans rfl
               have hcz53_3 : wc.cell? ⟨gb109, 3, none⟩ = some (.int .u64 t104) := (blk_cell BK109.out 3).trans rfl
               have hfz53_0 := blk_frozen BK109.out 0
               have hfz53_1 := blk_frozen BK109.out 1
               have hfz53_2 := blk_frozen BK109.out 2
               have hfz53_3 := blk_frozen BK109.out 3
               have hcz54_0 : wc.cell? ⟨gb110, 0, none⟩ = some (.bool t105) := (blk_cell BK110.out 0).trans rfl
               have hcz54_1 : wc.cell? ⟨gb110, 1, none⟩ = some (.int .i64 t106) := (blk_cell BK110.out 1).trans rfl
               have hcz54_2 : wc.cell? ⟨gb110, 2, none⟩ = some (.int .i64 t107) := (blk_cell BK110.out 2).trans rfl
               have hcz54_3 : wc.cell? ⟨gb110, 3, none⟩ = some (.int .u64 t108) := (blk_cell BK110.out 3).trans rfl
               have hfz54_0 := blk_frozen BK110.out 0
               have hfz54_1 := blk_frozen BK110.out 1
               have hfz54_2 := blk_frozen BK110.out 2
               have hfz54_3 := blk_frozen BK110.out 3
               try go_wp2
               have n0_ := Aside0.mk (blk_drew BK109.out)
               have n1_ := Aside0.mk (blk_drew BK110.out)
               have n2_ := Aside0.mk (below_drew1 HB.out)
               clear BK109 BK110 HB; have BK109 := n0_; have BK110 := n1_; have HB := n2_; clear n0_ n1_ n2_
               refine start_ (n := 17) (S := fun w' => w'.cell? ⟨gb109, 0, none⟩ = some (.bool t101) ∧ w'.cell? ⟨gb109, 1, none⟩ = some (.int .i64 t102) ∧ w'.cell? ⟨gb109, 2, none⟩ = some (.int .i64 t103) ∧ w'.cell? ⟨gb109, 3, none⟩ = some (.int .u64 t104) ∧ w'.cell? ⟨gb110, 0, none⟩ = some (.bool t105) ∧ w'.cell? ⟨gb110, 1, none⟩ = some (.int .i64 t106) ∧ w'.cell? ⟨gb110, 2, none⟩ = some (.int .i64 t107) ∧ w'.cell? ⟨gb110, 3, none⟩ = some (.int .u64 t108)) (ds := []) #[false, false, false, false, false, false, false, false, false, false, false, false, false, false, false, false, false] (by kernel_rfl) rfl rfl ⟨(blk_cell BK109.out 0).trans rfl, (blk_cell BK109.out 1).trans rfl, (blk_cell BK109.out 2).trans rfl, (blk_cell BK109.out 3).trans rfl, (blk_cell BK110.out 0).trans rfl, (blk_cell BK110.out 1).trans rfl, (blk_cell BK110.out 2).trans rfl, (blk_cell BK110.out 3).trans rfl⟩ (fun hHeld => ?_); refine with_tabW quot_Div.tab13 quot_Div.bits13 (fun HT_ HW_ => ?_)
               generalize wc.drew = w55 at BK109 BK110 HB hHeld ⊢
               refine pure_ (i := 0) (N := some 68) (v := ?_) (a' := ?_) #[true, false, false, false, false, false, false, false, false, false, false, false, false, false, false, false, false] rfl rfl (any_of HT_.out (by kernel_rfl)) (fun _ _ _ h => h) (Or.inl ⟨by rfl, ?_⟩) ?_ ?_
               rotate_left
               · intro w'
                 go_simp
                 with_reducible rfl
               rotate_left
               · simp only [Act.put, List.setIfInBounds_toArray, List.set_cons_zero, List.set_cons_succ, i64_w, i32_w]
                 rfl
               refine pure_ (i := 4) (N := some 72) (v := ?_) (a' := ?_) #[true, false, false, false, true, false, false, false, false, false, false, false, false, false, false, false, false] rfl rfl (any_of HT_.out (by kernel_rfl)) (fun _ _ _ h => h) (Or.inl ⟨by rfl, ?_⟩) ?_ ?_
               rotate_left
               · intro w'
                 go_simp
                 with_reducible rfl
               rotate_left
               · simp only [Act.put, List.setIfInBounds_toArray, List.set_cons_zero, List.set_cons_succ, i64_w, i32_w]
                 rfl
               refine take_ (i := 1) (N := some 69) (v := ?_) (a' := ?_) #[true, true, false, false, true, false, false, false, false, false, false, false, false, false, false, false, false] rfl rfl (take_ofW HT_.out HW_.out (by kernel_rfl)) (fun _ _ _ h => h) (Or.inl ⟨by rfl, ?_⟩) hHeld ?_ ?_
               rotate_left
               · rintro w' ⟨s0, s1, s2, s3, s4, s5, s6, s7⟩
                 go_simp
                 with_reducible rfl
               rotate_left
               · simp only [Act.put, List.setIfInBounds_toArray, List.set_cons_zero, List.set_cons_succ, i64_w, i32_w]
                 rfl
               refine take_ (i := 5) (N := some 73) (v := ?_) (a' := ?_) #[true, true, false, false, true, true, false, false, false, false, false, false, false, false, false, false, false] rfl rfl (take_ofW HT_.out HW_.out (by kernel_rfl)) (fun _ _ _ h => h) (Or.inl ⟨by rfl, ?_⟩) hHeld ?_ ?_
               rotate_left
               · rintro w' ⟨s0, s1, s2, s3, s4, s5, s6, s7⟩
                 go_simp
                 with_reducible rfl
               rotate_left
               · simp only [Act.put, List.setIfInBounds_toArray, List.set_cons_zero, List.set_cons_succ, i64_w, i32_w]
                 rfl
               refine join_ (σ := Nat × Nat) 3 #[true, true, true, true, true, true, true, true, true, true, true, true, true, true, false, false, false] (fun s_ => [(70, .agg #[.int .u64 t115, .int .u64 t116, .int .u64 t117, .int .u64 t118]), (71, .agg #[.int .u64 t119, .int .u64 t120, .int .u64 t121, .int .u64 t122]), (74, .agg #[.int .u64 t123, .int .u64 t124, .int .u64 t125, .int .u64 t126]), (75, .tuple #[.agg #[.int .u64 t127, .int .u64 t128, .int .u64 t129, .int .u64 t130], .agg #[.int .u64 t131, .int .u64 t132, .int .u64 t133, .int .u64 t134], errW none]), (11, .pointer (some ⟨s_.1, 0, none⟩)), (12, .pointer (some ⟨s_.2, 0, none⟩)), (67, .tuple #[.agg #[.int .u64 t127, .int .u64 t128, .int .u64 t129, .int .u64 t130], .agg #[.int .u64 t131, .int .u64 t132, .int .u64 t133, .int .u64 t134], errW none]), (76, .agg #[.int .u64 t127, .int .u64 t128, .int .u64 t129, .int .u64 t130]), (77, .agg #[.int .u64 t131, .int .u64 t132, .int .u64 t133, .int .u64 t134]), (78, errW none)]) (fun s_ w' => (w'.cell? ⟨gb109, 0, none⟩ = some (.bool t101) ∧ w'.cell? ⟨gb109, 1, none⟩ = some (.int .i64 t102) ∧ w'.cell? ⟨gb109, 2, none⟩ = some (.int .i64 t103) ∧ w'.cell? ⟨gb109, 3, none⟩ = some (.int .u64 t104) ∧ w'.cell? ⟨gb110, 0, none⟩ = some (.bool t105) ∧ w'.cell? ⟨gb110, 1, none⟩ = some (.int .i64 t106) ∧ w'.cell? ⟨gb110, 2, none⟩ = some (.int .i64 t107) ∧ w'.cell? ⟨gb110, 3, none⟩ = some (.int .u64 t108)) ∧ (w'.heap[gb109]? = some (.cells #[.bool t101, .int .i64 t102, .int .i64 t103, .int .u64 t104] 36 (0, 0))) ∧ (w'.heap[gb110]? = some (.cells #[.bool t105, .int .i64 t106, .int .i64 t107, .int .u64 t108] 36 (0, 0))) ∧ (w'.heap[s_.1]? = some (.cells #[.int .u64 0, .int .u64 0, .int .u64 0, .int .u64 0] 41 (0, 0))) ∧ (w'.heap[s_.2]? = some (.cells #[.int .u64 0, .int .u64 0, .int .u64 0, .int .u64 0] 41 (0, 0))) ∧ (w.heap.size ≤ s_.1) ∧ (w.heap.size ≤ s_.1) ∧ (gb109 ≠ s_.1) ∧ (s_.1 ≠ gb109) ∧ (gb110 ≠ s_.1) ∧ (s_.1 ≠ gb110) ∧ (s_.2 ≠ s_.1) ∧ (s_.1 ≠ s_.2) ∧ (w.heap.size ≤ s_.2) ∧ (w.heap.size ≤ s_.2) ∧ (gb109 ≠ s_.2) ∧ (s_.2 ≠ gb109) ∧ (gb110 ≠ s_.2) ∧ (s_.2 ≠ gb110) ∧ (Below w.heap.size w w')) ?_ ?_
               rotate_left
               · intro hJ2_3_6_7_12_13
                 refine join_ (σ := Nat) 4 #[true, true, true, true, true, true, true, true, true, true, true, true, true, false, false, false, false] (fun s_ => [(70, .agg #[.int .u64 t115, .int .u64 t116, .int .u64 t117, .int .u64 t118]), (71, .agg #[.int .u64 t119, .int .u64 t120, .int .u64 t121, .int .u64 t122]), (74, .agg #[.int .u64 t123, .int .u64 t124, .int .u64 t125, .int .u64 t126]), (75, .tuple #[.agg #[.int .u64 t127, .int .u64 t128, .int .u64 t129, .int .u64 t130], .agg #[.int .u64 t131, .int .u64 t132, .int .u64 t133, .int .u64 t134], errW none]), (11, .pointer (some ⟨s_, 0, none⟩)), (67, .tuple #[.agg #[.int .u64 t127, .int .u64 t128, .int .u64 t129, .int .u64 t130], .agg #[.int .u64 t131, .int .u64 t132, .int .u64 t133, .int .u64 t134], errW none]), (76, .agg #[.int .u64 t127, .int .u64 t128, .int .u64 t129, .int .u64 t130]), (77, .agg #[.int .u64 t131, .int .u64 t132, .int .u64 t133, .int .u64 t134]), (78, errW none)]) (fun s_ w' => (w'.cell? ⟨gb109, 0, none⟩ = some (.bool t101) ∧ w'.cell? ⟨gb109, 1, none⟩ = some (.int .i64 t102) ∧ w'.cell? ⟨gb109, 2, none⟩ = some (.int .i64 t103) ∧ w'.cell? ⟨gb109, 3, none⟩ = some (.int .u64 t104) ∧ w'.cell? ⟨gb110, 0, none⟩ = some (.bool t105) ∧ w'.cell? ⟨gb110, 1, none⟩ = some (.int .i64 t106) ∧ w'.cell? ⟨gb110, 2, none⟩ = some (.int .i64 t107) ∧ w'.cell? ⟨gb110, 3, none⟩ = some (.int .u64 t108)) ∧ (w'.heap[gb109]? = some (.cells #[.bool t101, .int .i64 t102, .int .i64 t103, .int .u64 t104] 36 (0, 0))) ∧ (w'.heap[gb110]? = some (.cells #[.bool t105, .int .i64 t106, .int .i64 t107, .int .u64 t108] 36 (0, 0))) ∧ (w'.heap[s_]? = some (.cells #[.int .u64 0, .int .u64 0, .int .u64 0, .int .u64 0] 41 (0, 0))) ∧ (w.heap.size ≤ s_) ∧ (w.heap.size ≤ s_) ∧ (gb109 ≠ s_) ∧ (s_ ≠ gb109) ∧ (gb110 ≠ s_) ∧ (s_ ≠ gb110) ∧ (Below w.heap.size w w')) ?_ ?_
                 rotate_left
                 · intro hJ2_3_6_7_12
                   refine join_ (σ := Nat) 4 #[true, true, true, true, true, true, true, true, true, true, true, true, false, true, false, false, false] (fun s_ => [(70, .agg #[.int .u64 t115, .int .u64 t116, .int .u64 t117, .int .u64 t118]), (71, .agg #[.int .u64 t119, .int .u64 t120, .int .u64 t121, .int .u64 t122]), (74, .agg #[.int .u64 t123, .int .u64 t124, .int .u64 t125, .int .u64 t126]), (75, .tuple #[.agg #[.int .u64 t127, .int .u64 t128, .int .u64 t129, .int .u64 t130], .agg #[.int .u64 t131, .int .u64 t132, .int .u64 t133, .int .u64 t134], errW none]), (12, .pointer (some ⟨s_, 0, none⟩)), (67, .tuple #[.agg #[.int .u64 t127, .int .u64 t128, .int .u64 t129, .int .u64 t130], .agg #[.int .u64 t131, .int .u64 t132, .int .u64 t133, .int .u64 t134], errW none]), (76, .agg #[.int .u64 t127, .int .u64 t128, .int .u64 t129, .int .u64 t130]), (77, .agg #[.int .u64 t131, .int .u64 t132, .int .u64 t133, .int .u64 t134]), (78, errW none)]) (fun s_ w' => (w'.cell? ⟨gb109, 0, none⟩ = some (.bool t101) ∧ w'.cell? ⟨gb109, 1, none⟩ = some (.int .i64 t102) ∧ w'.cell? ⟨gb109, 2, none⟩ = some (.int .i64 t103) ∧ w'.cell? ⟨gb109, 3, none⟩ = some (.int .u64 t104) ∧ w'.cell? ⟨gb110, 0, none⟩ = some (.bool t105) ∧ w'.cell? ⟨gb110, 1, none⟩ = some (.int .i64 t106) ∧ w'.cell? ⟨gb110, 2, none⟩ = some (.int .i64 t107) ∧ w'.cell? ⟨gb110, 3, none⟩ = some (.int .u64 t108)) ∧ (w'.heap[gb109]? = some (.cells #[.bool t101, .int .i64 t102, .int .i64 t103, .int .u64 t104] 36 (0, 0))) ∧ (w'.heap[gb110]? = some (.cells #[.bool t105, .int .i64 t106, .int .i64 t107, .int .u64 t108] 36 (0, 0))) ∧ (w'.heap[s_]? = some (.cells #[.int .u64 0, .int .u64 0, .int .u64 0, .int .u64 0] 41 (0, 0))) ∧ (w.heap.size ≤ s_) ∧ (w.heap.size ≤ s_) ∧ (gb109 ≠ s_) ∧ (s_ ≠ gb109) ∧ (gb110 ≠ s_) ∧ (s_ ≠ gb110) ∧ (Below w.heap.size w w')) ?_ ?_
                   rotate_left
                   · intro hJ2_3_6_7_13
                     refine join_ (σ := Nat × Nat) 8 #[true, true, true, true, true, true, true, false, false, false, false, false, true, true, false, false, false] (fun s_ => [(70, .agg #[.int .u64 t115, .int .u64 t116, .int .u64 t117, .int .u64 t118]), (71, .agg #[.int .u64 t119, .int .u64 t120, .int .u64 t121, .int .u64 t122]), (74, .agg #[.int .u64 t123, .int .u64 t124, .int .u64 t125, .int .u64 t126]), (11, .pointer (some ⟨s_.1, 0, none⟩)), (12, .pointer (some ⟨s_.2, 0, none⟩))]) (fun s_ w' => (w'.cell? ⟨gb109, 0, none⟩ = some (.bool t101) ∧ w'.cell? ⟨gb109, 1, none⟩ = some (.int .i64 t102) ∧ w'.cell? ⟨gb109, 2, none⟩ = some (.int .i64 t103) ∧ w'.cell? ⟨gb109, 3, none⟩ = some (.int .u64 t104) ∧ w'.cell? ⟨gb110, 0, none⟩ = some (.bool t105) ∧ w'.cell? ⟨gb110, 1, none⟩ = some (.int .i64 t106) ∧ w'.cell? ⟨gb110, 2, none⟩ = some (.int .i64 t107) ∧ w'.cell? ⟨gb110, 3, none⟩ = some (.int .u64 t108)) ∧ (w'.heap[gb109]? = some (.cells #[.bool t101, .int .i64 t102, .int .i64 t103, .int .u64 t104] 36 (0, 0))) ∧ (w'.heap[gb110]? = some (.cells #[.bool t105, .int .i64 t106, .int .i64 t107, .int .u64 t108] 36 (0, 0))) ∧ (w'.heap[s_.1]? = some (.cells #[.int .u64 0, .int .u64 0, .int .u64 0, .int .u64 0] 41 (0, 0))) ∧ (w'.heap[s_.2]? = some (.cells #[.int .u64 0, .int .u64 0, .int .u64 0, .int .u64 0] 41 (0, 0))) ∧ (w.heap.size ≤ s_.1) ∧ (w.heap.size ≤ s_.1) ∧ (gb109 ≠ s_.1) ∧ (s_.1 ≠ gb109) ∧ (gb110 ≠ s_.1) ∧ (s_.1 ≠ gb110) ∧ (s_.2 ≠ s_.1) ∧ (s_.1 ≠ s_.2) ∧ (w.heap.size ≤ s_.2) ∧ (w.heap.size ≤ s_.2) ∧ (gb109 ≠ s_.2) ∧ (s_.2 ≠ gb109) ∧ (gb110 ≠ s_.2) ∧ (s_.2 ≠ gb110) ∧ (Below w.heap.size w w')) ?_ ?_
                     rotate_left
                     · intro hJ2_3_6_12_13
                       refine join_ (σ := Unit) 5 #[true, true, true, true, true, true, true, true, true, true, true, true, false, false, false, false, false] (fun s_ => [(70, .agg #[.int .u64 t115, .int .u64 t116, .int .u64 t117, .int .u64 t118]), (71, .agg #[.int .u64 t119, .int .u64 t120, .int .u64 t121, .int .u64 t122]), (74, .agg #[.int .u64 t123, .int .u64 t124, .int .u64 t125, .int .u64 t126]), (75, .tuple #[.agg #[.int .u64 t127, .int .u64 t128, .int .u64 t129, .int .u64 t130], .agg #[.int .u64 t131, .int .u64 t132, .int .u64 t133, .int .u64 t134], errW none]), (67, .tuple #[.agg #[.int .u64 t127, .int .u64 t128, .int .u64 t129, .int .u64 t130], .agg #[.int .u64 t131, .int .u64 t132, .int .u64 t133, .int .u64 t134], errW none]), (76, .agg #[.int .u64 t127, .int .u64 t128, .int .u64 t129, .int .u64 t130]), (77, .agg #[.int .u64 t131, .int .u64 t132, .int .u64 t133, .int .u64 t134]), (78, errW none)]) (fun s_ w' => (w'.cell? ⟨gb109, 0, none⟩ = some (.bool t101) ∧ w'.cell? ⟨gb109, 1, none⟩ = some (.int .i64 t102) ∧ w'.cell? ⟨gb109, 2, none⟩ = some (.int .i64 t103) ∧ w'.cell? ⟨gb109, 3, none⟩ = some (.int .u64 t104) ∧ w'.cell? ⟨gb110, 0, none⟩ = some (.bool t105) ∧ w'.cell? ⟨gb110, 1, none⟩ = some (.int .i64 t106) ∧ w'.cell? ⟨gb110, 2, none⟩ = some (.int .i64 t107) ∧ w'.cell? ⟨gb110, 3, none⟩ = some (.int .u64 t108)) ∧ (w'.heap[gb109]? = some (.cells #[.bool t101, .int .i64 t102, .int .i64 t103, .int .u64 t104] 36 (0, 0))) ∧ (w'.heap[gb110]? = some (.cells #[.bool t105, .int .i64 t106, .int .i64 t107, .int .u64 t108] 36 (0, 0))) ∧ (Below w.heap.size w w')) ?_ ?_
                       rotate_left
                       · intro hJ2_3_6_7
                         refine join_ (σ := Nat) 9 #[true, true, true, true, true, true, true, false, false, false, false, false, true, false, false, false, false] (fun s_ => [(70, .agg #[.int .u64 t115, .int .u64 t116, .int .u64 t117, .int .u64 t118]), (71, .agg #[.int .u64 t119, .int .u64 t120, .int .u64 t121, .int .u64 t122]), (74, .agg #[.int .u64 t123, .int .u64 t124, .int .u64 t125, .int .u64 t126]), (11, .pointer (some ⟨s_, 0, none⟩))]) (fun s_ w' => (w'.cell? ⟨gb109, 0, none⟩ = some (.bool t101) ∧ w'.cell? ⟨gb109, 1, none⟩ = some (.int .i64 t102) ∧ w'.cell? ⟨gb109, 2, none⟩ = some (.int .i64 t103) ∧ w'.cell? ⟨gb109, 3, none⟩ = some (.int .u64 t104) ∧ w'.cell? ⟨gb110, 0, none⟩ = some (.bool t105) ∧ w'.cell? ⟨gb110, 1, none⟩ = some (.int .i64 t106) ∧ w'.cell? ⟨gb110, 2, none⟩ = some (.int .i64 t107) ∧ w'.cell? ⟨gb110, 3, none⟩ = some (.int .u64 t108)) ∧ (w'.heap[gb109]? = some (.cells #[.bool t101, .int .i64 t102, .int .i64 t103, .int .u64 t104] 36 (0, 0))) ∧ (w'.heap[gb110]? = some (.cells #[.bool t105, .int .i64 t106, .int .i64 t107, .int .u64 t108] 36 (0, 0))) ∧ (w'.heap[s_]? = some (.cells #[.int .u64 0, .int .u64 0, .int .u64 0, .int .u64 0] 41 (0, 0))) ∧ (w.heap.size ≤ s_) ∧ (w.heap.size ≤ s_) ∧ (gb109 ≠ s_) ∧ (s_ ≠ gb109) ∧ (gb110 ≠ s_) ∧ (s_ ≠ gb110) ∧ (Below w.heap.size w w')) ?_ ?_
                         rotate_left
                         · intro hJ2_3_6_12
                           refine join_ (σ := Nat) 9 #[true, true, true, true, true, true, true, false, false, false, false, false, false, true, false, false, false] (fun s_ => [(70, .agg #[.int .u64 t115, .int .u64 t116, .int .u64 t117, .int .u64 t118]), (71, .agg #[.int .u64 t119, .int .u64 t120, .int .u64 t121, .int .u64 t122]), (74, .agg #[.int .u64 t123, .int .u64 t124, .int .u64 t125, .int .u64 t126]), (12, .pointer (some ⟨s_, 0, none⟩))]) (fun s_ w' => (w'.cell? ⟨gb109, 0, none⟩ = some (.bool t101) ∧ w'.cell? ⟨gb109, 1, none⟩ = some (.int .i64 t102) ∧ w'.cell? ⟨gb109, 2, none⟩ = some (.int .i64 t103) ∧ w'.cell? ⟨gb109, 3, none⟩ = some (.int .u64 t104) ∧ w'.cell? ⟨gb110, 0, none⟩ = some (.bool t105) ∧ w'.cell? ⟨gb110, 1, none⟩ = some (.int .i64 t106) ∧ w'.cell? ⟨gb110, 2, none⟩ = some (.int .i64 t107) ∧ w'.cell? ⟨gb110, 3, none⟩ = some (.int .u64 t108)) ∧ (w'.heap[gb109]? = some (.cells #[.bool t101, .int .i64 t102, .int .i64 t103, .int .u64 t104] 36 (0, 0))) ∧ (w'.heap[gb110]? = some (.cells #[.bool t105, .int .i64 t106, .int .i64 t107, .int .u64 t108] 36 (0, 0))) ∧ (w'.heap[s_]? = some (.cells #[.int .u64 0, .int .u64 0, .int .u64 0, .int .u64 0] 41 (0, 0))) ∧ (w.heap.size ≤ s_) ∧ (w.heap.size ≤ s_) ∧ (gb109 ≠ s_) ∧ (s_ ≠ gb109) ∧ (gb110 ≠ s_) ∧ (s_ ≠ gb110) ∧ (Below w.heap.size w w')) ?_ ?_
                           rotate_left
                           · intro hJ2_3_6_13
                             refine join_ (σ := Nat × Nat) 9 #[true, true, true, true, true, true, false, false, false, false, false, false, true, true, false, false, false] (fun s_ => [(70, .agg #[.int .u64 t115, .int .u64 t116, .int .u64 t117, .int .u64 t118]), (71, .agg #[.int .u64 t119, .int .u64 t120, .int .u64 t121, .int .u64 t122]), (11, .pointer (some ⟨s_.1, 0, none⟩)), (12, .pointer (some ⟨s_.2, 0, none⟩))]) (fun s_ w' => (w'.cell? ⟨gb109, 0, none⟩ = some (.bool t101) ∧ w'.cell? ⟨gb109, 1, none⟩ = some (.int .i64 t102) ∧ w'.cell? ⟨gb109, 2, none⟩ = some (.int .i64 t103) ∧ w'.cell? ⟨gb109, 3, none⟩ = some (.int .u64 t104) ∧ w'.cell? ⟨gb110, 0, none⟩ = some (.bool t105) ∧ w'.cell? ⟨gb110, 1, none⟩ = some (.int .i64 t106) ∧ w'.cell? ⟨gb110, 2, none⟩ = some (.int .i64 t107) ∧ w'.cell? ⟨gb110, 3, none⟩ = some (.int .u64 t108)) ∧ (w'.heap[gb109]? = some (.cells #[.bool t101, .int .i64 t102, .int .i64 t103, .int .u64 t104] 36 (0, 0))) ∧ (w'.heap[gb110]? = some (.cells #[.bool t105, .int .i64 t106, .int .i64 t107, .int .u64 t108] 36 (0, 0))) ∧ (w'.heap[s_.1]? = some (.cells #[.int .u64 0, .int .u64 0, .int .u64 0, .int .u64 0] 41 (0, 0))) ∧ (w'.heap[s_.2]? = some (.cells #[.int .u64 0, .int .u64 0, .int .u64 0, .int .u64 0] 41 (0, 0))) ∧ (w.heap.size ≤ s_.1) ∧ (w.heap.size ≤ s_.1) ∧ (gb109 ≠ s_.1) ∧ (s_.1 ≠ gb109) ∧ (gb110 ≠ s_.1) ∧ (s_.1 ≠ gb110) ∧ (s_.2 ≠ s_.1) ∧ (s_.1 ≠ s_.2) ∧ (w.heap.size ≤ s_.2) ∧ (w.heap.size ≤ s_.2) ∧ (gb109 ≠ s_.2) ∧ (s_.2 ≠ gb109) ∧ (gb110 ≠ s_.2) ∧ (s_.2 ≠ gb110) ∧ (Below w.heap.size w w')) ?_ ?_
                             rotate_left
                             · intro hJ2_3_12_13
                               refine join_ (σ := Unit) 10 #[true, true, true, true, true, true, true, false, false, false, false, false, false, false, false, false, false] (fun s_ => [(70, .agg #[.int .u64 t115, .int .u64 t116, .int .u64 t117, .int .u64 t118]), (71, .agg #[.int .u64 t119, .int .u64 t120, .int .u64 t121, .int .u64 t122]), (74, .agg #[.int .u64 t123, .int .u64 t124, .int .u64 t125, .int .u64 t126])]) (fun s_ w' => (w'.cell? ⟨gb109, 0, none⟩ = some (.bool t101) ∧ w'.cell? ⟨gb109, 1, none⟩ = some (.int .i64 t102) ∧ w'.cell? ⟨gb109, 2, none⟩ = some (.int .i64 t103) ∧ w'.cell? ⟨gb109, 3, none⟩ = some (.int .u64 t104) ∧ w'.cell? ⟨gb110, 0, none⟩ = some (.bool t105) ∧ w'.cell? ⟨gb110, 1, none⟩ = some (.int .i64 t106) ∧ w'.cell? ⟨gb110, 2, none⟩ = some (.int .i64 t107) ∧ w'.cell? ⟨gb110, 3, none⟩ = some (.int .u64 t108)) ∧ (w'.heap[gb109]? = some (.cells #[.bool t101, .int .i64 t102, .int .i64 t103, .int .u64 t104] 36 (0, 0))) ∧ (w'.heap[gb110]? = some (.cells #[.bool t105, .int .i64 t106, .int .i64 t107, .int .u64 t108] 36 (0, 0))) ∧ (Below w.heap.size w w')) ?_ ?_
                               rotate_left
                               · intro hJ2_3_6
                                 refine join_ (σ := Nat) 10 #[true, true, true, true, true, true, false, false, false, false, false, false, true, false, false, false, false] (fun s_ => [(70, .agg #[.int .u64 t115, .int .u64 t116, .int .u64 t117, .int .u64 t118]), (71, .agg #[.int .u64 t119, .int .u64 t120, .int .u64 t121, .int .u64 t122]), (11, .pointer (some ⟨s_, 0, none⟩))]) (fun s_ w' => (w'.cell? ⟨gb109, 0, none⟩ = some (.bool t101) ∧ w'.cell? ⟨gb109, 1, none⟩ = some (.int .i64 t102) ∧ w'.cell? ⟨gb109, 2, none⟩ = some (.int .i64 t103) ∧ w'.cell? ⟨gb109, 3, none⟩ = some (.int .u64 t104) ∧ w'.cell? ⟨gb110, 0, none⟩ = some (.bool t105) ∧ w'.cell? ⟨gb110, 1, none⟩ = some (.int .i64 t106) ∧ w'.cell? ⟨gb110, 2, none⟩ = some (.int .i64 t107) ∧ w'.cell? ⟨gb110, 3, none⟩ = some (.int .u64 t108)) ∧ (w'.heap[gb109]? = some (.cells #[.bool t101, .int .i64 t102, .int .i64 t103, .int .u64 t104] 36 (0, 0))) ∧ (w'.heap[gb110]? = some (.cells #[.bool t105, .int .i64 t106, .int .i64 t107, .int .u64 t108] 36 (0, 0))) ∧ (w'.heap[s_]? = some (.cells #[.int .u64 0, .int .u64 0, .int .u64 0, .int .u64 0] 41 (0, 0))) ∧ (w.heap.size ≤ s_) ∧ (w.heap.size ≤ s_) ∧ (gb109 ≠ s_) ∧ (s_ ≠ gb109) ∧ (gb110 ≠ s_) ∧ (s_ ≠ gb110) ∧ (Below w.heap.size w w')) ?_ ?_
                                 rotate_left
                                 · intro hJ2_3_12
                                   refine join_ (σ := Nat) 10 #[true, true, true, true, true, true, false, false, false, false, false, false, false, true, false, false, false] (fun s_ => [(70, .agg #[.int .u64 t115, .int .u64 t116, .int .u64 t117, .int .u64 t118]), (71, .agg #[.int .u64 t119, .int .u64 t120, .int .u64 t121, .int .u64 t122]), (12, .pointer (some ⟨s_, 0, none⟩))]) (fun s_ w' => (w'.cell? ⟨gb109, 0, none⟩ = some (.bool t101) ∧ w'.cell? ⟨gb109, 1, none⟩ = some (.int .i64 t102) ∧ w'.cell? ⟨gb109, 2, none⟩ = some (.int .i64 t103) ∧ w'.cell? ⟨gb109, 3, none⟩ = some (.int .u64 t104) ∧ w'.cell? ⟨gb110, 0, none⟩ = some (.bool t105) ∧ w'.cell? ⟨gb110, 1, none⟩ = some (.int .i64 t106) ∧ w'.cell? ⟨gb110, 2, none⟩ = some (.int .i64 t107) ∧ w'.cell? ⟨gb110, 3, none⟩ = some (.int .u64 t108)) ∧ (w'.heap[gb109]? = some (.cells #[.bool t101, .int .i64 t102, .int .i64 t103, .int .u64 t104] 36 (0, 0))) ∧ (w'.heap[gb110]? = some (.cells #[.bool t105, .int .i64 t106, .int .i64 t107, .int .u64 t108] 36 (0, 0))) ∧ (w'.heap[s_]? = some (.cells #[.int .u64 0, .int .u64 0, .int .u64 0, .int .u64 0] 41 (0, 0))) ∧ (w.heap.size ≤ s_) ∧ (w.heap.size ≤ s_) ∧ (gb109 ≠ s_) ∧ (s_ ≠ gb109) ∧ (gb110 ≠ s_) ∧ (s_ ≠ gb110) ∧ (Below w.heap.size w w')) ?_ ?_
                                   rotate_left
                                   · intro hJ2_3_13
                                     refine join_ (σ := Nat × Nat) 10 #[true, true, true, false, true, true, false, false, false, false, false, false, true, true, false, false, false] (fun s_ => [(70, .agg #[.int .u64 t115, .int .u64 t116, .int .u64 t117, .int .u64 t118]), (11, .pointer (some ⟨s_.1, 0, none⟩)), (12, .pointer (some ⟨s_.2, 0, none⟩))]) (fun s_ w' => (w'.cell? ⟨gb109, 0, none⟩ = some (.bool t101) ∧ w'.cell? ⟨gb109, 1, none⟩ = some (.int .i64 t102) ∧ w'.cell? ⟨gb109, 2, none⟩ = some (.int .i64 t103) ∧ w'.cell? ⟨gb109, 3, none⟩ = some (.int .u64 t104) ∧ w'.cell? ⟨gb110, 0, none⟩ = some (.bool t105) ∧ w'.cell? ⟨gb110, 1, none⟩ = some (.int .i64 t106) ∧ w'.cell? ⟨gb110, 2, none⟩ = some (.int .i64 t107) ∧ w'.cell? ⟨gb110, 3, none⟩ = some (.int .u64 t108)) ∧ (w'.heap[gb109]? = some (.cells #[.bool t101, .int .i64 t102, .int .i64 t103, .int .u64 t104] 36 (0, 0))) ∧ (w'.heap[gb110]? = some (.cells #[.bool t105, .int .i64 t106, .int .i64 t107, .int .u64 t108] 36 (0, 0))) ∧ (w'.heap[s_.1]? = some (.cells #[.int .u64 0, .int .u64 0, .int .u64 0, .int .u64 0] 41 (0, 0))) ∧ (w'.heap[s_.2]? = some (.cells #[.int .u64 0, .int .u64 0, .int .u64 0, .int .u64 0] 41 (0, 0))) ∧ (w.heap.size ≤ s_.1) ∧ (w.heap.size ≤ s_.1) ∧ (gb109 ≠ s_.1) ∧ (s_.1 ≠ gb109) ∧ (gb110 ≠ s_.1) ∧ (s_.1 ≠ gb110) ∧ (s_.2 ≠ s_.1) ∧ (s_.1 ≠ s_.2) ∧ (w.heap.size ≤ s_.2) ∧ (w.heap.size ≤ s_.2) ∧ (gb109 ≠ s_.2) ∧ (s_.2 ≠ gb109) ∧ (gb110 ≠ s_.2) ∧ (s_.2 ≠ gb110) ∧ (Below w.heap.size w w')) ?_ ?_
                                     rotate_left
                                     · intro hJ2_12_13
                                       refine join_ (σ := Unit) 11 #[true, true, true, true, true, true, false, false, false, false, false, false, false, false, false, false, false] (fun s_ => [(70, .agg #[.int .u64 t115, .int .u64 t116, .int .u64 t117, .int .u64 t118]), (71, .agg #[.int .u64 t119, .int .u64 t120, .int .u64 t121, .int .u64 t122])]) (fun s_ w' => (w'.cell? ⟨gb109, 0, none⟩ = some (.bool t101) ∧ w'.cell? ⟨gb109, 1, none⟩ = some (.int .i64 t102) ∧ w'.cell? ⟨gb109, 2, none⟩ = some (.int .i64 t103) ∧ w'.cell? ⟨gb109, 3, none⟩ = some (.int .u64 t104) ∧ w'.cell? ⟨gb110, 0, none⟩ = some (.bool t105) ∧ w'.cell? ⟨gb110, 1, none⟩ = some (.int .i64 t106) ∧ w'.cell? ⟨gb110, 2, none⟩ = some (.int .i64 t107) ∧ w'.cell? ⟨gb110, 3, none⟩ = some (.int .u64 t108)) ∧ (w'.heap[gb109]? = some (.cells #[.bool t101, .int .i64 t102, .int .i64 t103, .int .u64 t104] 36 (0, 0))) ∧ (w'.heap[gb110]? = some (.cells #[.bool t105, .int .i64 t106, .int .i64 t107, .int .u64 t108] 36 (0, 0))) ∧ (Below w.heap.size w w')) ?_ ?_
                                       rotate_left
                                       · intro hJ2_3
                                         refine join_ (σ := Nat) 11 #[true, true, true, false, true, true, false, false, false, false, false, false, true, false, false, false, false] (fun s_ => [(70, .agg #[.int .u64 t115, .int .u64 t116, .int .u64 t117, .int .u64 t118]), (11, .pointer (some ⟨s_, 0, none⟩))]) (fun s_ w' => (w'.cell? ⟨gb109, 0, none⟩ = some (.bool t101) ∧ w'.cell? ⟨gb109, 1, none⟩ = some (.int .i64 t102) ∧ w'.cell? ⟨gb109, 2, none⟩ = some (.int .i64 t103) ∧ w'.cell? ⟨gb109, 3, none⟩ = some (.int .u64 t104) ∧ w'.cell? ⟨gb110, 0, none⟩ = some (.bool t105) ∧ w'.cell? ⟨gb110, 1, none⟩ = some (.int .i64 t106) ∧ w'.cell? ⟨gb110, 2, none⟩ = some (.int .i64 t107) ∧ w'.cell? ⟨gb110, 3, none⟩ = some (.int .u64 t108)) ∧ (w'.heap[gb109]? = some (.cells #[.bool t101, .int .i64 t102, .int .i64 t103, .int .u64 t104] 36 (0, 0))) ∧ (w'.heap[gb110]? = some (.cells #[.bool t105, .int .i64 t106, .int .i64 t107, .int .u64 t108] 36 (0, 0))) ∧ (w'.heap[s_]? = some (.cells #[.int .u64 0, .int .u64 0, .int .u64 0, .int .u64 0] 41 (0, 0))) ∧ (w.heap.size ≤ s_) ∧ (w.heap.size ≤ s_) ∧ (gb109 ≠ s_) ∧ (s_ ≠ gb109) ∧ (gb110 ≠ s_) ∧ (s_ ≠ gb110) ∧ (Below w.heap.size w w')) ?_ ?_
                                         rotate_left
                                         · intro hJ2_12
                                           refine join_ (σ := Nat) 11 #[true, true, true, false, true, true, false, false, false, false, false, false, false, true, false, false, false] (fun s_ => [(70, .agg #[.int .u64 t115, .int .u64 t116, .int .u64 t117, .int .u64 t118]), (12, .pointer (some ⟨s_, 0, none⟩))]) (fun s_ w' => (w'.cell? ⟨gb109, 0, none⟩ = some (.bool t101) ∧ w'.cell? ⟨gb109, 1, none⟩ = some (.int .i64 t102) ∧ w'.cell? ⟨gb109, 2, none⟩ = some (.int .i64 t103) ∧ w'.cell? ⟨gb109, 3, none⟩ = some (.int .u64 t104) ∧ w'.cell? ⟨gb110, 0, none⟩ = some (.bool t105) ∧ w'.cell? ⟨gb110, 1, none⟩ = some (.int .i64 t106) ∧ w'.cell? ⟨gb110, 2, none⟩ = some (.int .i64 t107) ∧ w'.cell? ⟨gb110, 3, none⟩ = some (.int .u64 t108)) ∧ (w'.heap[gb109]? = some (.cells #[.bool t101, .int .i64 t102, .int .i64 t103, .int .u64 t104] 36 (0, 0))) ∧ (w'.heap[gb110]? = some (.cells #[.bool t105, .int .i64 t106, .int .i64 t107, .int .u64 t108] 36 (0, 0))) ∧ (w'.heap[s_]? = some (.cells #[.int .u64 0, .int .u64 0, .int .u64 0, .int .u64 0] 41 (0, 0))) ∧ (w.heap.size ≤ s_) ∧ (w.heap.size ≤ s_) ∧ (gb109 ≠ s_) ∧ (s_ ≠ gb109) ∧ (gb110 ≠ s_) ∧ (s_ ≠ gb110) ∧ (Below w.heap.size w w')) ?_ ?_
                                           rotate_left
                                           · intro hJ2_13
                                             refine join_ (σ := Nat × Nat) 11 #[true, true, false, false, true, true, false, false, false, false, false, false, true, true, false, false, false] (fun s_ => [(11, .pointer (some ⟨s_.1, 0, none⟩)), (12, .pointer (some ⟨s_.2, 0, none⟩))]) (fun s_ w' => (w'.cell? ⟨gb109, 0, none⟩ = some (.bool t101) ∧ w'.cell? ⟨gb109, 1, none⟩ = some (.int .i64 t102) ∧ w'.cell? ⟨gb109, 2, none⟩ = some (.int .i64 t103) ∧ w'.cell? ⟨gb109, 3, none⟩ = some (.int .u64 t104) ∧ w'.cell? ⟨gb110, 0, none⟩ = some (.bool t105) ∧ w'.cell? ⟨gb110, 1, none⟩ = some (.int .i64 t106) ∧ w'.cell? ⟨gb110, 2, none⟩ = some (.int .i64 t107) ∧ w'.cell? ⟨gb110, 3, none⟩ = some (.int .u64 t108)) ∧ (w'.heap[gb109]? = some (.cells #[.bool t101, .int .i64 t102, .int .i64 t103, .int .u64 t104] 36 (0, 0))) ∧ (w'.heap[gb110]? = some (.cells #[.bool t105, .int .i64 t106, .int .i64 t107, .int .u64 t108] 36 (0, 0))) ∧ (w'.heap[s_.1]? = some (.cells #[.int .u64 0, .int .u64 0, .int .u64 0, .int .u64 0] 41 (0, 0))) ∧ (w'.heap[s_.2]? = some (.cells #[.int .u64 0, .int .u64 0, .int .u64 0, .int .u64 0] 41 (0, 0))) ∧ (w.heap.size ≤ s_.1) ∧ (w.heap.size ≤ s_.1) ∧ (gb109 ≠ s_.1) ∧ (s_.1 ≠ gb109) ∧ (gb110 ≠ s_.1) ∧ (s_.1 ≠ gb110) ∧ (s_.2 ≠ s_.1) ∧ (s_.1 ≠ s_.2) ∧ (w.heap.size ≤ s_.2) ∧ (w.heap.size ≤ s_.2) ∧ (gb109 ≠ s_.2) ∧ (s_.2 ≠ gb109) ∧ (gb110 ≠ s_.2) ∧ (s_.2 ≠ gb110) ∧ (Below w.heap.size w w')) ?_ ?_
                                             rotate_left
                                             · intro hJ12_13
                                               refine join_ (σ := Unit) 12 #[true, true, true, false, true, true, false, false, false, false, false, false, false, false, false, false, false] (fun s_ => [(70, .agg #[.int .u64 t115, .int .u64 t116, .int .u64 t117, .int .u64 t118])]) (fun s_ w' => (w'.cell? ⟨gb109, 0, none⟩ = some (.bool t101) ∧ w'.cell? ⟨gb109, 1, none⟩ = some (.int .i64 t102) ∧ w'.cell? ⟨gb109, 2, none⟩ = some (.int .i64 t103) ∧ w'.cell? ⟨gb109, 3, none⟩ = some (.int .u64 t104) ∧ w'.cell? ⟨gb110, 0, none⟩ = some (.bool t105) ∧ w'.cell? ⟨gb110, 1, none⟩ = some (.int .i64 t106) ∧ w'.cell? ⟨gb110, 2, none⟩ = some (.int .i64 t107) ∧ w'.cell? ⟨gb110, 3, none⟩ = some (.int .u64 t108)) ∧ (w'.heap[gb109]? = some (.cells #[.bool t101, .int .i64 t102, .int .i64 t103, .int .u64 t104] 36 (0, 0))) ∧ (w'.heap[gb110]? = some (.cells #[.bool t105, .int .i64 t106, .int .i64 t107, .int .u64 t108] 36 (0, 0))) ∧ (Below w.heap.size w w')) ?_ ?_
                                               rotate_left
                                               · intro hJ2
                                                 refine join_ (σ := Nat) 12 #[true, true, false, false, true, true, false, false, false, false, false, false, true, false, false, false, false] (fun s_ => [(11, .pointer (some ⟨s_, 0, none⟩))]) (fun s_ w' => (w'.cell? ⟨gb109, 0, none⟩ = some (.bool t101) ∧ w'.cell? ⟨gb109, 1, none⟩ = some (.int .i64 t102) ∧ w'.cell? ⟨gb109, 2, none⟩ = some (.int .i64 t103) ∧ w'.cell? ⟨gb109, 3, none⟩ = some (.int .u64 t104) ∧ w'.cell? ⟨gb110, 0, none⟩ = some (.bool t105) ∧ w'.cell? ⟨gb110, 1, none⟩ = some (.int .i64 t106) ∧ w'.cell? ⟨gb110, 2, none⟩ = some (.int .i64 t107) ∧ w'.cell? ⟨gb110, 3, none⟩ = some (.int .u64 t108)) ∧ (w'.heap[gb109]? = some (.cells #[.bool t101, .int .i64 t102, .int .i64 t103, .int .u64 t104] 36 (0, 0))) ∧ (w'.heap[gb110]? = some (.cells #[.bool t105, .int .i64 t106, .int .i64 t107, .int .u64 t108] 36 (0, 0))) ∧ (w'.heap[s_]? = some (.cells #[.int .u64 0, .int .u64 0, .int .u64 0, .int .u64 0] 41 (0, 0))) ∧ (w.heap.size ≤ s_) ∧ (w.heap.size ≤ s_) ∧ (gb109 ≠ s_) ∧ (s_ ≠ gb109) ∧ (gb110 ≠ s_) ∧ (s_ ≠ gb110) ∧ (Below w.heap.size w w')) ?_ ?_
                                                 rotate_left
                                                 · intro hJ12
                                                   refine join_ (σ := Nat) 12 #[true, true, false, false, true, true, false, false, false, false, false, false, false, true, false, false, false] (fun s_ => [(12, .pointer (some ⟨s_, 0, none⟩))]) (fun s_ w' => (w'.cell? ⟨gb109, 0, none⟩ = some (.bool t101) ∧ w'.cell? ⟨gb109, 1, none⟩ = some (.int .i64 t102) ∧ w'.cell? ⟨gb109, 2, none⟩ = some (.int .i64 t103) ∧ w'.cell? ⟨gb109, 3, none⟩ = some (.int .u64 t104) ∧ w'.cell? ⟨gb110, 0, none⟩ = some (.bool t105) ∧ w'.cell? ⟨gb110, 1, none⟩ = some (.int .i64 t106) ∧ w'.cell? ⟨gb110, 2, none⟩ = some (.int .i64 t107) ∧ w'.cell? ⟨gb110, 3, none⟩ = some (.int .u64 t108)) ∧ (w'.heap[gb109]? = some (.cells #[.bool t101, .int .i64 t102, .int .i64 t103, .int .u64 t104] 36 (0, 0))) ∧ (w'.heap[gb110]? = some (.cells #[.bool t105, .int .i64 t106, .int .i64 t107, .int .u64 t108] 36 (0, 0))) ∧ (w'.heap[s_]? = some (.cells #[.int .u64 0, .int .u64 0, .int .u64 0, .int .u64 0] 41 (0, 0))) ∧ (w.heap.size ≤ s_) ∧ (w.heap.size ≤ s_) ∧ (gb109 ≠ s_) ∧ (s_ ≠ gb109) ∧ (gb110 ≠ s_) ∧ (s_ ≠ gb110) ∧ (Below w.heap.size w w')) ?_ ?_
                                                   rotate_left
                                                   · intro hJ13
                                                     refine three_ (i := 2) (j := 12) (k := 13) (Ni := some 70) (Nj := some 11) (Nk := some 12) #[true, true, true, false, true, true, false, false, false, false, false, false, false, false, false, false, false] #[true, true, false, false, true, true, false, false, false, false, false, false, true, false, false, false, false] #[true, true, false, false, true, true, false, false, false, false, false, false, false, true, false, false, false] rfl rfl rfl rfl rfl rfl (three_of HT_.out (by kernel_rfl)) (by decide) (by decide) (by decide) (fun K hK => ?_) (fun K hK => ?_) (fun K hK => ?_)
                                                     · skip
                                                       refine goes_ Try.func19 (by kernel_rfl) rfl #[.int .u64 t104] (by rfl) rfl rfl (by (try simp only [List.map_toArray, List.map_cons, List.map_nil]); first | done | rfl | (simp only [List.length_drop, List.length_take]; rfl)) ?_
                                                       with_reducible refine (wide_Of.calls t104 t115 t116 t117 t118 _ A47.out).mono ?_
                                                       rintro e w56 ⟨rfl, hb⟩
                                                       refine ⟨_, rfl, ?_⟩
                                                       have n0_ := Aside0.mk (blk_below BK109.out hb)
                                                       have n1_ := Aside0.mk (blk_below BK110.out hb)
                                                       have n2_ := Aside0.mk (below_step HB.out hb)
                                                       clear BK109 BK110 HB; have BK109 := n0_; have BK110 := n1_; have HB := n2_; clear n0_ n1_ n2_
                                                       (try clear hb)
                                                       (try clear hb2)
                                                       (try clear hk)
                                                       (try clear hi)
                                                       refine hK.out _ _ ⟨(blk_cell BK109.out 0).trans rfl, (blk_cell BK109.out 1).trans rfl, (blk_cell BK109.out 2).trans rfl, (blk_cell BK109.out 3).trans rfl, (blk_cell BK110.out 0).trans rfl, (blk_cell BK110.out 1).trans rfl, (blk_cell BK110.out 2).trans rfl, (blk_cell BK110.out 3).trans rfl⟩ (fun hHeld => ?_)
                                                       clear hK K
                                                       refine norm_ (a' := ?_) ?_ ?_
                                                       rotate_left
                                                       · show Act.put _ (some 70) _ = _
                                                         simp only [Act.put, List.setIfInBounds_toArray, List.set_cons_zero, List.set_cons_succ, i64_w, i32_w]
                                                         rfl
                                                       exact norm_ (by simp only [putAll, Act.put, List.setIfInBounds_toArray, List.set_cons_zero, List.set_cons_succ] <;> rfl) (hJ2 () _ ⟨hHeld, BK109.out, BK110.out, HB.out⟩)
                                                     · skip
                                                       refine box_step ?hg (N := 11) ?hd (cs := #[.int .u64 0, .int .u64 0, .int .u64 0, .int .u64 0]) (t := 41) ?hr ?_; (case hd => rfl); (case hg => rfl); (case hr => first | (go_simp; done) | (go_simp; rfl))
                                                       intro gb135 hg w56 hbox hb
                                                       have n0_ := Aside0.mk (blk_below BK109.out hb)
                                                       have n1_ := Aside0.mk (blk_below BK110.out hb)
                                                       have n2_ := Aside0.mk (below_step HB.out hb)
                                                       have n3_ := Aside0.mk (hbox)
                                                       have n4_ := Aside0.mk ((by rw [hg]; exact (below_size HB.out) : w.heap.size ≤ gb135))
                                                       have n5_ := Aside0.mk ((by rw [hg]; exact (below_size HB.out) : w.heap.size ≤ gb135))
                                                       have n6_ := Aside0.mk ((by rw [hg]; exact Nat.ne_of_lt (blk_lt BK109.out) : gb109 ≠ gb135))
                                                       have n7_ := Aside0.mk ((by rw [hg]; exact Nat.ne_of_gt (blk_lt BK109.out) : gb135 ≠ gb109))
                                                       have n8_ := Aside0.mk ((by rw [hg]; exact Nat.ne_of_lt (blk_lt BK110.out) : gb110 ≠ gb135))
                                                       have n9_ := Aside0.mk ((by rw [hg]; exact Nat.ne_of_gt (blk_lt BK110.out) : gb135 ≠ gb110))
                                                       clear BK109 BK110 HB; have BK109 := n0_; have BK110 := n1_; have HB := n2_; have BK135 := n3_; have GW135 := n4_; have GE135 := n5_; have NB109_135 := n6_; have NB135_109 := n7_; have NB110_135 := n8_; have NB135_110 := n9_; clear n0_ n1_ n2_ n3_ n4_ n5_ n6_ n7_ n8_ n9_ hb hbox hg
                                                       refine hK.out _ _ ⟨(blk_cell BK109.out 0).trans rfl, (blk_cell BK109.out 1).trans rfl, (blk_cell BK109.out 2).trans rfl, (blk_cell BK109.out 3).trans rfl, (blk_cell BK110.out 0).trans rfl, (blk_cell BK110.out 1).trans rfl, (blk_cell BK110.out 2).trans rfl, (blk_cell BK110.out 3).trans rfl⟩ (fun hHeld => ?_)
                                                       clear hK K
                                                       refine norm_ (a' := ?_) ?_ ?_
                                                       rotate_left
                                                       · show Act.put _ (some 11) _ = _
                                                         simp only [Act.put, List.setIfInBounds_toArray, List.set_cons_zero, List.set_cons_succ, i64_w, i32_w]
                                                         rfl
                                                       exact norm_ (by simp only [putAll, Act.put, List.setIfInBounds_toArray, List.set_cons_zero, List.set_cons_succ] <;> rfl) (hJ12 (gb135) _ ⟨hHeld, BK109.out, BK110.out, BK135.out, GW135.out, GE135.out, NB109_135.out, NB135_109.out, NB110_135.out, NB135_110.out, HB.out⟩)
                                                     · skip
                                                       refine box_step ?hg (N := 12) ?hd (cs := #[.int .u64 0, .int .u64 0, .int .u64 0, .int .u64 0]) (t := 41) ?hr ?_; (case hd => rfl); (case hg => rfl); (case hr => first | (go_simp; done) | (go_simp; rfl))
                                                       intro gb136 hg w56 hbox hb
                                                       have n0_ := Aside0.mk (blk_below BK109.out hb)
                                                       have n1_ := Aside0.mk (blk_below BK110.out hb)
                                                       have n2_ := Aside0.mk (below_step HB.out hb)
                                                       have n3_ := Aside0.mk (hbox)
                                                       have n4_ := Aside0.mk ((by rw [hg]; exact (below_size HB.out) : w.heap.size ≤ gb136))
                                                       have n5_ := Aside0.mk ((by rw [hg]; exact (below_size HB.out) : w.heap.size ≤ gb136))
                                                       have n6_ := Aside0.mk ((by rw [hg]; exact Nat.ne_of_lt (blk_lt BK109.out) : gb109 ≠ gb136))
                                                       have n7_ := Aside0.mk ((by rw [hg]; exact Nat.ne_of_gt (blk_lt BK109.out) : gb136 ≠ gb109))
                                                       have n8_ := Aside0.mk ((by rw [hg]; exact Nat.ne_of_lt (blk_lt BK110.out) : gb110 ≠ gb136))
                                                       have n9_ := Aside0.mk ((by rw [hg]; exact Nat.ne_of_gt (blk_lt BK110.out) : gb136 ≠ gb110))
                                                       clear BK109 BK110 HB; have BK109 := n0_; have BK110 := n1_; have HB := n2_; have BK136 := n3_; have GW136 := n4_; have GE136 := n5_; have NB109_136 := n6_; have NB136_109 := n7_; have NB110_136 := n8_; have NB136_110 := n9_; clear n0_ n1_ n2_ n3_ n4_ n5_ n6_ n7_ n8_ n9_ hb hbox hg
                                                       refine hK.out _ _ ⟨(blk_cell BK109.out 0).trans rfl, (blk_cell BK109.out 1).trans rfl, (blk_cell BK109.out 2).trans rfl, (blk_cell BK109.out 3).trans rfl, (blk_cell BK110.out 0).trans rfl, (blk_cell BK110.out 1).trans rfl, (blk_cell BK110.out 2).trans rfl, (blk_cell BK110.out 3).trans rfl⟩ (fun hHeld => ?_)
                                                       clear hK K
                                                       refine norm_ (a' := ?_) ?_ ?_
                                                       rotate_left
                                                       · show Act.put _ (some 12) _ = _
                                                         simp only [Act.put, List.setIfInBounds_toArray, List.set_cons_zero, List.set_cons_succ, i64_w, i32_w]
                                                         rfl
                                                       exact norm_ (by simp only [putAll, Act.put, List.setIfInBounds_toArray, List.set_cons_zero, List.set_cons_succ] <;> rfl) (hJ13 (gb136) _ ⟨hHeld, BK109.out, BK110.out, BK136.out, GW136.out, GE136.out, NB109_136.out, NB136_109.out, NB110_136.out, NB136_110.out, HB.out⟩)
                                                   · skip
                                                     rintro gb136 w57 ⟨hS_, h0_, h1_, h2_, h3_, h4_, h5_, h6_, h7_, h8_, h9_⟩
                                                     have n0_ : Aside0 (w57.heap[gb109]? = some (.cells #[.bool t101, .int .i64 t102, .int .i64 t103, .int .u64 t104] 36 (0, 0))) := ⟨h0_⟩
                                                     have n1_ : Aside0 (w57.heap[gb110]? = some (.cells #[.bool t105, .int .i64 t106, .int .i64 t107, .int .u64 t108] 36 (0, 0))) := ⟨h1_⟩
                                                     have n2_ : Aside0 (w57.heap[gb136]? = some (.cells #[.int .u64 0, .int .u64 0, .int .u64 0, .int .u64 0] 41 (0, 0))) := ⟨h2_⟩
                                                     have n3_ : Aside0 (w.heap.size ≤ gb136) := ⟨h3_⟩
                                                     have n4_ : Aside0 (w.heap.size ≤ gb136) := ⟨h4_⟩
                                                     have n5_ : Aside0 (gb109 ≠ gb136) := ⟨h5_⟩
                                                     have n6_ : Aside0 (gb136 ≠ gb109) := ⟨h6_⟩
                                                     have n7_ : Aside0 (gb110 ≠ gb136) := ⟨h7_⟩
                                                     have n8_ : Aside0 (gb136 ≠ gb110) := ⟨h8_⟩
                                                     have n9_ : Aside0 (Below w.heap.size w w57) := ⟨h9_⟩
                                                     clear BK109 BK110 HB h0_ h1_ h2_ h3_ h4_ h5_ h6_ h7_ h8_ h9_; have BK109 := n0_; have BK110 := n1_; have BK136 := n2_; have GW136 := n3_; have GE136 := n4_; have NB109_136 := n5_; have NB136_109 := n6_; have NB110_136 := n7_; have NB136_110 := n8_; have HB := n9_; clear n0_ n1_ n2_ n3_ n4_ n5_ n6_ n7_ n8_ n9_
                                                     have hHeld : w57.cell? ⟨gb109, 0, none⟩ = some (.bool t101) ∧ w57.cell? ⟨gb109, 1, none⟩ = some (.int .i64 t102) ∧ w57.cell? ⟨gb109, 2, none⟩ = some (.int .i64 t103) ∧ w57.cell? ⟨gb109, 3, none⟩ = some (.int .u64 t104) ∧ w57.cell? ⟨gb110, 0, none⟩ = some (.bool t105) ∧ w57.cell? ⟨gb110, 1, none⟩ = some (.int .i64 t106) ∧ w57.cell? ⟨gb110, 2, none⟩ = some (.int .i64 t107) ∧ w57.cell? ⟨gb110, 3, none⟩ = some (.int .u64 t108) := hS_
                                                     refine norm_ (a' := ?_) ?_ ?_
                                                     rotate_left
                                                     · simp only [putAll, Act.put, List.setIfInBounds_toArray, List.set_cons_zero, List.set_cons_succ]
                                                       rfl
                                                     refine two_ (i := 2) (j := 12) (Ni := some 70) (Nj := some 11) #[true, true, true, false, true, true, false, false, false, false, false, false, false, true, false, false, false] #[true, true, false, false, true, true, false, false, false, false, false, false, true, true, false, false, false] rfl rfl rfl rfl (two_of HT_.out (by kernel_rfl)) (by decide) (by decide) (fun K hK => ?_) (fun K hK => ?_)
                                                     · skip
                                                       refine goes_ Try.func19 (by kernel_rfl) rfl #[.int .u64 t104] (by rfl) rfl rfl (by (try simp only [List.map_toArray, List.map_cons, List.map_nil]); first | done | rfl | (simp only [List.length_drop, List.length_take]; rfl)) ?_
                                                       with_reducible refine (wide_Of.calls t104 t115 t116 t117 t118 _ A47.out).mono ?_
                                                       rintro e w58 ⟨rfl, hb⟩
                                                       refine ⟨_, rfl, ?_⟩
                                                       have n0_ := Aside0.mk (blk_below BK109.out hb)
                                                       have n1_ := Aside0.mk (blk_below BK110.out hb)
                                                       have n2_ := Aside0.mk (blk_below BK136.out hb)
                                                       have n3_ := Aside0.mk (below_step HB.out hb)
                                                       clear BK109 BK110 BK136 HB; have BK109 := n0_; have BK110 := n1_; have BK136 := n2_; have HB := n3_; clear n0_ n1_ n2_ n3_
                                                       (try clear hb)
                                                       (try clear hb2)
                                                       (try clear hk)
                                                       (try clear hi)
                                                       refine hK.out _ _ ⟨(blk_cell BK109.out 0).trans rfl, (blk_cell BK109.out 1).trans rfl, (blk_cell BK109.out 2).trans rfl, (blk_cell BK109.out 3).trans rfl, (blk_cell BK110.out 0).trans rfl, (blk_cell BK110.out 1).trans rfl, (blk_cell BK110.out 2).trans rfl, (blk_cell BK110.out 3).trans rfl⟩ (fun hHeld => ?_)
                                                       clear hK K
                                                       refine norm_ (a' := ?_) ?_ ?_
                                                       rotate_left
                                                       · show Act.put _ (some 70) _ = _
                                                         simp only [Act.put, List.setIfInBounds_toArray, List.set_cons_zero, List.set_cons_succ, i64_w, i32_w]
                                                         rfl
                                                       exact norm_ (by simp only [putAll, Act.put, List.setIfInBounds_toArray, List.set_cons_zero, List.set_cons_succ] <;> rfl) (hJ2_13 (gb136) _ ⟨hHeld, BK109.out, BK110.out, BK136.out, GW136.out, GE136.out, NB109_136.out, NB136_109.out, NB110_136.out, NB136_110.out, HB.out⟩)
                                                     · skip
                                                       refine box_step ?hg (N := 11) ?hd (cs := #[.int .u64 0, .int .u64 0, .int .u64 0, .int .u64 0]) (t := 41) ?hr ?_; (case hd => rfl); (case hg => rfl); (case hr => first | (go_simp; done) | (go_simp; rfl))
                                                       intro gb135 hg w58 hbox hb
                                                       have n0_ := Aside0.mk (blk_below BK109.out hb)
                                                       have n1_ := Aside0.mk (blk_below BK110.out hb)
                                                       have n2_ := Aside0.mk (blk_below BK136.out hb)
                                                       have n3_ := Aside0.mk (below_step HB.out hb)
                                                       have n4_ := Aside0.mk (hbox)
                                                       have n5_ := Aside0.mk ((by rw [hg]; exact (below_size HB.out) : w.heap.size ≤ gb135))
                                                       have n6_ := Aside0.mk ((by rw [hg]; exact (below_size HB.out) : w.heap.size ≤ gb135))
                                                       have n7_ := Aside0.mk ((by rw [hg]; exact Nat.ne_of_lt (blk_lt BK109.out) : gb109 ≠ gb135))
                                                       have n8_ := Aside0.mk ((by rw [hg]; exact Nat.ne_of_gt (blk_lt BK109.out) : gb135 ≠ gb109))
                                                       have n9_ := Aside0.mk ((by rw [hg]; exact Nat.ne_of_lt (blk_lt BK110.out) : gb110 ≠ gb135))
                                                       have n10_ := Aside0.mk ((by rw [hg]; exact Nat.ne_of_gt (blk_lt BK110.out) : gb135 ≠ gb110))
                                                       have n11_ := Aside0.mk ((by rw [hg]; exact Nat.ne_of_lt (blk_lt BK136.out) : gb136 ≠ gb135))
                                                       have n12_ := Aside0.mk ((by rw [hg]; exact Nat.ne_of_gt (blk_lt BK136.out) : gb135 ≠ gb136))
                                                       clear BK109 BK110 BK136 HB; have BK109 := n0_; have BK110 := n1_; have BK136 := n2_; have HB := n3_; have BK135 := n4_; have GW135 := n5_; have GE135 := n6_; have NB109_135 := n7_; have NB135_109 := n8_; have NB110_135 := n9_; have NB135_110 := n10_; have NB136_135 := n11_; have NB135_136 := n12_; clear n0_ n1_ n2_ n3_ n4_ n5_ n6_ n7_ n8_ n9_ n10_ n11_ n12_ hb hbox hg
                                                       refine hK.out _ _ ⟨(blk_cell BK109.out 0).trans rfl, (blk_cell BK109.out 1).trans rfl, (blk_cell BK109.out 2).trans rfl, (blk_cell BK109.out 3).trans rfl, (blk_cell BK110.out 0).trans rfl, (blk_cell BK110.out 1).trans rfl, (blk_cell BK110.out 2).trans rfl, (blk_cell BK110.out 3).trans rfl⟩ (fun hHeld => ?_)
                                                       clear hK K
                                                       refine norm_ (a' := ?_) ?_ ?_
                                                       rotate_left
                                                       · show Act.put _ (some 11) _ = _
                                                         simp only [Act.put, List.setIfInBounds_toArray, List.set_cons_zero, List.set_cons_succ, i64_w, i32_w]
                                                         rfl
                                                       exact norm_ (by simp only [putAll, Act.put, List.setIfInBounds_toArray, List.set_cons_zero, List.set_cons_succ] <;> rfl) (hJ12_13 (gb135, gb136) _ ⟨hHeld, BK109.out, BK110.out, BK135.out, BK136.out, GW135.out, GE135.out, NB109_135.out, NB135_109.out, NB110_135.out, NB135_110.out, NB136_135.out, NB135_136.out, GW136.out, GE136.out, NB109_136.out, NB136_109.out, NB110_136.out, NB136_110.out, HB.out⟩)
                                                 · skip
                                                   rintro gb135 w57 ⟨hS_, h0_, h1_, h2_, h3_, h4_, h5_, h6_, h7_, h8_, h9_⟩
                                                   have n0_ : Aside0 (w57.heap[gb109]? = some (.cells #[.bool t101, .int .i64 t102, .int .i64 t103, .int .u64 t104] 36 (0, 0))) := ⟨h0_⟩
                                                   have n1_ : Aside0 (w57.heap[gb110]? = some (.cells #[.bool t105, .int .i64 t106, .int .i64 t107, .int .u64 t108] 36 (0, 0))) := ⟨h1_⟩
                                                   have n2_ : Aside0 (w57.heap[gb135]? = some (.cells #[.int .u64 0, .int .u64 0, .int .u64 0, .int .u64 0] 41 (0, 0))) := ⟨h2_⟩
                                                   have n3_ : Aside0 (w.heap.size ≤ gb135) := ⟨h3_⟩
                                                   have n4_ : Aside0 (w.heap.size ≤ gb135) := ⟨h4_⟩
                                                   have n5_ : Aside0 (gb109 ≠ gb135) := ⟨h5_⟩
                                                   have n6_ : Aside0 (gb135 ≠ gb109) := ⟨h6_⟩
                                                   have n7_ : Aside0 (gb110 ≠ gb135) := ⟨h7_⟩
                                                   have n8_ : Aside0 (gb135 ≠ gb110) := ⟨h8_⟩
                                                   have n9_ : Aside0 (Below w.heap.size w w57) := ⟨h9_⟩
                                                   clear BK109 BK110 HB h0_ h1_ h2_ h3_ h4_ h5_ h6_ h7_ h8_ h9_; have BK109 := n0_; have BK110 := n1_; have BK135 := n2_; have GW135 := n3_; have GE135 := n4_; have NB109_135 := n5_; have NB135_109 := n6_; have NB110_135 := n7_; have NB135_110 := n8_; have HB := n9_; clear n0_ n1_ n2_ n3_ n4_ n5_ n6_ n7_ n8_ n9_
                                                   have hHeld : w57.cell? ⟨gb109, 0, none⟩ = some (.bool t101) ∧ w57.cell? ⟨gb109, 1, none⟩ = some (.int .i64 t102) ∧ w57.cell? ⟨gb109, 2, none⟩ = some (.int .i64 t103) ∧ w57.cell? ⟨gb109, 3, none⟩ = some (.int .u64 t104) ∧ w57.cell? ⟨gb110, 0, none⟩ = some (.bool t105) ∧ w57.cell? ⟨gb110, 1, none⟩ = some (.int .i64 t106) ∧ w57.cell? ⟨gb110, 2, none⟩ = some (.int .i64 t107) ∧ w57.cell? ⟨gb110, 3, none⟩ = some (.int .u64 t108) := hS_
                                                   refine norm_ (a' := ?_) ?_ ?_
                                                   rotate_left
                                                   · simp only [putAll, Act.put, List.setIfInBounds_toArray, List.set_cons_zero, List.set_cons_succ]
                                                     rfl
                                                   refine two_ (i := 2) (j := 13) (Ni := some 70) (Nj := some 12) #[true, true, true, false, true, true, false, false, false, false, false, false, true, false, false, false, false] #[true, true, false, false, true, true, false, false, false, false, false, false, true, true, false, false, false] rfl rfl rfl rfl (two_of HT_.out (by kernel_rfl)) (by decide) (by decide) (fun K hK => ?_) (fun K hK => ?_)
                                                   · skip
                                                     refine goes_ Try.func19 (by kernel_rfl) rfl #[.int .u64 t104] (by rfl) rfl rfl (by (try simp only [List.map_toArray, List.map_cons, List.map_nil]); first | done | rfl | (simp only [List.length_drop, List.length_take]; rfl)) ?_
                                                     with_reducible refine (wide_Of.calls t104 t115 t116 t117 t118 _ A47.out).mono ?_
                                                     rintro e w58 ⟨rfl, hb⟩
                                                     refine ⟨_, rfl, ?_⟩
                                                     have n0_ := Aside0.mk (blk_below BK109.out hb)
                                                     have n1_ := Aside0.mk (blk_below BK110.out hb)
                                                     have n2_ := Aside0.mk (blk_below BK135.out hb)
                                                     have n3_ := Aside0.mk (below_step HB.out hb)
                                                     clear BK109 BK110 BK135 HB; have BK109 := n0_; have BK110 := n1_; have BK135 := n2_; have HB := n3_; clear n0_ n1_ n2_ n3_
                                                     (try clear hb)
                                                     (try clear hb2)
                                                     (try clear hk)
                                                     (try clear hi)
                                                     refine hK.out _ _ ⟨(blk_cell BK109.out 0).trans rfl, (blk_cell BK109.out 1).trans rfl, (blk_cell BK109.out 2).trans rfl, (blk_cell BK109.out 3).trans rfl, (blk_cell BK110.out 0).trans rfl, (blk_cell BK110.out 1).trans rfl, (blk_cell BK110.out 2).trans rfl, (blk_cell BK110.out 3).trans rfl⟩ (fun hHeld => ?_)
                                                     clear hK K
                                                     refine norm_ (a' := ?_) ?_ ?_
                                                     rotate_left
                                                     · show Act.put _ (some 70) _ = _
                                                       simp only [Act.put, List.setIfInBounds_toArray, List.set_cons_zero, List.set_cons_succ, i64_w, i32_w]
                                                       rfl
                                                     exact norm_ (by simp only [putAll, Act.put, List.setIfInBounds_toArray, List.set_cons_zero, List.set_cons_succ] <;> rfl) (hJ2_12 (gb135) _ ⟨hHeld, BK109.out, BK110.out, BK135.out, GW135.out, GE135.out, NB109_135.out, NB135_109.out, NB110_135.out, NB135_110.out, HB.out⟩)
                                                   · skip
                                                     refine box_step ?hg (N := 12) ?hd (cs := #[.int .u64 0, .int .u64 0, .int .u64 0, .int .u64 0]) (t := 41) ?hr ?_; (case hd => rfl); (case hg => rfl); (case hr => first | (go_simp; done) | (go_simp; rfl))
                                                     intro gb136 hg w58 hbox hb
                                                     have n0_ := Aside0.mk (blk_below BK109.out hb)
                                                     have n1_ := Aside0.mk (blk_below BK110.out hb)
                                                     have n2_ := Aside0.mk (blk_below BK135.out hb)
                                                     have n3_ := Aside0.mk (below_step HB.out hb)
                                                     have n4_ := Aside0.mk (hbox)
                                                     have n5_ := Aside0.mk ((by rw [hg]; exact (below_size HB.out) : w.heap.size ≤ gb136))
                                                     have n6_ := Aside0.mk ((by rw [hg]; exact (below_size HB.out) : w.heap.size ≤ gb136))
                                                     have n7_ := Aside0.mk ((by rw [hg]; exact Nat.ne_of_lt (blk_lt BK109.out) : gb109 ≠ gb136))
                                                     have n8_ := Aside0.mk ((by rw [hg]; exact Nat.ne_of_gt (blk_lt BK109.out) : gb136 ≠ gb109))
                                                     have n9_ := Aside0.mk ((by rw [hg]; exact Nat.ne_of_lt (blk_lt BK110.out) : gb110 ≠ gb136))
                                                     have n10_ := Aside0.mk ((by rw [hg]; exact Nat.ne_of_gt (blk_lt BK110.out) : gb136 ≠ gb110))
                                                     have n11_ := Aside0.mk ((by rw [hg]; exact Nat.ne_of_lt (blk_lt BK135.out) : gb135 ≠ gb136))
                                                     have n12_ := Aside0.mk ((by rw [hg]; exact Nat.ne_of_gt (blk_lt BK135.out) : gb136 ≠ gb135))
                                                     clear BK109 BK110 BK135 HB; have BK109 := n0_; have BK110 := n1_; have BK135 := n2_; have HB := n3_; have BK136 := n4_; have GW136 := n5_; have GE136 := n6_; have NB109_136 := n7_; have NB136_109 := n8_; have NB110_136 := n9_; have NB136_110 := n10_; have NB135_136 := n11_; have NB136_135 := n12_; clear n0_ n1_ n2_ n3_ n4_ n5_ n6_ n7_ n8_ n9_ n10_ n11_ n12_ hb hbox hg
                                                     refine hK.out _ _ ⟨(blk_cell BK109.out 0).trans rfl, (blk_cell BK109.out 1).trans rfl, (blk_cell BK109.out 2).trans rfl, (blk_cell BK109.out 3).trans rfl, (blk_cell BK110.out 0).trans rfl, (blk_cell BK110.out 1).trans rfl, (blk_cell BK110.out 2).trans rfl, (blk_cell BK110.out 3).trans rfl⟩ (fun hHeld => ?_)
                                                     clear hK K
                                                     refine norm_ (a' := ?_) ?_ ?_
                                                     rotate_left
                                                     · show Act.put _ (some 12) _ = _
                                                       simp only [Act.put, List.setIfInBounds_toArray, List.set_cons_zero, List.set_cons_succ, i64_w, i32_w]
                                                       rfl
                                                     exact norm_ (by simp only [putAll, Act.put, List.setIfInBounds_toArray, List.set_cons_zero, List.set_cons_succ] <;> rfl) (hJ12_13 (gb135, gb136) _ ⟨hHeld, BK109.out, BK110.out, BK135.out, BK136.out, GW135.out, GE135.out, NB109_135.out, NB135_109.out, NB110_135.out, NB135_110.out, NB136_135.out, NB135_136.out, GW136.out, GE136.out, NB109_136.out, NB136_109.out, NB110_136.out, NB136_110.out, HB.out⟩)
                                               · skip
                                                 rintro _ w57 ⟨hS_, h0_, h1_, h2_⟩
                                                 have n0_ : Aside0 (w57.heap[gb109]? = some (.cells #[.bool t101, .int .i64 t102, .int .i64 t103, .int .u64 t104] 36 (0, 0))) := ⟨h0_⟩
                                                 have n1_ : Aside0 (w57.heap[gb110]? = some (.cells #[.bool t105, .int .i64 t106, .int .i64 t107, .int .u64 t108] 36 (0, 0))) := ⟨h1_⟩
                                                 have n2_ : Aside0 (Below w.heap.size w w57) := ⟨h2_⟩
                                                 clear BK109 BK110 HB h0_ h1_ h2_; have BK109 := n0_; have BK110 := n1_; have HB := n2_; clear n0_ n1_ n2_
                                                 have hHeld : w57.cell? ⟨gb109, 0, none⟩ = some (.bool t101) ∧ w57.cell? ⟨gb109, 1, none⟩ = some (.int .i64 t102) ∧ w57.cell? ⟨gb109, 2, none⟩ = some (.int .i64 t103) ∧ w57.cell? ⟨gb109, 3, none⟩ = some (.int .u64 t104) ∧ w57.cell? ⟨gb110, 0, none⟩ = some (.bool t105) ∧ w57.cell? ⟨gb110, 1, none⟩ = some (.int .i64 t106) ∧ w57.cell? ⟨gb110, 2, none⟩ = some (.int .i64 t107) ∧ w57.cell? ⟨gb110, 3, none⟩ = some (.int .u64 t108) := hS_
                                                 refine norm_ (a' := ?_) ?_ ?_
                                                 rotate_left
                                                 · simp only [putAll, Act.put, List.setIfInBounds_toArray, List.set_cons_zero, List.set_cons_succ]
                                                   rfl
                                                 refine three_ (i := 3) (j := 12) (k := 13) (Ni := some 71) (Nj := some 11) (Nk := some 12) #[true, true, true, true, true, true, false, false, false, false, false, false, false, false, false, false, false] #[true, true, true, false, true, true, false, false, false, false, false, false, true, false, false, false, false] #[true, true, true, false, true, true, false, false, false, false, false, false, false, true, false, false, false] rfl rfl rfl rfl rfl rfl (three_of HT_.out (by kernel_rfl)) (by decide) (by decide) (by decide) (fun K hK => ?_) (fun K hK => ?_) (fun K hK => ?_)
                                                 · skip
                                                   refine goes_ Try.func18 (by kernel_rfl) rfl #[.agg #[.int .u64 t115, .int .u64 t116, .int .u64 t117, .int .u64 t118], .int .i64 128] (by rfl) rfl rfl (by (try simp only [List.map_toArray, List.map_cons, List.map_nil]); first | done | rfl | (simp only [List.length_drop, List.length_take]; rfl)) ?_
                                                   with_reducible refine (wide_Shl.calls t115 t116 t117 t118 128 t119 t120 t121 t122 _ A48.out).mono ?_
                                                   rintro e w58 ⟨rfl, hb⟩
                                                   refine ⟨_, rfl, ?_⟩
                                                   have n0_ := Aside0.mk (blk_below BK109.out hb)
                                                   have n1_ := Aside0.mk (blk_below BK110.out hb)
                                                   have n2_ := Aside0.mk (below_step HB.out hb)
                                                   clear BK109 BK110 HB; have BK109 := n0_; have BK110 := n1_; have HB := n2_; clear n0_ n1_ n2_
                                                   (try clear hb)
                                                   (try clear hb2)
                                                   (try clear hk)
                                                   (try clear hi)
                                                   refine hK.out _ _ ⟨(blk_cell BK109.out 0).trans rfl, (blk_cell BK109.out 1).trans rfl, (blk_cell BK109.out 2).trans rfl, (blk_cell BK109.out 3).trans rfl, (blk_cell BK110.out 0).trans rfl, (blk_cell BK110.out 1).trans rfl, (blk_cell BK110.out 2).trans rfl, (blk_cell BK110.out 3).trans rfl⟩ (fun hHeld => ?_)
                                                   clear hK K
                                                   refine norm_ (a' := ?_) ?_ ?_
                                                   rotate_left
                                                   · show Act.put _ (some 71) _ = _
                                                     simp only [Act.put, List.setIfInBounds_toArray, List.set_cons_zero, List.set_cons_succ, i64_w, i32_w]
                                                     rfl
                                                   exact norm_ (by simp only [putAll, Act.put, List.setIfInBounds_toArray, List.set_cons_zero, List.set_cons_succ] <;> rfl) (hJ2_3 () _ ⟨hHeld, BK109.out, BK110.out, HB.out⟩)
                                                 · skip
                                                   refine box_step ?hg (N := 11) ?hd (cs := #[.int .u64 0, .int .u64 0, .int .u64 0, .int .u64 0]) (t := 41) ?hr ?_; (case hd => rfl); (case hg => rfl); (case hr => first | (go_simp; done) | (go_simp; rfl))
                                                   intro gb135 hg w58 hbox hb
                                                   have n0_ := Aside0.mk (blk_below BK109.out hb)
                                                   have n1_ := Aside0.mk (blk_below BK110.out hb)
                                                   have n2_ := Aside0.mk (below_step HB.out hb)
                                                   have n3_ := Aside0.mk (hbox)
                                                   have n4_ := Aside0.mk ((by rw [hg]; exact (below_size HB.out) : w.heap.size ≤ gb135))
                                                   have n5_ := Aside0.mk ((by rw [hg]; exact (below_size HB.out) : w.heap.size ≤ gb135))
                                                   have n6_ := Aside0.mk ((by rw [hg]; exact Nat.ne_of_lt (blk_lt BK109.out) : gb109 ≠ gb135))
                                                   have n7_ := Aside0.mk ((by rw [hg]; exact Nat.ne_of_gt (blk_lt BK109.out) : gb135 ≠ gb109))
                                                   have n8_ := Aside0.mk ((by rw [hg]; exact Nat.ne_of_lt (blk_lt BK110.out) : gb110 ≠ gb135))
                                                   have n9_ := Aside0.mk ((by rw [hg]; exact Nat.ne_of_gt (blk_lt BK110.out) : gb135 ≠ gb110))
                                                   clear BK109 BK110 HB; have BK109 := n0_; have BK110 := n1_; have HB := n2_; have BK135 := n3_; have GW135 := n4_; have GE135 := n5_; have NB109_135 := n6_; have NB135_109 := n7_; have NB110_135 := n8_; have NB135_110 := n9_; clear n0_ n1_ n2_ n3_ n4_ n5_ n6_ n7_ n8_ n9_ hb hbox hg
                                                   refine hK.out _ _ ⟨(blk_cell BK109.out 0).trans rfl, (blk_cell BK109.out 1).trans rfl, (blk_cell BK109.out 2).trans rfl, (blk_cell BK109.out 3).trans rfl, (blk_cell BK110.out 0).trans rfl, (blk_cell BK110.out 1).trans rfl, (blk_cell BK110.out 2).trans rfl, (blk_cell BK110.out 3).trans rfl⟩ (fun hHeld => ?_)
                                                   clear hK K
                                                   refine norm_ (a' := ?_) ?_ ?_
                                                   rotate_left
                                                   · show Act.put _ (some 11) _ = _
                                                     simp only [Act.put, List.setIfInBounds_toArray, List.set_cons_zero, List.set_cons_succ, i64_w, i32_w]
                                                     rfl
                                                   exact norm_ (by simp only [putAll, Act.put, List.setIfInBounds_toArray, List.set_cons_zero, List.set_cons_succ] <;> rfl) (hJ2_12 (gb135) _ ⟨hHeld, BK109.out, BK110.out, BK135.out, GW135.out, GE135.out, NB109_135.out, NB135_109.out, NB110_135.out, NB135_110.out, HB.out⟩)
                                                 · skip
                                                   refine box_step ?hg (N := 12) ?hd (cs := #[.int .u64 0, .int .u64 0, .int .u64 0, .int .u64 0]) (t := 41) ?hr ?_; (case hd => rfl); (case hg => rfl); (case hr => first | (go_simp; done) | (go_simp; rfl))
                                                   intro gb136 hg w58 hbox hb
                                                   have n0_ := Aside0.mk (blk_below BK109.out hb)
                                                   have n1_ := Aside0.mk (blk_below BK110.out hb)
                                                   have n2_ := Aside0.mk (below_step HB.out hb)
                                                   have n3_ := Aside0.mk (hbox)
                                                   have n4_ := Aside0.mk ((by rw [hg]; exact (below_size HB.out) : w.heap.size ≤ gb136))
                                                   have n5_ := Aside0.mk ((by rw [hg]; exact (below_size HB.out) : w.heap.size ≤ gb136))
                                                   have n6_ := Aside0.mk ((by rw [hg]; exact Nat.ne_of_lt (blk_lt BK109.out) : gb109 ≠ gb136))
                                                   have n7_ := Aside0.mk ((by rw [hg]; exact Nat.ne_of_gt (blk_lt BK109.out) : gb136 ≠ gb109))
                                                   have n8_ := Aside0.mk ((by rw [hg]; exact Nat.ne_of_lt (blk_lt BK110.out) : gb110 ≠ gb136))
                                                   have n9_ := Aside0.mk ((by rw [hg]; exact Nat.ne_of_gt (blk_lt BK110.out) : gb136 ≠ gb110))
                                                   clear BK109 BK110 HB; have BK109 := n0_; have BK110 := n1_; have HB := n2_; have BK136 := n3_; have GW136 := n4_; have GE136 := n5_; have NB109_136 := n6_; have NB136_109 := n7_; have NB110_136 := n8_; have NB136_110 := n9_; clear n0_ n1_ n2_ n3_ n4_ n5_ n6_ n7_ n8_ n9_ hb hbox hg
                                                   refine hK.out _ _ ⟨(blk_cell BK109.out 0).trans rfl, (blk_cell BK109.out 1).trans rfl, (blk_cell BK109.out 2).trans rfl, (blk_cell BK109.out 3).trans rfl, (blk_cell BK110.out 0).trans rfl, (blk_cell BK110.out 1).trans rfl, (blk_cell BK110.out 2).trans rfl, (blk_cell BK110.out 3).trans rfl⟩ (fun hHeld => ?_)
                                                   clear hK K
                                                   refine norm_ (a' := ?_) ?_ ?_
                                                   rotate_left
                                                   · show Act.put _ (some 12) _ = _
                                                     simp only [Act.put, List.setIfInBounds_toArray, List.set_cons_zero, List.set_cons_succ, i64_w, i32_w]
                                                     rfl
                                                   exact norm_ (by simp only [putAll, Act.put, List.setIfInBounds_toArray, List.set_cons_zero, List.set_cons_succ] <;> rfl) (hJ2_13 (gb136) _ ⟨hHeld, BK109.out, BK110.out, BK136.out, GW136.out, GE136.out, NB109_136.out, NB136_109.out, NB110_136.out, NB136_110.out, HB.out⟩)
                                             · skip
                                               rintro ⟨gb135, gb136⟩ w58 ⟨hS_, h0_, h1_, h2_, h3_, h4_, h5_, h6_, h7_, h8_, h9_, h10_, h11_, h12_, h13_, h14_, h15_, h16_, h17_, h18_⟩
                                               have n0_ : Aside0 (w58.heap[gb109]? = some (.cells #[.bool t101, .int .i64 t102, .int .i64 t103, .int .u64 t104] 36 (0, 0))) := ⟨h0_⟩
                                               have n1_ : Aside0 (w58.heap[gb110]? = some (.cells #[.bool t105, .int .i64 t106, .int .i64 t107, .int .u64 t108] 36 (0, 0))) := ⟨h1_⟩
                                               have n2_ : Aside0 (w58.heap[gb135]? = some (.cells #[.int .u64 0, .int .u64 0, .int .u64 0, .int .u64 0] 41 (0, 0))) := ⟨h2_⟩
                                               have n3_ : Aside0 (w58.heap[gb136]? = some (.cells #[.int .u64 0, .int .u64 0, .int .u64 0, .int .u64 0] 41 (0, 0))) := ⟨h3_⟩
                                               have n4_ : Aside0 (w.heap.size ≤ gb135) := ⟨h4_⟩
                                               have n5_ : Aside0 (w.heap.size ≤ gb135) := ⟨h5_⟩
                                               have n6_ : Aside0 (gb109 ≠ gb135) := ⟨h6_⟩
                                               have n7_ : Aside0 (gb135 ≠ gb109) := ⟨h7_⟩
                                               have n8_ : Aside0 (gb110 ≠ gb135) := ⟨h8_⟩
                                               have n9_ : Aside0 (gb135 ≠ gb110) := ⟨h9_⟩
                                               have n10_ : Aside0 (gb136 ≠ gb135) := ⟨h10_⟩
                                               have n11_ : Aside0 (gb135 ≠ gb136) := ⟨h11_⟩
                                               have n12_ : Aside0 (w.heap.size ≤ gb136) := ⟨h12_⟩
                                               have n13_ : Aside0 (w.heap.size ≤ gb136) := ⟨h13_⟩
                                               have n14_ : Aside0 (gb109 ≠ gb136) := ⟨h14_⟩
                                               have n15_ : Aside0 (gb136 ≠ gb109) := ⟨h15_⟩
                                               have n16_ : Aside0 (gb110 ≠ gb136) := ⟨h16_⟩
                                               have n17_ : Aside0 (gb136 ≠ gb110) := ⟨h17_⟩
                                               have n18_ : Aside0 (Below w.heap.size w w58) := ⟨h18_⟩
                                               clear BK109 BK110 HB h0_ h1_ h2_ h3_ h4_ h5_ h6_ h7_ h8_ h9_ h10_ h11_ h12_ h13_ h14_ h15_ h16_ h17_ h18_; have BK109 := n0_; have BK110 := n1_; have BK135 := n2_; have BK136 := n3_; have GW135 := n4_; have GE135 := n5_; have NB109_135 := n6_; have NB135_109 := n7_; have NB110_135 := n8_; have NB135_110 := n9_; have NB136_135 := n10_; have NB135_136 := n11_; have GW136 := n12_; have GE136 := n13_; have NB109_136 := n14_; have NB136_109 := n15_; have NB110_136 := n16_; have NB136_110 := n17_; have HB := n18_; clear n0_ n1_ n2_ n3_ n4_ n5_ n6_ n7_ n8_ n9_ n10_ n11_ n12_ n13_ n14_ n15_ n16_ n17_ n18_
                                               have hHeld : w58.cell? ⟨gb109, 0, none⟩ = some (.bool t101) ∧ w58.cell? ⟨gb109, 1, none⟩ = some (.int .i64 t102) ∧ w58.cell? ⟨gb109, 2, none⟩ = some (.int .i64 t103) ∧ w58.cell? ⟨gb109, 3, none⟩ = some (.int .u64 t104) ∧ w58.cell? ⟨gb110, 0, none⟩ = some (.bool t105) ∧ w58.cell? ⟨gb110, 1, none⟩ = some (.int .i64 t106) ∧ w58.cell? ⟨gb110, 2, none⟩ = some (.int .i64 t107) ∧ w58.cell? ⟨gb110, 3, none⟩ = some (.int .u64 t108) := hS_
                                               refine norm_ (a' := ?_) ?_ ?_
                                               rotate_left
                                               · simp only [putAll, Act.put, List.setIfInBounds_toArray, List.set_cons_zero, List.set_cons_succ]
                                                 rfl
                                               refine one_ (i := 2) (N := some 70) #[true, true, true, false, true, true, false, false, false, false, false, false, true, true, false, false, false] rfl rfl (one_of HT_.out (by kernel_rfl)) (by decide) (fun K hK => ?_)
                                               refine goes_ Try.func19 (by kernel_rfl) rfl #[.int .u64 t104] (by rfl) rfl rfl (by (try simp only [List.map_toArray, List.map_cons, List.map_nil]); first | done | rfl | (simp only [List.length_drop, List.length_take]; rfl)) ?_
                                               with_reducible refine (wide_Of.calls t104 t115 t116 t117 t118 _ A47.out).mono ?_
                                               rintro e w59 ⟨rfl, hb⟩
                                               refine ⟨_, rfl, ?_⟩
                                               have n0_ := Aside0.mk (blk_below BK109.out hb)
                                               have n1_ := Aside0.mk (blk_below BK110.out hb)
                                               have n2_ := Aside0.mk (blk_below BK135.out hb)
                                               have n3_ := Aside0.mk (blk_below BK136.out hb)
                                               have n4_ := Aside0.mk (below_step HB.out hb)
                                               clear BK109 BK110 BK135 BK136 HB; have BK109 := n0_; have BK110 := n1_; have BK135 := n2_; have BK136 := n3_; have HB := n4_; clear n0_ n1_ n2_ n3_ n4_
                                               (try clear hb)
                                               (try clear hb2)
                                               (try clear hk)
                                               (try clear hi)
                                               refine hK.out _ _ ⟨(blk_cell BK109.out 0).trans rfl, (blk_cell BK109.out 1).trans rfl, (blk_cell BK109.out 2).trans rfl, (blk_cell BK109.out 3).trans rfl, (blk_cell BK110.out 0).trans rfl, (blk_cell BK110.out 1).trans rfl, (blk_cell BK110.out 2).trans rfl, (blk_cell BK110.out 3).trans rfl⟩ (fun hHeld => ?_)
                                               clear hK K
                                               refine norm_ (a' := ?_) ?_ ?_
                                               rotate_left
                                               · show Act.put _ (some 70) _ = _
                                                 simp only [Act.put, List.setIfInBounds_toArray, List.set_cons_zero, List.set_cons_succ, i64_w, i32_w]
                                                 rfl
                                               exact norm_ (by simp only [putAll, Act.put, List.setIfInBounds_toArray, List.set_cons_zero, List.set_cons_succ] <;> rfl) (hJ2_12_13 (gb135, gb136) _ ⟨hHeld, BK109.out, BK110.out, BK135.out, BK136.out, GW135.out, GE135.out, NB109_135.out, NB135_109.out, NB110_135.out, NB135_110.out, NB136_135.out, NB135_136.out, GW136.out, GE136.out, NB109_136.out, NB136_109.out, NB110_136.out, NB136_110.out, HB.out⟩)
                                           · skip
                                             rintro gb136 w58 ⟨hS_, h0_, h1_, h2_, h3_, h4_, h5_, h6_, h7_, h8_, h9_⟩
                                             have n0_ : Aside0 (w58.heap[gb109]? = some (.cells #[.bool t101, .int .i64 t102, .int .i64 t103, .int .u64 t104] 36 (0, 0))) := ⟨h0_⟩
                                             have n1_ : Aside0 (w58.heap[gb110]? = some (.cells #[.bool t105, .int .i64 t106, .int .i64 t107, .int .u64 t108] 36 (0, 0))) := ⟨h1_⟩
                                             have n2_ : Aside0 (w58.heap[gb136]? = some (.cells #[.int .u64 0, .int .u64 0, .int .u64 0, .int .u64 0] 41 (0, 0))) := ⟨h2_⟩
                                             have n3_ : Aside0 (w.heap.size ≤ gb136) := ⟨h3_⟩
                                             have n4_ : Aside0 (w.heap.size ≤ gb136) := ⟨h4_⟩
                                             have n5_ : Aside0 (gb109 ≠ gb136) := ⟨h5_⟩
                                             have n6_ : Aside0 (gb136 ≠ gb109) := ⟨h6_⟩
                                             have n7_ : Aside0 (gb110 ≠ gb136) := ⟨h7_⟩
                                             have n8_ : Aside0 (gb136 ≠ gb110) := ⟨h8_⟩
                                             have n9_ : Aside0 (Below w.heap.size w w58) := ⟨h9_⟩
                                             clear BK109 BK110 HB h0_ h1_ h2_ h3_ h4_ h5_ h6_ h7_ h8_ h9_; have BK109 := n0_; have BK110 := n1_; have BK136 := n2_; have GW136 := n3_; have GE136 := n4_; have NB109_136 := n5_; have NB136_109 := n6_; have NB110_136 := n7_; have NB136_110 := n8_; have HB := n9_; clear n0_ n1_ n2_ n3_ n4_ n5_ n6_ n7_ n8_ n9_
                                             have hHeld : w58.cell? ⟨gb109, 0, none⟩ = some (.bool t101) ∧ w58.cell? ⟨gb109, 1, none⟩ = some (.int .i64 t102) ∧ w58.cell? ⟨gb109, 2, none⟩ = some (.int .i64 t103) ∧ w58.cell? ⟨gb109, 3, none⟩ = some (.int .u64 t104) ∧ w58.cell? ⟨gb110, 0, none⟩ = some (.bool t105) ∧ w58.cell? ⟨gb110, 1, none⟩ = some (.int .i64 t106) ∧ w58.cell? ⟨gb110, 2, none⟩ = some (.int .i64 t107) ∧ w58.cell? ⟨gb110, 3, none⟩ = some (.int .u64 t108) := hS_
                                             refine norm_ (a' := ?_) ?_ ?_
                                             rotate_left
                                             · simp only [putAll, Act.put, List.setIfInBounds_toArray, List.set_cons_zero, List.set_cons_succ]
                                               rfl
                                             refine two_ (i := 3) (j := 12) (Ni := some 71) (Nj := some 11) #[true, true, true, true, true, true, false, false, false, false, false, false, false, true, false, false, false] #[true, true, true, false, true, true, false, false, false, false, false, false, true, true, false, false, false] rfl rfl rfl rfl (two_of HT_.out (by kernel_rfl)) (by decide) (by decide) (fun K hK => ?_) (fun K hK => ?_)
                                             · skip
                                               refine goes_ Try.func18 (by kernel_rfl) rfl #[.agg #[.int .u64 t115, .int .u64 t116, .int .u64 t117, .int .u64 t118], .int .i64 128] (by rfl) rfl rfl (by (try simp only [List.map_toArray, List.map_cons, List.map_nil]); first | done | rfl | (simp only [List.length_drop, List.length_take]; rfl)) ?_
                                               with_reducible refine (wide_Shl.calls t115 t116 t117 t118 128 t119 t120 t121 t122 _ A48.out).mono ?_
                                               rintro e w59 ⟨rfl, hb⟩
                                               refine ⟨_, rfl, ?_⟩
                                               have n0_ := Aside0.mk (blk_below BK109.out hb)
                                               have n1_ := Aside0.mk (blk_below BK110.out hb)
                                               have n2_ := Aside0.mk (blk_below BK136.out hb)
                                               have n3_ := Aside0.mk (below_step HB.out hb)
                                               clear BK109 BK110 BK136 HB; have BK109 := n0_; have BK110 := n1_; have BK136 := n2_; have HB := n3_; clear n0_ n1_ n2_ n3_
                                               (try clear hb)
                                               (try clear hb2)
                                               (try clear hk)
                                               (try clear hi)
                                               refine hK.out _ _ ⟨(blk_cell BK109.out 0).trans rfl, (blk_cell BK109.out 1).trans rfl, (blk_cell BK109.out 2).trans rfl, (blk_cell BK109.out 3).trans rfl, (blk_cell BK110.out 0).trans rfl, (blk_cell BK110.out 1).trans rfl, (blk_cell BK110.out 2).trans rfl, (blk_cell BK110.out 3).trans rfl⟩ (fun hHeld => ?_)
                                               clear hK K
                                               refine norm_ (a' := ?_) ?_ ?_
                                               rotate_left
                                               · show Act.put _ (some 71) _ = _
                                                 simp only [Act.put, List.setIfInBounds_toArray, List.set_cons_zero, List.set_cons_succ, i64_w, i32_w]
                                                 rfl
                                               exact norm_ (by simp only [putAll, Act.put, List.setIfInBounds_toArray, List.set_cons_zero, List.set_cons_succ] <;> rfl) (hJ2_3_13 (gb136) _ ⟨hHeld, BK109.out, BK110.out, BK136.out, GW136.out, GE136.out, NB109_136.out, NB136_109.out, NB110_136.out, NB136_110.out, HB.out⟩)
                                             · skip
                                               refine box_step ?hg (N := 11) ?hd (cs := #[.int .u64 0, .int .u64 0, .int .u64 0, .int .u64 0]) (t := 41) ?hr ?_; (case hd => rfl); (case hg => rfl); (case hr => first | (go_simp; done) | (go_simp; rfl))
                                               intro gb135 hg w59 hbox hb
                                               have n0_ := Aside0.mk (blk_below BK109.out hb)
                                               have n1_ := Aside0.mk (blk_below BK110.out hb)
                                               have n2_ := Aside0.mk (blk_below BK136.out hb)
                                               have n3_ := Aside0.mk (below_step HB.out hb)
                                               have n4_ := Aside0.mk (hbox)
                                               have n5_ := Aside0.mk ((by rw [hg]; exact (below_size HB.out) : w.heap.size ≤ gb135))
                                               have n6_ := Aside0.mk ((by rw [hg]; exact (below_size HB.out) : w.heap.size ≤ gb135))
                                               have n7_ := Aside0.mk ((by rw [hg]; exact Nat.ne_of_lt (blk_lt BK109.out) : gb109 ≠ gb135))
                                               have n8_ := Aside0.mk ((by rw [hg]; exact Nat.ne_of_gt (blk_lt BK109.out) : gb135 ≠ gb109))
                                               have n9_ := Aside0.mk ((by rw [hg]; exact Nat.ne_of_lt (blk_lt BK110.out) : gb110 ≠ gb135))
                                               have n10_ := Aside0.mk ((by rw [hg]; exact Nat.ne_of_gt (blk_lt BK110.out) : gb135 ≠ gb110))
                                               have n11_ := Aside0.mk ((by rw [hg]; exact Nat.ne_of_lt (blk_lt BK136.out) : gb136 ≠ gb135))
                                               have n12_ := Aside0.mk ((by rw [hg]; exact Nat.ne_of_gt (blk_lt BK136.out) : gb135 ≠ gb136))
                                               clear BK109 BK110 BK136 HB; have BK109 := n0_; have BK110 := n1_; have BK136 := n2_; have HB := n3_; have BK135 := n4_; have GW135 := n5_; have GE135 := n6_; have NB109_135 := n7_; have NB135_109 := n8_; have NB110_135 := n9_; have NB135_110 := n10_; have NB136_135 := n11_; have NB135_136 := n12_; clear n0_ n1_ n2_ n3_ n4_ n5_ n6_ n7_ n8_ n9_ n10_ n11_ n12_ hb hbox hg
                                               refine hK.out _ _ ⟨(blk_cell BK109.out 0).trans rfl, (blk_cell BK109.out 1).trans rfl, (blk_cell BK109.out 2).trans rfl, (blk_cell BK109.out 3).trans rfl, (blk_cell BK110.out 0).trans rfl, (blk_cell BK110.out 1).trans rfl, (blk_cell BK110.out 2).trans rfl, (blk_cell BK110.out 3).trans rfl⟩ (fun hHeld => ?_)
                                               clear hK K
                                               refine norm_ (a' := ?_) ?_ ?_
                                               rotate_left
                                               · show Act.put _ (some 11) _ = _
                                                 simp only [Act.put, List.setIfInBounds_toArray, List.set_cons_zero, List.set_cons_succ, i64_w, i32_w]
                                                 rfl
                                               exact norm_ (by simp only [putAll, Act.put, List.setIfInBounds_toArray, List.set_cons_zero, List.set_cons_succ] <;> rfl) (hJ2_12_13 (gb135, gb136) _ ⟨hHeld, BK109.out, BK110.out, BK135.out, BK136.out, GW135.out, GE135.out, NB109_135.out, NB135_109.out, NB110_135.out, NB135_110.out, NB136_135.out, NB135_136.out, GW136.out, GE136.out, NB109_136.out, NB136_109.out, NB110_136.out, NB136_110.out, HB.out⟩)
                                         · skip
                                           rintro gb135 w58 ⟨hS_, h0_, h1_, h2_, h3_, h4_, h5_, h6_, h7_, h8_, h9_⟩
                                           have n0_ : Aside0 (w58.heap[gb109]? = some (.cells #[.bool t101, .int .i64 t102, .int .i64 t103, .int .u64 t104] 36 (0, 0))) := ⟨h0_⟩
                                           have n1_ : Aside0 (w58.heap[gb110]? = some (.cells #[.bool t105, .int .i64 t106, .int .i64 t107, .int .u64 t108] 36 (0, 0))) := ⟨h1_⟩
                                           have n2_ : Aside0 (w58.heap[gb135]? = some (.cells #[.int .u64 0, .int .u64 0, .int .u64 0, .int .u64 0] 41 (0, 0))) := ⟨h2_⟩
                                           have n3_ : Aside0 (w.heap.size ≤ gb135) := ⟨h3_⟩
                                           have n4_ : Aside0 (w.heap.size ≤ gb135) := ⟨h4_⟩
                                           have n5_ : Aside0 (gb109 ≠ gb135) := ⟨h5_⟩
                                           have n6_ : Aside0 (gb135 ≠ gb109) := ⟨h6_⟩
                                           have n7_ : Aside0 (gb110 ≠ gb135) := ⟨h7_⟩
                                           have n8_ : Aside0 (gb135 ≠ gb110) := ⟨h8_⟩
                                           have n9_ : Aside0 (Below w.heap.size w w58) := ⟨h9_⟩
                                           clear BK109 BK110 HB h0_ h1_ h2_ h3_ h4_ h5_ h6_ h7_ h8_ h9_; have BK109 := n0_; have BK110 := n1_; have BK135 := n2_; have GW135 := n3_; have GE135 := n4_; have NB109_135 := n5_; have NB135_109 := n6_; have NB110_135 := n7_; have NB135_110 := n8_; have HB := n9_; clear n0_ n1_ n2_ n3_ n4_ n5_ n6_ n7_ n8_ n9_
                                           have hHeld : w58.cell? ⟨gb109, 0, none⟩ = some (.bool t101) ∧ w58.cell? ⟨gb109, 1, none⟩ = some (.int .i64 t102) ∧ w58.cell? ⟨gb109, 2, none⟩ = some (.int .i64 t103) ∧ w58.cell? ⟨gb109, 3, none⟩ = some (.int .u64 t104) ∧ w58.cell? ⟨gb110, 0, none⟩ = some (.bool t105) ∧ w58.cell? ⟨gb110, 1, none⟩ = some (.int .i64 t106) ∧ w58.cell? ⟨gb110, 2, none⟩ = some (.int .i64 t107) ∧ w58.cell? ⟨gb110, 3, none⟩ = some (.int .u64 t108) := hS_
                                           refine norm_ (a' := ?_) ?_ ?_
                                           rotate_left
                                           · simp only [putAll, Act.put, List.setIfInBounds_toArray, List.set_cons_zero, List.set_cons_succ]
                                             rfl
                                           refine two_ (i := 3) (j := 13) (Ni := some 71) (Nj := some 12) #[true, true, true, true, true, true, false, false, false, false, false, false, true, false, false, false, false] #[true, true, true, false, true, true, false, false, false, false, false, false, true, true, false, false, false] rfl rfl rfl rfl (two_of HT_.out (by kernel_rfl)) (by decide) (by decide) (fun K hK => ?_) (fun K hK => ?_)
                                           · skip
                                             refine goes_ Try.func18 (by kernel_rfl) rfl #[.agg #[.int .u64 t115, .int .u64 t116, .int .u64 t117, .int .u64 t118], .int .i64 128] (by rfl) rfl rfl (by (try simp only [List.map_toArray, List.map_cons, List.map_nil]); first | done | rfl | (simp only [List.length_drop, List.length_take]; rfl)) ?_
                                             with_reducible refine (wide_Shl.calls t115 t116 t117 t118 128 t119 t120 t121 t122 _ A48.out).mono ?_
                                             rintro e w59 ⟨rfl, hb⟩
                                             refine ⟨_, rfl, ?_⟩
                                             have n0_ := Aside0.mk (blk_below BK109.out hb)
                                             have n1_ := Aside0.mk (blk_below BK110.out hb)
                                             have n2_ := Aside0.mk (blk_below BK135.out hb)
                                             have n3_ := Aside0.mk (below_step HB.out hb)
                                             clear BK109 BK110 BK135 HB; have BK109 := n0_; have BK110 := n1_; have BK135 := n2_; have HB := n3_; clear n0_ n1_ n2_ n3_
                                             (try clear hb)
                                             (try clear hb2)
                                             (try clear hk)
                                             (try clear hi)
                                             refine hK.out _ _ ⟨(blk_cell BK109.out 0).trans rfl, (blk_cell BK109.out 1).trans rfl, (blk_cell BK109.out 2).trans rfl, (blk_cell BK109.out 3).trans rfl, (blk_cell BK110.out 0).trans rfl, (blk_cell BK110.out 1).trans rfl, (blk_cell BK110.out 2).trans rfl, (blk_cell BK110.out 3).trans rfl⟩ (fun hHeld => ?_)
                                             clear hK K
                                             refine norm_ (a' := ?_) ?_ ?_
                                             rotate_left
                                             · show Act.put _ (some 71) _ = _
                                               simp only [Act.put, List.setIfInBounds_toArray, List.set_cons_zero, List.set_cons_succ, i64_w, i32_w]
                                               rfl
                                             exact norm_ (by simp only [putAll, Act.put, List.setIfInBounds_toArray, List.set_cons_zero, List.set_cons_succ] <;> rfl) (hJ2_3_12 (gb135) _ ⟨hHeld, BK109.out, BK110.out, BK135.out, GW135.out, GE135.out, NB109_135.out, NB135_109.out, NB110_135.out, NB135_110.out, HB.out⟩)
                                           · skip
                                             refine box_step ?hg (N := 12) ?hd (cs := #[.int .u64 0, .int .u64 0, .int .u64 0, .int .u64 0]) (t := 41) ?hr ?_; (case hd => rfl); (case hg => rfl); (case hr => first | (go_simp; done) | (go_simp; rfl))
                                             intro gb136 hg w59 hbox hb
                                             have n0_ := Aside0.mk (blk_below BK109.out hb)
                                             have n1_ := Aside0.mk (blk_below BK110.out hb)
                                             have n2_ := Aside0.mk (blk_below BK135.out hb)
                                             have n3_ := Aside0.mk (below_step HB.out hb)
                                             have n4_ := Aside0.mk (hbox)
                                             have n5_ := Aside0.mk ((by rw [hg]; exact (below_size HB.out) : w.heap.size ≤ gb136))
                                             have n6_ := Aside0.mk ((by rw [hg]; exact (below_size HB.out) : w.heap.size ≤ gb136))
                                             have n7_ := Aside0.mk ((by rw [hg]; exact Nat.ne_of_lt (blk_lt BK109.out) : gb109 ≠ gb136))
                                             have n8_ := Aside0.mk ((by rw [hg]; exact Nat.ne_of_gt (blk_lt BK109.out) : gb136 ≠ gb109))
                                             have n9_ := Aside0.mk ((by rw [hg]; exact Nat.ne_of_lt (blk_lt BK110.out) : gb110 ≠ gb136))
                                             have n10_ := Aside0.mk ((by rw [hg]; exact Nat.ne_of_gt (blk_lt BK110.out) : gb136 ≠ gb110))
                                             have n11_ := Aside0.mk ((by rw [hg]; exact Nat.ne_of_lt (blk_lt BK135.out) : gb135 ≠ gb136))
                                             have n12_ := Aside0.mk ((by rw [hg]; exact Nat.ne_of_gt (blk_lt BK135.out) : gb136 ≠ gb135))
                                             clear BK109 BK110 BK135 HB; have BK109 := n0_; have BK110 := n1_; have BK135 := n2_; have HB := n3_; have BK136 := n4_; have GW136 := n5_; have GE136 := n6_; have NB109_136 := n7_; have NB136_109 := n8_; have NB110_136 := n9_; have NB136_110 := n10_; have NB135_136 := n11_; have NB136_135 := n12_; clear n0_ n1_ n2_ n3_ n4_ n5_ n6_ n7_ n8_ n9_ n10_ n11_ n12_ hb hbox hg
                                             refine hK.out _ _ ⟨(blk_cell BK109.out 0).trans rfl, (blk_cell BK109.out 1).trans rfl, (blk_cell BK109.out 2).trans rfl, (blk_cell BK109.out 3).trans rfl, (blk_cell BK110.out 0).trans rfl, (blk_cell BK110.out 1).trans rfl, (blk_cell BK110.out 2).trans rfl, (blk_cell BK110.out 3).trans rfl⟩ (fun hHeld => ?_)
                                             clear hK K
                                             refine norm_ (a' := ?_) ?_ ?_
                                             rotate_left
                                             · show Act.put _ (some 12) _ = _
                                               simp only [Act.put, List.setIfInBounds_toArray, List.set_cons_zero, List.set_cons_succ, i64_w, i32_w]
                                               rfl
                                             exact norm_ (by simp only [putAll, Act.put, List.setIfInBounds_toArray, List.set_cons_zero, List.set_cons_succ] <;> rfl) (hJ2_12_13 (gb135, gb136) _ ⟨hHeld, BK109.out, BK110.out, BK135.out, BK136.out, GW135.out, GE135.out, NB109_135.out, NB135_109.out, NB110_135.out, NB135_110.out, NB136_135.out, NB135_136.out, GW136.out, GE136.out, NB109_136.out, NB136_109.out, NB110_136.out, NB136_110.out, HB.out⟩)
                                       · skip
                                         rintro _ w58 ⟨hS_, h0_, h1_, h2_⟩
                                         have n0_ : Aside0 (w58.heap[gb109]? = some (.cells #[.bool t101, .int .i64 t102, .int .i64 t103, .int .u64 t104] 36 (0, 0))) := ⟨h0_⟩
                                         have n1_ : Aside0 (w58.heap[gb110]? = some (.cells #[.bool t105, .int .i64 t106, .int .i64 t107, .int .u64 t108] 36 (0, 0))) := ⟨h1_⟩
                                         have n2_ : Aside0 (Below w.heap.size w w58) := ⟨h2_⟩
                                         clear BK109 BK110 HB h0_ h1_ h2_; have BK109 := n0_; have BK110 := n1_; have HB := n2_; clear n0_ n1_ n2_
                                         have hHeld : w58.cell? ⟨gb109, 0, none⟩ = some (.bool t101) ∧ w58.cell? ⟨gb109, 1, none⟩ = some (.int .i64 t102) ∧ w58.cell? ⟨gb109, 2, none⟩ = some (.int .i64 t103) ∧ w58.cell? ⟨gb109, 3, none⟩ = some (.int .u64 t104) ∧ w58.cell? ⟨gb110, 0, none⟩ = some (.bool t105) ∧ w58.cell? ⟨gb110, 1, none⟩ = some (.int .i64 t106) ∧ w58.cell? ⟨gb110, 2, none⟩ = some (.int .i64 t107) ∧ w58.cell? ⟨gb110, 3, none⟩ = some (.int .u64 t108) := hS_
                                         refine norm_ (a' := ?_) ?_ ?_
                                         rotate_left
                                         · simp only [putAll, Act.put, List.setIfInBounds_toArray, List.set_cons_zero, List.set_cons_succ]
                                           rfl
                                         refine three_ (i := 6) (j := 12) (k := 13) (Ni := some 74) (Nj := some 11) (Nk := some 12) #[true, true, true, true, true, true, true, false, false, false, false, false, false, false, false, false, false] #[true, true, true, true, true, true, false, false, false, false, false, false, true, false, false, false, false] #[true, true, true, true, true, true, false, false, false, false, false, false, false, true, false, false, false] rfl rfl rfl rfl rfl rfl (three_of HT_.out (by kernel_rfl)) (by decide) (by decide) (by decide) (fun K hK => ?_) (fun K hK => ?_) (fun K hK => ?_)
                                         · skip
                                           refine goes_ Try.func19 (by kernel_rfl) rfl #[.int .u64 t108] (by rfl) rfl rfl (by (try simp only [List.map_toArray, List.map_cons, List.map_nil]); first | done | rfl | (simp only [List.length_drop, List.length_take]; rfl)) ?_
                                           with_reducible refine (wide_Of.calls t108 t123 t124 t125 t126 _ A49.out).mono ?_
                                           rintro e w59 ⟨rfl, hb⟩
                                           refine ⟨_, rfl, ?_⟩
                                           have n0_ := Aside0.mk (blk_below BK109.out hb)
                                           have n1_ := Aside0.mk (blk_below BK110.out hb)
                                           have n2_ := Aside0.mk (below_step HB.out hb)
                                           clear BK109 BK110 HB; have BK109 := n0_; have BK110 := n1_; have HB := n2_; clear n0_ n1_ n2_
                                           (try clear hb)
                                           (try clear hb2)
                                           (try clear hk)
                                           (try clear hi)
                                           refine hK.out _ _ ⟨(blk_cell BK109.out 0).trans rfl, (blk_cell BK109.out 1).trans rfl, (blk_cell BK109.out 2).trans rfl, (blk_cell BK109.out 3).trans rfl, (blk_cell BK110.out 0).trans rfl, (blk_cell BK110.out 1).trans rfl, (blk_cell BK110.out 2).trans rfl, (blk_cell BK110.out 3).trans rfl⟩ (fun hHeld => ?_)
                                           clear hK K
                                           refine norm_ (a' := ?_) ?_ ?_
                                           rotate_left
                                           · show Act.put _ (some 74) _ = _
                                             simp only [Act.put, List.setIfInBounds_toArray, List.set_cons_zero, List.set_cons_succ, i64_w, i32_w]
                                             rfl
                                           exact norm_ (by simp only [putAll, Act.put, List.setIfInBounds_toArray, List.set_cons_zero, List.set_cons_succ] <;> rfl) (hJ2_3_6 () _ ⟨hHeld, BK109.out, BK110.out, HB.out⟩)
                                         · skip
                                           refine box_step ?hg (N := 11) ?hd (cs := #[.int .u64 0, .int .u64 0, .int .u64 0, .int .u64 0]) (t := 41) ?hr ?_; (case hd => rfl); (case hg => rfl); (case hr => first | (go_simp; done) | (go_simp; rfl))
                                           intro gb135 hg w59 hbox hb
                                           have n0_ := Aside0.mk (blk_below BK109.out hb)
                                           have n1_ := Aside0.mk (blk_below BK110.out hb)
                                           have n2_ := Aside0.mk (below_step HB.out hb)
                                           have n3_ := Aside0.mk (hbox)
                                           have n4_ := Aside0.mk ((by rw [hg]; exact (below_size HB.out) : w.heap.size ≤ gb135))
                                           have n5_ := Aside0.mk ((by rw [hg]; exact (below_size HB.out) : w.heap.size ≤ gb135))
                                           have n6_ := Aside0.mk ((by rw [hg]; exact Nat.ne_of_lt (blk_lt BK109.out) : gb109 ≠ gb135))
                                           have n7_ := Aside0.mk ((by rw [hg]; exact Nat.ne_of_gt (blk_lt BK109.out) : gb135 ≠ gb109))
                                           have n8_ := Aside0.mk ((by rw [hg]; exact Nat.ne_of_lt (blk_lt BK110.out) : gb110 ≠ gb135))
                                           have n9_ := Aside0.mk ((by rw [hg]; exact Nat.ne_of_gt (blk_lt BK110.out) : gb135 ≠ gb110))
                                           clear BK109 BK110 HB; have BK109 := n0_; have BK110 := n1_; have HB := n2_; have BK135 := n3_; have GW135 := n4_; have GE135 := n5_; have NB109_135 := n6_; have NB135_109 := n7_; have NB110_135 := n8_; have NB135_110 := n9_; clear n0_ n1_ n2_ n3_ n4_ n5_ n6_ n7_ n8_ n9_ hb hbox hg
                                           refine hK.out _ _ ⟨(blk_cell BK109.out 0).trans rfl, (blk_cell BK109.out 1).trans rfl, (blk_cell BK109.out 2).trans rfl, (blk_cell BK109.out 3).trans rfl, (blk_cell BK110.out 0).trans rfl, (blk_cell BK110.out 1).trans rfl, (blk_cell BK110.out 2).trans rfl, (blk_cell BK110.out 3).trans rfl⟩ (fun hHeld => ?_)
                                           clear hK K
                                           refine norm_ (a' := ?_) ?_ ?_
                                           rotate_left
                                           · show Act.put _ (some 11) _ = _
                                             simp only [Act.put, List.setIfInBounds_toArray, List.set_cons_zero, List.set_cons_succ, i64_w, i32_w]
                                             rfl
                                           exact norm_ (by simp only [putAll, Act.put, List.setIfInBounds_toArray, List.set_cons_zero, List.set_cons_succ] <;> rfl) (hJ2_3_12 (gb135) _ ⟨hHeld, BK109.out, BK110.out, BK135.out, GW135.out, GE135.out, NB109_135.out, NB135_109.out, NB110_135.out, NB135_110.out, HB.out⟩)
                                         · skip
                                           refine box_step ?hg (N := 12) ?hd (cs := #[.int .u64 0, .int .u64 0, .int .u64 0, .int .u64 0]) (t := 41) ?hr ?_; (case hd => rfl); (case hg => rfl); (case hr => first | (go_simp; done) | (go_simp; rfl))
                                           intro gb136 hg w59 hbox hb
                                           have n0_ := Aside0.mk (blk_below BK109.out hb)
                                           have n1_ := Aside0.mk (blk_below BK110.out hb)
                                           have n2_ := Aside0.mk (below_step HB.out hb)
                                           have n3_ := Aside0.mk (hbox)
                                           have n4_ := Aside0.mk ((by rw [hg]; exact (below_size HB.out) : w.heap.size ≤ gb136))
                                           have n5_ := Aside0.mk ((by rw [hg]; exact (below_size HB.out) : w.heap.size ≤ gb136))
                                           have n6_ := Aside0.mk ((by rw [hg]; exact Nat.ne_of_lt (blk_lt BK109.out) : gb109 ≠ gb136))
                                           have n7_ := Aside0.mk ((by rw [hg]; exact Nat.ne_of_gt (blk_lt BK109.out) : gb136 ≠ gb109))
                                           have n8_ := Aside0.mk ((by rw [hg]; exact Nat.ne_of_lt (blk_lt BK110.out) : gb110 ≠ gb136))
                                           have n9_ := Aside0.mk ((by rw [hg]; exact Nat.ne_of_gt (blk_lt BK110.out) : gb136 ≠ gb110))
                                           clear BK109 BK110 HB; have BK109 := n0_; have BK110 := n1_; have HB := n2_; have BK136 := n3_; have GW136 := n4_; have GE136 := n5_; have NB109_136 := n6_; have NB136_109 := n7_; have NB110_136 := n8_; have NB136_110 := n9_; clear n0_ n1_ n2_ n3_ n4_ n5_ n6_ n7_ n8_ n9_ hb hbox hg
                                           refine hK.out _ _ ⟨(blk_cell BK109.out 0).trans rfl, (blk_cell BK109.out 1).trans rfl, (blk_cell BK109.out 2).trans rfl, (blk_cell BK109.out 3).trans rfl, (blk_cell BK110.out 0).trans rfl, (blk_cell BK110.out 1).trans rfl, (blk_cell BK110.out 2).trans rfl, (blk_cell BK110.out 3).trans rfl⟩ (fun hHeld => ?_)
                                           clear hK K
                                           refine norm_ (a' := ?_) ?_ ?_
                                           rotate_left
                                           · show Act.put _ (some 12) _ = _
                                             simp only [Act.put, List.setIfInBounds_toArray, List.set_cons_zero, List.set_cons_succ, i64_w, i32_w]
                                             rfl
                                           exact norm_ (by simp only [putAll, Act.put, List.setIfInBounds_toArray, List.set_cons_zero, List.set_cons_succ] <;> rfl) (hJ2_3_13 (gb136) _ ⟨hHeld, BK109.out, BK110.out, BK136.out, GW136.out, GE136.out, NB109_136.out, NB136_109.out, NB110_136.out, NB136_110.out, HB.out⟩)
                                     · skip
                                       rintro ⟨gb135, gb136⟩ w59 ⟨hS_, h0_, h1_, h2_, h3_, h4_, h5_, h6_, h7_, h8_, h9_, h10_, h11_, h12_, h13_, h14_, h15_, h16_, h17_, h18_⟩
                                       have n0_ : Aside0 (w59.heap[gb109]? = some (.cells #[.bool t101, .int .i64 t102, .int .i64 t103, .int .u64 t104] 36 (0, 0))) := ⟨h0_⟩
                                       have n1_ : Aside0 (w59.heap[gb110]? = some (.cells #[.bool t105, .int .i64 t106, .int .i64 t107, .int .u64 t108] 36 (0, 0))) := ⟨h1_⟩
                                       have n2_ : Aside0 (w59.heap[gb135]? = some (.cells #[.int .u64 0, .int .u64 0, .int .u64 0, .int .u64 0] 41 (0, 0))) := ⟨h2_⟩
                                       have n3_ : Aside0 (w59.heap[gb136]? = some (.cells #[.int .u64 0, .int .u64 0, .int .u64 0, .int .u64 0] 41 (0, 0))) := ⟨h3_⟩
                                       have n4_ : Aside0 (w.heap.size ≤ gb135) := ⟨h4_⟩
                                       have n5_ : Aside0 (w.heap.size ≤ gb135) := ⟨h5_⟩
                                       have n6_ : Aside0 (gb109 ≠ gb135) := ⟨h6_⟩
                                       have n7_ : Aside0 (gb135 ≠ gb109) := ⟨h7_⟩
                                       have n8_ : Aside0 (gb110 ≠ gb135) := ⟨h8_⟩
                                       have n9_ : Aside0 (gb135 ≠ gb110) := ⟨h9_⟩
                                       have n10_ : Aside0 (gb136 ≠ gb135) := ⟨h10_⟩
                                       have n11_ : Aside0 (gb135 ≠ gb136) := ⟨h11_⟩
                                       have n12_ : Aside0 (w.heap.size ≤ gb136) := ⟨h12_⟩
                                       have n13_ : Aside0 (w.heap.size ≤ gb136) := ⟨h13_⟩
                                       have n14_ : Aside0 (gb109 ≠ gb136) := ⟨h14_⟩
                                       have n15_ : Aside0 (gb136 ≠ gb109) := ⟨h15_⟩
                                       have n16_ : Aside0 (gb110 ≠ gb136) := ⟨h16_⟩
                                       have n17_ : Aside0 (gb136 ≠ gb110) := ⟨h17_⟩
                                       have n18_ : Aside0 (Below w.heap.size w w59) := ⟨h18_⟩
                                       clear BK109 BK110 HB h0_ h1_ h2_ h3_ h4_ h5_ h6_ h7_ h8_ h9_ h10_ h11_ h12_ h13_ h14_ h15_ h16_ h17_ h18_; have BK109 := n0_; have BK110 := n1_; have BK135 := n2_; have BK136 := n3_; have GW135 := n4_; have GE135 := n5_; have NB109_135 := n6_; have NB135_109 := n7_; have NB110_135 := n8_; have NB135_110 := n9_; have NB136_135 := n10_; have NB135_136 := n11_; have GW136 := n12_; have GE136 := n13_; have NB109_136 := n14_; have NB136_109 := n15_; have NB110_136 := n16_; have NB136_110 := n17_; have HB := n18_; clear n0_ n1_ n2_ n3_ n4_ n5_ n6_ n7_ n8_ n9_ n10_ n11_ n12_ n13_ n14_ n15_ n16_ n17_ n18_
                                       have hHeld : w59.cell? ⟨gb109, 0, none⟩ = some (.bool t101) ∧ w59.cell? ⟨gb109, 1, none⟩ = some (.int .i64 t102) ∧ w59.cell? ⟨gb109, 2, none⟩ = some (.int .i64 t103) ∧ w59.cell? ⟨gb109, 3, none⟩ = some (.int .u64 t104) ∧ w59.cell? ⟨gb110, 0, none⟩ = some (.bool t105) ∧ w59.cell? ⟨gb110, 1, none⟩ = some (.int .i64 t106) ∧ w59.cell? ⟨gb110, 2, none⟩ = some (.int .i64 t107) ∧ w59.cell? ⟨gb110, 3, none⟩ = some (.int .u64 t108) := hS_
                                       refine norm_ (a' := ?_) ?_ ?_
                                       rotate_left
                                       · simp only [putAll, Act.put, List.setIfInBounds_toArray, List.set_cons_zero, List.set_cons_succ]
                                         rfl
                                       refine one_ (i := 3) (N := some 71) #[true, true, true, true, true, true, false, false, false, false, false, false, true, true, false, false, false] rfl rfl (one_of HT_.out (by kernel_rfl)) (by decide) (fun K hK => ?_)
                                       refine goes_ Try.func18 (by kernel_rfl) rfl #[.agg #[.int .u64 t115, .int .u64 t116, .int .u64 t117, .int .u64 t118], .int .i64 128] (by rfl) rfl rfl (by (try simp only [List.map_toArray, List.map_cons, List.map_nil]); first | done | rfl | (simp only [List.length_drop, List.length_take]; rfl)) ?_
                                       with_reducible refine (wide_Shl.calls t115 t116 t117 t118 128 t119 t120 t121 t122 _ A48.out).mono ?_
                                       rintro e w60 ⟨rfl, hb⟩
                                       refine ⟨_, rfl, ?_⟩
                                       have n0_ := Aside0.mk (blk_below BK109.out hb)
                                       have n1_ := Aside0.mk (blk_below BK110.out hb)
                                       have n2_ := Aside0.mk (blk_below BK135.out hb)
                                       have n3_ := Aside0.mk (blk_below BK136.out hb)
                                       have n4_ := Aside0.mk (below_step HB.out hb)
                                       clear BK109 BK110 BK135 BK136 HB; have BK109 := n0_; have BK110 := n1_; have BK135 := n2_; have BK136 := n3_; have HB := n4_; clear n0_ n1_ n2_ n3_ n4_
                                       (try clear hb)
                                       (try clear hb2)
                                       (try clear hk)
                                       (try clear hi)
                                       refine hK.out _ _ ⟨(blk_cell BK109.out 0).trans rfl, (blk_cell BK109.out 1).trans rfl, (blk_cell BK109.out 2).trans rfl, (blk_cell BK109.out 3).trans rfl, (blk_cell BK110.out 0).trans rfl, (blk_cell BK110.out 1).trans rfl, (blk_cell BK110.out 2).trans rfl, (blk_cell BK110.out 3).trans rfl⟩ (fun hHeld => ?_)
                                       clear hK K
                                       refine norm_ (a' := ?_) ?_ ?_
                                       rotate_left
                                       · show Act.put _ (some 71) _ = _
                                         simp only [Act.put, List.setIfInBounds_toArray, List.set_cons_zero, List.set_cons_succ, i64_w, i32_w]
                                         rfl
                                       exact norm_ (by simp only [putAll, Act.put, List.setIfInBounds_toArray, List.set_cons_zero, List.set_cons_succ] <;> rfl) (hJ2_3_12_13 (gb135, gb136) _ ⟨hHeld, BK109.out, BK110.out, BK135.out, BK136.out, GW135.out, GE135.out, NB109_135.out, NB135_109.out, NB110_135.out, NB135_110.out, NB136_135.out, NB135_136.out, GW136.out, GE136.out, NB109_136.out, NB136_109.out, NB110_136.out, NB136_110.out, HB.out⟩)
                                   · skip
                                     rintro gb136 w59 ⟨hS_, h0_, h1_, h2_, h3_, h4_, h5_, h6_, h7_, h8_, h9_⟩
                                     have n0_ : Aside0 (w59.heap[gb109]? = some (.cells #[.bool t101, .int .i64 t102, .int .i64 t103, .int .u64 t104] 36 (0, 0))) := ⟨h0_⟩
                                     have n1_ : Aside0 (w59.heap[gb110]? = some (.cells #[.bool t105, .int .i64 t106, .int .i64 t107, .int .u64 t108] 36 (0, 0))) := ⟨h1_⟩
                                     have n2_ : Aside0 (w59.heap[gb136]? = some (.cells #[.int .u64 0, .int .u64 0, .int .u64 0, .int .u64 0] 41 (0, 0))) := ⟨h2_⟩
                                     have n3_ : Aside0 (w.heap.size ≤ gb136) := ⟨h3_⟩
                                     have n4_ : Aside0 (w.heap.size ≤ gb136) := ⟨h4_⟩
                                     have n5_ : Aside0 (gb109 ≠ gb136) := ⟨h5_⟩
                                     have n6_ : Aside0 (gb136 ≠ gb109) := ⟨h6_⟩
                                     have n7_ : Aside0 (gb110 ≠ gb136) := ⟨h7_⟩
                                     have n8_ : Aside0 (gb136 ≠ gb110) := ⟨h8_⟩
                                     have n9_ : Aside0 (Below w.heap.size w w59) := ⟨h9_⟩
                                     clear BK109 BK110 HB h0_ h1_ h2_ h3_ h4_ h5_ h6_ h7_ h8_ h9_; have BK109 := n0_; have BK110 := n1_; have BK136 := n2_; have GW136 := n3_; have GE136 := n4_; have NB109_136 := n5_; have NB136_109 := n6_; have NB110_136 := n7_; have NB136_110 := n8_; have HB := n9_; clear n0_ n1_ n2_ n3_ n4_ n5_ n6_ n7_ n8_ n9_
                                     have hHeld : w59.cell? ⟨gb109, 0, none⟩ = some (.bool t101) ∧ w59.cell? ⟨gb109, 1, none⟩ = some (.int .i64 t102) ∧ w59.cell? ⟨gb109, 2, none⟩ = some (.int .i64 t103) ∧ w59.cell? ⟨gb109, 3, none⟩ = some (.int .u64 t104) ∧ w59.cell? ⟨gb110, 0, none⟩ = some (.bool t105) ∧ w59.cell? ⟨gb110, 1, none⟩ = some (.int .i64 t106) ∧ w59.cell? ⟨gb110, 2, none⟩ = some (.int .i64 t107) ∧ w59.cell? ⟨gb110, 3, none⟩ = some (.int .u64 t108) := hS_
                                     refine norm_ (a' := ?_) ?_ ?_
                                     rotate_left
                                     · simp only [putAll, Act.put, List.setIfInBounds_toArray, List.set_cons_zero, List.set_cons_succ]
                                       rfl
                                     refine two_ (i := 6) (j := 12) (Ni := some 74) (Nj := some 11) #[true, true, true, true, true, true, true, false, false, false, false, false, false, true, false, false, false] #[true, true, true, true, true, true, false, false, false, false, false, false, true, true, false, false, false] rfl rfl rfl rfl (two_of HT_.out (by kernel_rfl)) (by decide) (by decide) (fun K hK => ?_) (fun K hK => ?_)
                                     · skip
                                       refine goes_ Try.func19 (by kernel_rfl) rfl #[.int .u64 t108] (by rfl) rfl rfl (by (try simp only [List.map_toArray, List.map_cons, List.map_nil]); first | done | rfl | (simp only [List.length_drop, List.length_take]; rfl)) ?_
                                       with_reducible refine (wide_Of.calls t108 t123 t124 t125 t126 _ A49.out).mono ?_
                                       rintro e w60 ⟨rfl, hb⟩
                                       refine ⟨_, rfl, ?_⟩
                                       have n0_ := Aside0.mk (blk_below BK109.out hb)
                                       have n1_ := Aside0.mk (blk_below BK110.out hb)
                                       have n2_ := Aside0.mk (blk_below BK136.out hb)
                                       have n3_ := Aside0.mk (below_step HB.out hb)
                                       clear BK109 BK110 BK136 HB; have BK109 := n0_; have BK110 := n1_; have BK136 := n2_; have HB := n3_; clear n0_ n1_ n2_ n3_
                                       (try clear hb)
                                       (try clear hb2)
                                       (try clear hk)
                                       (try clear hi)
                                       refine hK.out _ _ ⟨(blk_cell BK109.out 0).trans rfl, (blk_cell BK109.out 1).trans rfl, (blk_cell BK109.out 2).trans rfl, (blk_cell BK109.out 3).trans rfl, (blk_cell BK110.out 0).trans rfl, (blk_cell BK110.out 1).trans rfl, (blk_cell BK110.out 2).trans rfl, (blk_cell BK110.out 3).trans rfl⟩ (fun hHeld => ?_)
                                       clear hK K
                                       refine norm_ (a' := ?_) ?_ ?_
                                       rotate_left
                                       · show Act.put _ (some 74) _ = _
                                         simp only [Act.put, List.setIfInBounds_toArray, List.set_cons_zero, List.set_cons_succ, i64_w, i32_w]
                                         rfl
                                       exact norm_ (by simp only [putAll, Act.put, List.setIfInBounds_toArray, List.set_cons_zero, List.set_cons_succ] <;> rfl) (hJ2_3_6_13 (gb136) _ ⟨hHeld, BK109.out, BK110.out, BK136.out, GW136.out, GE136.out, NB109_136.out, NB136_109.out, NB110_136.out, NB136_110.out, HB.out⟩)
                                     · skip
                                       refine box_step ?hg (N := 11) ?hd (cs := #[.int .u64 0, .int .u64 0, .int .u64 0, .int .u64 0]) (t := 41) ?hr ?_; (case hd => rfl); (case hg => rfl); (case hr => first | (go_simp; done) | (go_simp; rfl))
                                       intro gb135 hg w60 hbox hb
                                       have n0_ := Aside0.mk (blk_below BK109.out hb)
                                       have n1_ := Aside0.mk (blk_below BK110.out hb)
                                       have n2_ := Aside0.mk (blk_below BK136.out hb)
                                       have n3_ := Aside0.mk (below_step HB.out hb)
                                       have n4_ := Aside0.mk (hbox)
                                       have n5_ := Aside0.mk ((by rw [hg]; exact (below_size HB.out) : w.heap.size ≤ gb135))
                                       have n6_ := Aside0.mk ((by rw [hg]; exact (below_size HB.out) : w.heap.size ≤ gb135))
                                       have n7_ := Aside0.mk ((by rw [hg]; exact Nat.ne_of_lt (blk_lt BK109.out) : gb109 ≠ gb135))
                                       have n8_ := Aside0.mk ((by rw [hg]; exact Nat.ne_of_gt (blk_lt BK109.out) : gb135 ≠ gb109))
                                       have n9_ := Aside0.mk ((by rw [hg]; exact Nat.ne_of_lt (blk_lt BK110.out) : gb110 ≠ gb135))
                                       have n10_ := Aside0.mk ((by rw [hg]; exact Nat.ne_of_gt (blk_lt BK110.out) : gb135 ≠ gb110))
                                       have n11_ := Aside0.mk ((by rw [hg]; exact Nat.ne_of_lt (blk_lt BK136.out) : gb136 ≠ gb135))
                                       have n12_ := Aside0.mk ((by rw [hg]; exact Nat.ne_of_gt (blk_lt BK136.out) : gb135 ≠ gb136))
                                       clear BK109 BK110 BK136 HB; have BK109 := n0_; have BK110 := n1_; have BK136 := n2_; have HB := n3_; have BK135 := n4_; have GW135 := n5_; have GE135 := n6_; have NB109_135 := n7_; have NB135_109 := n8_; have NB110_135 := n9_; have NB135_110 := n10_; have NB136_135 := n11_; have NB135_136 := n12_; clear n0_ n1_ n2_ n3_ n4_ n5_ n6_ n7_ n8_ n9_ n10_ n11_ n12_ hb hbox hg
                                       refine hK.out _ _ ⟨(blk_cell BK109.out 0).trans rfl, (blk_cell BK109.out 1).trans rfl, (blk_cell BK109.out 2).trans rfl, (blk_cell BK109.out 3).trans rfl, (blk_cell BK110.out 0).trans rfl, (blk_cell BK110.out 1).trans rfl, (blk_cell BK110.out 2).trans rfl, (blk_cell BK110.out 3).trans rfl⟩ (fun hHeld => ?_)
                                       clear hK K
                                       refine norm_ (a' := ?_) ?_ ?_
                                       rotate_left
                                       · show Act.put _ (some 11) _ = _
                                         simp only [Act.put, List.setIfInBounds_toArray, List.set_cons_zero, List.set_cons_succ, i64_w, i32_w]
                                         rfl
                                       exact norm_ (by simp only [putAll, Act.put, List.setIfInBounds_toArray, List.set_cons_zero, List.set_cons_succ] <;> rfl) (hJ2_3_12_13 (gb135, gb136) _ ⟨hHeld, BK109.out, BK110.out, BK135.out, BK136.out, GW135.out, GE135.out, NB109_135.out, NB135_109.out, NB110_135.out, NB135_110.out, NB136_135.out, NB135_136.out, GW136.out, GE136.out, NB109_136.out, NB136_109.out, NB110_136.out, NB136_110.out, HB.out⟩)
                                 · skip
                                   rintro gb135 w59 ⟨hS_, h0_, h1_, h2_, h3_, h4_, h5_, h6_, h7_, h8_, h9_⟩
                                   have n0_ : Aside0 (w59.heap[gb109]? = some (.cells #[.bool t101, .int .i64 t102, .int .i64 t103, .int .u64 t104] 36 (0, 0))) := ⟨h0_⟩
                                   have n1_ : Aside0 (w59.heap[gb110]? = some (.cells #[.bool t105, .int .i64 t106, .int .i64 t107, .int .u64 t108] 36 (0, 0))) := ⟨h1_⟩
                                   have n2_ : Aside0 (w59.heap[gb135]? = some (.cells #[.int .u64 0, .int .u64 0, .int .u64 0, .int .u64 0] 41 (0, 0))) := ⟨h2_⟩
                                   have n3_ : Aside0 (w.heap.size ≤ gb135) := ⟨h3_⟩
                                   have n4_ : Aside0 (w.heap.size ≤ gb135) := ⟨h4_⟩
                                   have n5_ : Aside0 (gb109 ≠ gb135) := ⟨h5_⟩
                                   have n6_ : Aside0 (gb135 ≠ gb109) := ⟨h6_⟩
                                   have n7_ : Aside0 (gb110 ≠ gb135) := ⟨h7_⟩
                                   have n8_ : Aside0 (gb135 ≠ gb110) := ⟨h8_⟩
                                   have n9_ : Aside0 (Below w.heap.size w w59) := ⟨h9_⟩
                                   clear BK109 BK110 HB h0_ h1_ h2_ h3_ h4_ h5_ h6_ h7_ h8_ h9_; have BK109 := n0_; have BK110 := n1_; have BK135 := n2_; have GW135 := n3_; have GE135 := n4_; have NB109_135 := n5_; have NB135_109 := n6_; have NB110_135 := n7_; have NB135_110 := n8_; have HB := n9_; clear n0_ n1_ n2_ n3_ n4_ n5_ n6_ n7_ n8_ n9_
                                   have hHeld : w59.cell? ⟨gb109, 0, none⟩ = some (.bool t101) ∧ w59.cell? ⟨gb109, 1, none⟩ = some (.int .i64 t102) ∧ w59.cell? ⟨gb109, 2, none⟩ = some (.int .i64 t103) ∧ w59.cell? ⟨gb109, 3, none⟩ = some (.int .u64 t104) ∧ w59.cell? ⟨gb110, 0, none⟩ = some (.bool t105) ∧ w59.cell? ⟨gb110, 1, none⟩ = some (.int .i64 t106) ∧ w59.cell? ⟨gb110, 2, none⟩ = some (.int .i64 t107) ∧ w59.cell? ⟨gb110, 3, none⟩ = some (.int .u64 t108) := hS_
                                   refine norm_ (a' := ?_) ?_ ?_
                                   rotate_left
                                   · simp only [putAll, Act.put, List.setIfInBounds_toArray, List.set_cons_zero, List.set_cons_succ]
                                     rfl
                                   refine two_ (i := 6) (j := 13) (Ni := some 74) (Nj := some 12) #[true, true, true, true, true, true, true, false, false, false, false, false, true, false, false, false, false] #[true, true, true, true, true, true, false, false, false, false, false, false, true, true, false, false, false] rfl rfl rfl rfl (two_of HT_.out (by kernel_rfl)) (by decide) (by decide) (fun K hK => ?_) (fun K hK => ?_)
                                   · skip
                                     refine goes_ Try.func19 (by kernel_rfl) rfl #[.int .u64 t108] (by rfl) rfl rfl (by (try simp only [List.map_toArray, List.map_cons, List.map_nil]); first | done | rfl | (simp only [List.length_drop, List.length_take]; rfl)) ?_
                                     with_reducible refine (wide_Of.calls t108 t123 t124 t125 t126 _ A49.out).mono ?_
                                     rintro e w60 ⟨rfl, hb⟩
                                     refine ⟨_, rfl, ?_⟩
                                     have n0_ := Aside0.mk (blk_below BK109.out hb)
                                     have n1_ := Aside0.mk (blk_below BK110.out hb)
                                     have n2_ := Aside0.mk (blk_below BK135.out hb)
                                     have n3_ := Aside0.mk (below_step HB.out hb)
                                     clear BK109 BK110 BK135 HB; have BK109 := n0_; have BK110 := n1_; have BK135 := n2_; have HB := n3_; clear n0_ n1_ n2_ n3_
                                     (try clear hb)
                                     (try clear hb2)
                                     (try clear hk)
                                     (try clear hi)
                                     refine hK.out _ _ ⟨(blk_cell BK109.out 0).trans rfl, (blk_cell BK109.out 1).trans rfl, (blk_cell BK109.out 2).trans rfl, (blk_cell BK109.out 3).trans rfl, (blk_cell BK110.out 0).trans rfl, (blk_cell BK110.out 1).trans rfl, (blk_cell BK110.out 2).trans rfl, (blk_cell BK110.out 3).trans rfl⟩ (fun hHeld => ?_)
                                     clear hK K
                                     refine norm_ (a' := ?_) ?_ ?_
                                     rotate_left
                                     · show Act.put _ (some 74) _ = _
                                       simp only [Act.put, List.setIfInBounds_toArray, List.set_cons_zero, List.set_cons_succ, i64_w, i32_w]
                                       rfl
                                     exact norm_ (by simp only [putAll, Act.put, List.setIfInBounds_toArray, List.set_cons_zero, List.set_cons_succ] <;> rfl) (hJ2_3_6_12 (gb135) _ ⟨hHeld, BK109.out, BK110.out, BK135.out, GW135.out, GE135.out, NB109_135.out, NB135_109.out, NB110_135.out, NB135_110.out, HB.out⟩)
                                   · skip
                                     refine box_step ?hg (N := 12) ?hd (cs := #[.int .u64 0, .int .u64 0, .int .u64 0, .int .u64 0]) (t := 41) ?hr ?_; (case hd => rfl); (case hg => rfl); (case hr => first | (go_simp; done) | (go_simp; rfl))
                                     intro gb136 hg w60 hbox hb
                                     have n0_ := Aside0.mk (blk_below BK109.out hb)
                                     have n1_ := Aside0.mk (blk_below BK110.out hb)
                                     have n2_ := Aside0.mk (blk_below BK135.out hb)
                                     have n3_ := Aside0.mk (below_step HB.out hb)
                                     have n4_ := Aside0.mk (hbox)
                                     have n5_ := Aside0.mk ((by rw [hg]; exact (below_size HB.out) : w.heap.size ≤ gb136))
                                     have n6_ := Aside0.mk ((by rw [hg]; exact (below_size HB.out) : w.heap.size ≤ gb136))
                                     have n7_ := Aside0.mk ((by rw [hg]; exact Nat.ne_of_lt (blk_lt BK109.out) : gb109 ≠ gb136))
                                     have n8_ := Aside0.mk ((by rw [hg]; exact Nat.ne_of_gt (blk_lt BK109.out) : gb136 ≠ gb109))
                                     have n9_ := Aside0.mk ((by rw [hg]; exact Nat.ne_of_lt (blk_lt BK110.out) : gb110 ≠ gb136))
                                     have n10_ := Aside0.mk ((by rw [hg]; exact Nat.ne_of_gt (blk_lt BK110.out) : gb136 ≠ gb110))
                                     have n11_ := Aside0.mk ((by rw [hg]; exact Nat.ne_of_lt (blk_lt BK135.out) : gb135 ≠ gb136))
                                     have n12_ := Aside0.mk ((by rw [hg]; exact Nat.ne_of_gt (blk_lt BK135.out) : gb136 ≠ gb135))
                                     clear BK109 BK110 BK135 HB; have BK109 := n0_; have BK110 := n1_; have BK135 := n2_; have HB := n3_; have BK136 := n4_; have GW136 := n5_; have GE136 := n6_; have NB109_136 := n7_; have NB136_109 := n8_; have NB110_136 := n9_; have NB136_110 := n10_; have NB135_136 := n11_; have NB136_135 := n12_; clear n0_ n1_ n2_ n3_ n4_ n5_ n6_ n7_ n8_ n9_ n10_ n11_ n12_ hb hbox hg
                                     refine hK.out _ _ ⟨(blk_cell BK109.out 0).trans rfl, (blk_cell BK109.out 1).trans rfl, (blk_cell BK109.out 2).trans rfl, (blk_cell BK109.out 3).trans rfl, (blk_cell BK110.out 0).trans rfl, (blk_cell BK110.out 1).trans rfl, (blk_cell BK110.out 2).trans rfl, (blk_cell BK110.out 3).trans rfl⟩ (fun hHeld => ?_)
                                     clear hK K
                                     refine norm_ (a' := ?_) ?_ ?_
                                     rotate_left
                                     · show Act.put _ (some 12) _ = _
                                       simp only [Act.put, List.setIfInBounds_toArray, List.set_cons_zero, List.set_cons_succ, i64_w, i32_w]
                                       rfl
                                     exact norm_ (by simp only [putAll, Act.put, List.setIfInBounds_toArray, List.set_cons_zero, List.set_cons_succ] <;> rfl) (hJ2_3_12_13 (gb135, gb136) _ ⟨hHeld, BK109.out, BK110.out, BK135.out, BK136.out, GW135.out, GE135.out, NB109_135.out, NB135_109.out, NB110_135.out, NB135_110.out, NB136_135.out, NB135_136.out, GW136.out, GE136.out, NB109_136.out, NB136_109.out, NB110_136.out, NB136_110.out, HB.out⟩)
                               · skip
                                 rintro _ w59 ⟨hS_, h0_, h1_, h2_⟩
                                 have n0_ : Aside0 (w59.heap[gb109]? = some (.cells #[.bool t101, .int .i64 t102, .int .i64 t103, .int .u64 t104] 36 (0, 0))) := ⟨h0_⟩
                                 have n1_ : Aside0 (w59.heap[gb110]? = some (.cells #[.bool t105, .int .i64 t106, .int .i64 t107, .int .u64 t108] 36 (0, 0))) := ⟨h1_⟩
                                 have n2_ : Aside0 (Below w.heap.size w w59) := ⟨h2_⟩
                                 clear BK109 BK110 HB h0_ h1_ h2_; have BK109 := n0_; have BK110 := n1_; have HB := n2_; clear n0_ n1_ n2_
                                 have hHeld : w59.cell? ⟨gb109, 0, none⟩ = some (.bool t101) ∧ w59.cell? ⟨gb109, 1, none⟩ = some (.int .i64 t102) ∧ w59.cell? ⟨gb109, 2, none⟩ = some (.int .i64 t103) ∧ w59.cell? ⟨gb109, 3, none⟩ = some (.int .u64 t104) ∧ w59.cell? ⟨gb110, 0, none⟩ = some (.bool t105) ∧ w59.cell? ⟨gb110, 1, none⟩ = some (.int .i64 t106) ∧ w59.cell? ⟨gb110, 2, none⟩ = some (.int .i64 t107) ∧ w59.cell? ⟨gb110, 3, none⟩ = some (.int .u64 t108) := hS_
                                 refine norm_ (a' := ?_) ?_ ?_
                                 rotate_left
                                 · simp only [putAll, Act.put, List.setIfInBounds_toArray, List.set_cons_zero, List.set_cons_succ]
                                   rfl
                                 refine three_ (i := 7) (j := 12) (k := 13) (Ni := some 75) (Nj := some 11) (Nk := some 12) #[true, true, true, true, true, true, true, true, false, false, false, false, false, false, false, false, false] #[true, true, true, true, true, true, true, false, false, false, false, false, true, false, false, false, false] #[true, true, true, true, true, true, true, false, false, false, false, false, false, true, false, false, false] rfl rfl rfl rfl rfl rfl (three_of HT_.out (by kernel_rfl)) (by decide) (by decide) (by decide) (fun K hK => ?_) (fun K hK => ?_) (fun K hK => ?_)
                                 · skip
                                   refine goes_ Try.func17 (by kernel_rfl) rfl #[.agg #[.int .u64 t119, .int .u64 t120, .int .u64 t121, .int .u64 t122], .agg #[.int .u64 t123, .int .u64 t124, .int .u64 t125, .int .u64 t126]] (by rfl) rfl rfl (by (try simp only [List.map_toArray, List.map_cons, List.map_nil]); first | done | rfl | (simp only [List.length_drop, List.length_take]; rfl)) ?_
                                   with_reducible refine (wide_DivMod.calls t119 t120 t121 t122 t123 t124 t125 t126 t127 t128 t129 t130 t131 t132 t133 t134 _ A50.out).mono ?_
                                   rintro e w60 ⟨rfl, hb⟩
                                   refine ⟨_, rfl, ?_⟩
                                   have n0_ := Aside0.mk (blk_below BK109.out hb)
                                   have n1_ := Aside0.mk (blk_below BK110.out hb)
                                   have n2_ := Aside0.mk (below_step HB.out hb)
                                   clear BK109 BK110 HB; have BK109 := n0_; have BK110 := n1_; have HB := n2_; clear n0_ n1_ n2_
                                   (try clear hb)
                                   (try clear hb2)
                                   (try clear hk)
                                   (try clear hi)
                                   refine hK.out _ _ ⟨(blk_cell BK109.out 0).trans rfl, (blk_cell BK109.out 1).trans rfl, (blk_cell BK109.out 2).trans rfl, (blk_cell BK109.out 3).trans rfl, (blk_cell BK110.out 0).trans rfl, (blk_cell BK110.out 1).trans rfl, (blk_cell BK110.out 2).trans rfl, (blk_cell BK110.out 3).trans rfl⟩ (fun hHeld => ?_)
                                   clear hK K
                                   refine norm_ (a' := ?_) ?_ ?_
                                   rotate_left
                                   · show Act.put _ (some 75) _ = _
                                     simp only [Act.put, List.setIfInBounds_toArray, List.set_cons_zero, List.set_cons_succ, i64_w, i32_w]
                                     rfl
                                   refine pure_ (i := 8) (N := some 67) (v := ?_) (a' := ?_) #[true, true, true, true, true, true, true, true, true, false, false, false, false, false, false, false, false] rfl rfl (any_of HT_.out (by kernel_rfl)) (fun _ _ _ h => h) (Or.inl ⟨by rfl, ?_⟩) ?_ ?_
                                   rotate_left
                                   · intro w'
                                     go_simp
                                     with_reducible rfl
                                   rotate_left
                                   · simp only [Act.put, List.setIfInBounds_toArray, List.set_cons_zero, List.set_cons_succ, i64_w, i32_w]
                                     rfl
                                   refine pure_ (i := 9) (N := some 76) (v := ?_) (a' := ?_) #[true, true, true, true, true, true, true, true, true, true, false, false, false, false, false, false, false] rfl rfl (any_of HT_.out (by kernel_rfl)) (fun _ _ _ h => h) (Or.inl ⟨by rfl, ?_⟩) ?_ ?_
                                   rotate_left
                                   · intro w'
                                     go_simp
                                     with_reducible rfl
                                   rotate_left
                                   · simp only [Act.put, List.setIfInBounds_toArray, List.set_cons_zero, List.set_cons_succ, i64_w, i32_w]
                                     rfl
                                   refine pure_ (i := 10) (N := some 77) (v := ?_) (a' := ?_) #[true, true, true, true, true, true, true, true, true, true, true, false, false, false, false, false, false] rfl rfl (any_of HT_.out (by kernel_rfl)) (fun _ _ _ h => h) (Or.inl ⟨by rfl, ?_⟩) ?_ ?_
                                   rotate_left
                                   · intro w'
                                     go_simp
                                     with_reducible rfl
                                   rotate_left
                                   · simp only [Act.put, List.setIfInBounds_toArray, List.set_cons_zero, List.set_cons_succ, i64_w, i32_w]
                                     rfl
                                   refine pure_ (i := 11) (N := some 78) (v := ?_) (a' := ?_) #[true, true, true, true, true, true, true, true, true, true, true, true, false, false, false, false, false] rfl rfl (any_of HT_.out (by kernel_rfl)) (fun _ _ _ h => h) (Or.inl ⟨by rfl, ?_⟩) ?_ ?_
                                   rotate_left
                                   · intro w'
                                     go_simp
                                     with_reducible rfl
                                   rotate_left
                                   · simp only [Act.put, List.setIfInBounds_toArray, List.set_cons_zero, List.set_cons_succ, i64_w, i32_w]
                                     rfl
                                   exact norm_ (by simp only [putAll, Act.put, List.setIfInBounds_toArray, List.set_cons_zero, List.set_cons_succ] <;> rfl) (hJ2_3_6_7 () _ ⟨hHeld, BK109.out, BK110.out, HB.out⟩)
                                 · skip
                                   refine box_step ?hg (N := 11) ?hd (cs := #[.int .u64 0, .int .u64 0, .int .u64 0, .int .u64 0]) (t := 41) ?hr ?_; (case hd => rfl); (case hg => rfl); (case hr => first | (go_simp; done) | (go_simp; rfl))
                                   intro gb135 hg w60 hbox hb
                                   have n0_ := Aside0.mk (blk_below BK109.out hb)
                                   have n1_ := Aside0.mk (blk_below BK110.out hb)
                                   have n2_ := Aside0.mk (below_step HB.out hb)
                                   have n3_ := Aside0.mk (hbox)
                                   have n4_ := Aside0.mk ((by rw [hg]; exact (below_size HB.out) : w.heap.size ≤ gb135))
                                   have n5_ := Aside0.mk ((by rw [hg]; exact (below_size HB.out) : w.heap.size ≤ gb135))
                                   have n6_ := Aside0.mk ((by rw [hg]; exact Nat.ne_of_lt (blk_lt BK109.out) : gb109 ≠ gb135))
                                   have n7_ := Aside0.mk ((by rw [hg]; exact Nat.ne_of_gt (blk_lt BK109.out) : gb135 ≠ gb109))
                                   have n8_ := Aside0.mk ((by rw [hg]; exact Nat.ne_of_lt (blk_lt BK110.out) : gb110 ≠ gb135))
                                   have n9_ := Aside0.mk ((by rw [hg]; exact Nat.ne_of_gt (blk_lt BK110.out) : gb135 ≠ gb110))
                                   clear BK109 BK110 HB; have BK109 := n0_; have BK110 := n1_; have HB := n2_; have BK135 := n3_; have GW135 := n4_; have GE135 := n5_; have NB109_135 := n6_; have NB135_109 := n7_; have NB110_135 := n8_; have NB135_110 := n9_; clear n0_ n1_ n2_ n3_ n4_ n5_ n6_ n7_ n8_ n9_ hb hbox hg
                                   refine hK.out _ _ ⟨(blk_cell BK109.out 0).trans rfl, (blk_cell BK109.out 1).trans rfl, (blk_cell BK109.out 2).trans rfl, (blk_cell BK109.out 3).trans rfl, (blk_cell BK110.out 0).trans rfl, (blk_cell BK110.out 1).trans rfl, (blk_cell BK110.out 2).trans rfl, (blk_cell BK110.out 3).trans rfl⟩ (fun hHeld => ?_)
                                   clear hK K
                                   refine norm_ (a' := ?_) ?_ ?_
                                   rotate_left
                                   · show Act.put _ (some 11) _ = _
                                     simp only [Act.put, List.setIfInBounds_toArray, List.set_cons_zero, List.set_cons_succ, i64_w, i32_w]
                                     rfl
                                   exact norm_ (by simp only [putAll, Act.put, List.setIfInBounds_toArray, List.set_cons_zero, List.set_cons_succ] <;> rfl) (hJ2_3_6_12 (gb135) _ ⟨hHeld, BK109.out, BK110.out, BK135.out, GW135.out, GE135.out, NB109_135.out, NB135_109.out, NB110_135.out, NB135_110.out, HB.out⟩)
                                 · skip
                                   refine box_step ?hg (N := 12) ?hd (cs := #[.int .u64 0, .int .u64 0, .int .u64 0, .int .u64 0]) (t := 41) ?hr ?_; (case hd => rfl); (case hg => rfl); (case hr => first | (go_simp; done) | (go_simp; rfl))
                                   intro gb136 hg w60 hbox hb
                                   have n0_ := Aside0.mk (blk_below BK109.out hb)
                                   have n1_ := Aside0.mk (blk_below BK110.out hb)
                                   have n2_ := Aside0.mk (below_step HB.out hb)
                                   have n3_ := Aside0.mk (hbox)
                                   have n4_ := Aside0.mk ((by rw [hg]; exact (below_size HB.out) : w.heap.size ≤ gb136))
                                   have n5_ := Aside0.mk ((by rw [hg]; exact (below_size HB.out) : w.heap.size ≤ gb136))
                                   have n6_ := Aside0.mk ((by rw [hg]; exact Nat.ne_of_lt (blk_lt BK109.out) : gb109 ≠ gb136))
                                   have n7_ := Aside0.mk ((by rw [hg]; exact Nat.ne_of_gt (blk_lt BK109.out) : gb136 ≠ gb109))
                                   have n8_ := Aside0.mk ((by rw [hg]; exact Nat.ne_of_lt (blk_lt BK110.out) : gb110 ≠ gb136))
                                   have n9_ := Aside0.mk ((by rw [hg]; exact Nat.ne_of_gt (blk_lt BK110.out) : gb136 ≠ gb110))
                                   clear BK109 BK110 HB; have BK109 := n0_; have BK110 := n1_; have HB := n2_; have BK136 := n3_; have GW136 := n4_; have GE136 := n5_; have NB109_136 := n6_; have NB136_109 := n7_; have NB110_136 := n8_; have NB136_110 := n9_; clear n0_ n1_ n2_ n3_ n4_ n5_ n6_ n7_ n8_ n9_ hb hbox hg
                                   refine hK.out _ _ ⟨(blk_cell BK109.out 0).trans rfl, (blk_cell BK109.out 1).trans rfl, (blk_cell BK109.out 2).trans rfl, (blk_cell BK109.out 3).trans rfl, (blk_cell BK110.out 0).trans rfl, (blk_cell BK110.out 1).trans rfl, (blk_cell BK110.out 2).trans rfl, (blk_cell BK110.out 3).trans rfl⟩ (fun hHeld => ?_)
                                   clear hK K
                                   refine norm_ (a' := ?_) ?_ ?_
                                   rotate_left
                                   · show Act.put _ (some 12) _ = _
                                     simp only [Act.put, List.setIfInBounds_toArray, List.set_cons_zero, List.set_cons_succ, i64_w, i32_w]
                                     rfl
                                   exact norm_ (by simp only [putAll, Act.put, List.setIfInBounds_toArray, List.set_cons_zero, List.set_cons_succ] <;> rfl) (hJ2_3_6_13 (gb136) _ ⟨hHeld, BK109.out, BK110.out, BK136.out, GW136.out, GE136.out, NB109_136.out, NB136_109.out, NB110_136.out, NB136_110.out, HB.out⟩)
                             · skip
                               rintro ⟨gb135, gb136⟩ w60 ⟨hS_, h0_, h1_, h2_, h3_, h4_, h5_, h6_, h7_, h8_, h9_, h10_, h11_, h12_, h13_, h14_, h15_, h16_, h17_, h18_⟩
                               have n0_ : Aside0 (w60.heap[gb109]? = some (.cells #[.bool t101, .int .i64 t102, .int .i64 t103, .int .u64 t104] 36 (0, 0))) := ⟨h0_⟩
                               have n1_ : Aside0 (w60.heap[gb110]? = some (.cells #[.bool t105, .int .i64 t106, .int .i64 t107, .int .u64 t108] 36 (0, 0))) := ⟨h1_⟩
                               have n2_ : Aside0 (w60.heap[gb135]? = some (.cells #[.int .u64 0, .int .u64 0, .int .u64 0, .int .u64 0] 41 (0, 0))) := ⟨h2_⟩
                               have n3_ : Aside0 (w60.heap[gb136]? = some (.cells #[.int .u64 0, .int .u64 0, .int .u64 0, .int .u64 0] 41 (0, 0))) := ⟨h3_⟩
                               have n4_ : Aside0 (w.heap.size ≤ gb135) := ⟨h4_⟩
                               have n5_ : Aside0 (w.heap.size ≤ gb135) := ⟨h5_⟩
                               have n6_ : Aside0 (gb109 ≠ gb135) := ⟨h6_⟩
                               have n7_ : Aside0 (gb135 ≠ gb109) := ⟨h7_⟩
                               have n8_ : Aside0 (gb110 ≠ gb135) := ⟨h8_⟩
                               have n9_ : Aside0 (gb135 ≠ gb110) := ⟨h9_⟩
                               have n10_ : Aside0 (gb136 ≠ gb135) := ⟨h10_⟩
                               have n11_ : Aside0 (gb135 ≠ gb136) := ⟨h11_⟩
                               have n12_ : Aside0 (w.heap.size ≤ gb136) := ⟨h12_⟩
                               have n13_ : Aside0 (w.heap.size ≤ gb136) := ⟨h13_⟩
                               have n14_ : Aside0 (gb109 ≠ gb136) := ⟨h14_⟩
                               have n15_ : Aside0 (gb136 ≠ gb109) := ⟨h15_⟩
                               have n16_ : Aside0 (gb110 ≠ gb136) := ⟨h16_⟩
                               have n17_ : Aside0 (gb136 ≠ gb110) := ⟨h17_⟩
                               have n18_ : Aside0 (Below w.heap.size w w60) := ⟨h18_⟩
                               clear BK109 BK110 HB h0_ h1_ h2_ h3_ h4_ h5_ h6_ h7_ h8_ h9_ h10_ h11_ h12_ h13_ h14_ h15_ h16_ h17_ h18_; have BK109 := n0_; have BK110 := n1_; have BK135 := n2_; have BK136 := n3_; have GW135 := n4_; have GE135 := n5_; have NB109_135 := n6_; have NB135_109 := n7_; have NB110_135 := n8_; have NB135_110 := n9_; have NB136_135 := n10_; have NB135_136 := n11_; have GW136 := n12_; have GE136 := n13_; have NB109_136 := n14_; have NB136_109 := n15_; have NB110_136 := n16_; have NB136_110 := n17_; have HB := n18_; clear n0_ n1_ n2_ n3_ n4_ n5_ n6_ n7_ n8_ n9_ n10_ n11_ n12_ n13_ n14_ n15_ n16_ n17_ n18_
                               have hHeld : w60.cell? ⟨gb109, 0, none⟩ = some (.bool t101) ∧ w60.cell? ⟨gb109, 1, none⟩ = some (.int .i64 t102) ∧ w60.cell? ⟨gb109, 2, none⟩ = some (.int .i64 t103) ∧ w60.cell? ⟨gb109, 3, none⟩ = some (.int .u64 t104) ∧ w60.cell? ⟨gb110, 0, none⟩ = some (.bool t105) ∧ w60.cell? ⟨gb110, 1, none⟩ = some (.int .i64 t106) ∧ w60.cell? ⟨gb110, 2, none⟩ = some (.int .i64 t107) ∧ w60.cell? ⟨gb110, 3, none⟩ = some (.int .u64 t108) := hS_
                               refine norm_ (a' := ?_) ?_ ?_
                               rotate_left
                               · simp only [putAll, Act.put, List.setIfInBounds_toArray, List.set_cons_zero, List.set_cons_succ]
                                 rfl
                               refine one_ (i := 6) (N := some 74) #[true, true, true, true, true, true, true, false, false, false, false, false, true, true, false, false, false] rfl rfl (one_of HT_.out (by kernel_rfl)) (by decide) (fun K hK => ?_)
                               refine goes_ Try.func19 (by kernel_rfl) rfl #[.int .u64 t108] (by rfl) rfl rfl (by (try simp only [List.map_toArray, List.map_cons, List.map_nil]); first | done | rfl | (simp only [List.length_drop, List.length_take]; rfl)) ?_
                               with_reducible refine (wide_Of.calls t108 t123 t124 t125 t126 _ A49.out).mono ?_
                               rintro e w61 ⟨rfl, hb⟩
                               refine ⟨_, rfl, ?_⟩
                               have n0_ := Aside0.mk (blk_below BK109.out hb)
                               have n1_ := Aside0.mk (blk_below BK110.out hb)
                               have n2_ := Aside0.mk (blk_below BK135.out hb)
                               have n3_ := Aside0.mk (blk_below BK136.out hb)
                               have n4_ := Aside0.mk (below_step HB.out hb)
                               clear BK109 BK110 BK135 BK136 HB; have BK109 := n0_; have BK110 := n1_; have BK135 := n2_; have BK136 := n3_; have HB := n4_; clear n0_ n1_ n2_ n3_ n4_
                               (try clear hb)
                               (try clear hb2)
                               (try clear hk)
                               (try clear hi)
                               refine hK.out _ _ ⟨(blk_cell BK109.out 0).trans rfl, (blk_cell BK109.out 1).trans rfl, (blk_cell BK109.out 2).trans rfl, (blk_cell BK109.out 3).trans rfl, (blk_cell BK110.out 0).trans rfl, (blk_cell BK110.out 1).trans rfl, (blk_cell BK110.out 2).trans rfl, (blk_cell BK110.out 3).trans rfl⟩ (fun hHeld => ?_)
                               clear hK K
                               refine norm_ (a' := ?_) ?_ ?_
                               rotate_left
                               · show Act.put _ (some 74) _ = _
                                 simp only [Act.put, List.setIfInBounds_toArray, List.set_cons_zero, List.set_cons_succ, i64_w, i32_w]
                                 rfl
                               exact norm_ (by simp only [putAll, Act.put, List.setIfInBounds_toArray, List.set_cons_zero, List.set_cons_succ] <;> rfl) (hJ2_3_6_12_13 (gb135, gb136) _ ⟨hHeld, BK109.out, BK110.out, BK135.out, BK136.out, GW135.out, GE135.out, NB109_135.out, NB135_109.out, NB110_135.out, NB135_110.out, NB136_135.out, NB135_136.out, GW136.out, GE136.out, NB109_136.out, NB136_109.out, NB110_136.out, NB136_110.out, HB.out⟩)
                           · skip
                             rintro gb136 w60 ⟨hS_, h0_, h1_, h2_, h3_, h4_, h5_, h6_, h7_, h8_, h9_⟩
                             have n0_ : Aside0 (w60.heap[gb109]? = some (.cells #[.bool t101, .int .i64 t102, .int .i64 t103, .int .u64 t104] 36 (0, 0))) := ⟨h0_⟩
                             have n1_ : Aside0 (w60.heap[gb110]? = some (.cells #[.bool t105, .int .i64 t106, .int .i64 t107, .int .u64 t108] 36 (0, 0))) := ⟨h1_⟩
                             have n2_ : Aside0 (w60.heap[gb136]? = some (.cells #[.int .u64 0, .int .u64 0, .int .u64 0, .int .u64 0] 41 (0, 0))) := ⟨h2_⟩
                             have n3_ : Aside0 (w.heap.size ≤ gb136) := ⟨h3_⟩
                             have n4_ : Aside0 (w.heap.size ≤ gb136) := ⟨h4_⟩
                             have n5_ : Aside0 (gb109 ≠ gb136) := ⟨h5_⟩
                             have n6_ : Aside0 (gb136 ≠ gb109) := ⟨h6_⟩
                             have n7_ : Aside0 (gb110 ≠ gb136) := ⟨h7_⟩
                             have n8_ : Aside0 (gb136 ≠ gb110) := ⟨h8_⟩
                             have n9_ : Aside0 (Below w.heap.size w w60) := ⟨h9_⟩
                             clear BK109 BK110 HB h0_ h1_ h2_ h3_ h4_ h5_ h6_ h7_ h8_ h9_; have BK109 := n0_; have BK110 := n1_; have BK136 := n2_; have GW136 := n3_; have GE136 := n4_; have NB109_136 := n5_; have NB136_109 := n6_; have NB110_136 := n7_; have NB136_110 := n8_; have HB := n9_; clear n0_ n1_ n2_ n3_ n4_ n5_ n6_ n7_ n8_ n9_
                             have hHeld : w60.cell? ⟨gb109, 0, none⟩ = some (.bool t101) ∧ w60.cell? ⟨gb109, 1, none⟩ = some (.int .i64 t102) ∧ w60.cell? ⟨gb109, 2, none⟩ = some (.int .i64 t103) ∧ w60.cell? ⟨gb109, 3, none⟩ = some (.int .u64 t104) ∧ w60.cell? ⟨gb110, 0, none⟩ = some (.bool t105) ∧ w60.cell? ⟨gb110, 1, none⟩ = some (.int .i64 t106) ∧ w60.cell? ⟨gb110, 2, none⟩ = some (.int .i64 t107) ∧ w60.cell? ⟨gb110, 3, none⟩ = some (.int .u64 t108) := hS_
                             refine norm_ (a' := ?_) ?_ ?_
                             rotate_left
                             · simp only [putAll, Act.put, List.setIfInBounds_toArray, List.set_cons_zero, List.set_cons_succ]
                               rfl
                             refine two_ (i := 7) (j := 12) (Ni := some 75) (Nj := some 11) #[true, true, true, true, true, true, true, true, false, false, false, false, false, true, false, false, false] #[true, true, true, true, true, true, true, false, false, false, false, false, true, true, false, false, false] rfl rfl rfl rfl (two_of HT_.out (by kernel_rfl)) (by decide) (by decide) (fun K hK => ?_) (fun K hK => ?_)
                             · skip
                               refine goes_ Try.func17 (by kernel_rfl) rfl #[.agg #[.int .u64 t119, .int .u64 t120, .int .u64 t121, .int .u64 t122], .agg #[.int .u64 t123, .int .u64 t124, .int .u64 t125, .int .u64 t126]] (by rfl) rfl rfl (by (try simp only [List.map_toArray, List.map_cons, List.map_nil]); first | done | rfl | (simp only [List.length_drop, List.length_take]; rfl)) ?_
                               with_reducible refine (wide_DivMod.calls t119 t120 t121 t122 t123 t124 t125 t126 t127 t128 t129 t130 t131 t132 t133 t134 _ A50.out).mono ?_
                               rintro e w61 ⟨rfl, hb⟩
                               refine ⟨_, rfl, ?_⟩
                               have n0_ := Aside0.mk (blk_below BK109.out hb)
                               have n1_ := Aside0.mk (blk_below BK110.out hb)
                               have n2_ := Aside0.mk (blk_below BK136.out hb)
                               have n3_ := Aside0.mk (below_step HB.out hb)
                               clear BK109 BK110 BK136 HB; have BK109 := n0_; have BK110 := n1_; have BK136 := n2_; have HB := n3_; clear n0_ n1_ n2_ n3_
                               (try clear hb)
                               (try clear hb2)
                               (try clear hk)
                               (try clear hi)
                               refine hK.out _ _ ⟨(blk_cell BK109.out 0).trans rfl, (blk_cell BK109.out 1).trans rfl, (blk_cell BK109.out 2).trans rfl, (blk_cell BK109.out 3).trans rfl, (blk_cell BK110.out 0).trans rfl, (blk_cell BK110.out 1).trans rfl, (blk_cell BK110.out 2).trans rfl, (blk_cell BK110.out 3).trans rfl⟩ (fun hHeld => ?_)
                               clear hK K
                               refine norm_ (a' := ?_) ?_ ?_
                               rotate_left
                               · show Act.put _ (some 75) _ = _
                                 simp only [Act.put, List.setIfInBounds_toArray, List.set_cons_zero, List.set_cons_succ, i64_w, i32_w]
                                 rfl
                               refine pure_ (i := 8) (N := some 67) (v := ?_) (a' := ?_) #[true, true, true, true, true, true, true, true, true, false, false, false, false, true, false, false, false] rfl rfl (any_of HT_.out (by kernel_rfl)) (fun _ _ _ h => h) (Or.inl ⟨by rfl, ?_⟩) ?_ ?_
                               rotate_left
                               · intro w'
                                 go_simp
                                 with_reducible rfl
                               rotate_left
                               · simp only [Act.put, List.setIfInBounds_toArray, List.set_cons_zero, List.set_cons_succ, i64_w, i32_w]
                                 rfl
                               refine pure_ (i := 9) (N := some 76) (v := ?_) (a' := ?_) #[true, true, true, true, true, true, true, true, true, true, false, false, false, true, false, false, false] rfl rfl (any_of HT_.out (by kernel_rfl)) (fun _ _ _ h => h) (Or.inl ⟨by rfl, ?_⟩) ?_ ?_
                               rotate_left
                               · intro w'
                                 go_simp
                                 with_reducible rfl
                               rotate_left
                               · simp only [Act.put, List.setIfInBounds_toArray, List.set_cons_zero, List.set_cons_succ, i64_w, i32_w]
                                 rfl
                               refine pure_ (i := 10) (N := some 77) (v := ?_) (a' := ?_) #[true, true, true, true, true, true, true, true, true, true, true, false, false, true, false, false, false] rfl rfl (any_of HT_.out (by kernel_rfl)) (fun _ _ _ h => h) (Or.inl ⟨by rfl, ?_⟩) ?_ ?_
                               rotate_left
                               · intro w'
                                 go_simp
                                 with_reducible rfl
                               rotate_left
                               · simp only [Act.put, List.setIfInBounds_toArray, List.set_cons_zero, List.set_cons_succ, i64_w, i32_w]
                                 rfl
                               refine pure_ (i := 11) (N := some 78) (v := ?_) (a' := ?_) #[true, true, true, true, true, true, true, true, true, true, true, true, false, true, false, false, false] rfl rfl (any_of HT_.out (by kernel_rfl)) (fun _ _ _ h => h) (Or.inl ⟨by rfl, ?_⟩) ?_ ?_
                               rotate_left
                               · intro w'
                                 go_simp
                                 with_reducible rfl
                               rotate_left
                               · simp only [Act.put, List.setIfInBounds_toArray, List.set_cons_zero, List.set_cons_succ, i64_w, i32_w]
                                 rfl
                               exact norm_ (by simp only [putAll, Act.put, List.setIfInBounds_toArray, List.set_cons_zero, List.set_cons_succ] <;> rfl) (hJ2_3_6_7_13 (gb136) _ ⟨hHeld, BK109.out, BK110.out, BK136.out, GW136.out, GE136.out, NB109_136.out, NB136_109.out, NB110_136.out, NB136_110.out, HB.out⟩)
                             · skip
                               refine box_step ?hg (N := 11) ?hd (cs := #[.int .u64 0, .int .u64 0, .int .u64 0, .int .u64 0]) (t := 41) ?hr ?_; (case hd => rfl); (case hg => rfl); (case hr => first | (go_simp; done) | (go_simp; rfl))
                               intro gb135 hg w61 hbox hb
                               have n0_ := Aside0.mk (blk_below BK109.out hb)
                               have n1_ := Aside0.mk (blk_below BK110.out hb)
                               have n2_ := Aside0.mk (blk_below BK136.out hb)
                               have n3_ := Aside0.mk (below_step HB.out hb)
                               have n4_ := Aside0.mk (hbox)
                               have n5_ := Aside0.mk ((by rw [hg]; exact (below_size HB.out) : w.heap.size ≤ gb135))
                               have n6_ := Aside0.mk ((by rw [hg]; exact (below_size HB.out) : w.heap.size ≤ gb135))
                               have n7_ := Aside0.mk ((by rw [hg]; exact Nat.ne_of_lt (blk_lt BK109.out) : gb109 ≠ gb135))
                               have n8_ := Aside0.mk ((by rw [hg]; exact Nat.ne_of_gt (blk_lt BK109.out) : gb135 ≠ gb109))
                               have n9_ := Aside0.mk ((by rw [hg]; exact Nat.ne_of_lt (blk_lt BK110.out) : gb110 ≠ gb135))
                               have n10_ := Aside0.mk ((by rw [hg]; exact Nat.ne_of_gt (blk_lt BK110.out) : gb135 ≠ gb110))
                               have n11_ := Aside0.mk ((by rw [hg]; exact Nat.ne_of_lt (blk_lt BK136.out) : gb136 ≠ gb135))
                               have n12_ := Aside0.mk ((by rw [hg]; exact Nat.ne_of_gt (blk_lt BK136.out) : gb135 ≠ gb136))
                               clear BK109 BK110 BK136 HB; have BK109 := n0_; have BK110 := n1_; have BK136 := n2_; have HB := n3_; have BK135 := n4_; have GW135 := n5_; have GE135 := n6_; have NB109_135 := n7_; have NB135_109 := n8_; have NB110_135 := n9_; have NB135_110 := n10_; have NB136_135 := n11_; have NB135_136 := n12_; clear n0_ n1_ n2_ n3_ n4_ n5_ n6_ n7_ n8_ n9_ n10_ n11_ n12_ hb hbox hg
                               refine hK.out _ _ ⟨(blk_cell BK109.out 0).trans rfl, (blk_cell BK109.out 1).trans rfl, (blk_cell BK109.out 2).trans rfl, (blk_cell BK109.out 3).trans rfl, (blk_cell BK110.out 0).trans rfl, (blk_cell BK110.out 1).trans rfl, (blk_cell BK110.out 2).trans rfl, (blk_cell BK110.out 3).trans rfl⟩ (fun hHeld => ?_)
                               clear hK K
                               refine norm_ (a' := ?_) ?_ ?_
                               rotate_left
                               · show Act.put _ (some 11) _ = _
                                 simp only [Act.put, List.setIfInBounds_toArray, List.set_cons_zero, List.set_cons_succ, i64_w, i32_w]
                                 rfl
                               exact norm_ (by simp only [putAll, Act.put, List.setIfInBounds_toArray, List.set_cons_zero, List.set_cons_succ] <;> rfl) (hJ2_3_6_12_13 (gb135, gb136) _ ⟨hHeld, BK109.out, BK110.out, BK135.out, BK136.out, GW135.out, GE135.out, NB109_135.out, NB135_109.out, NB110_135.out, NB135_110.out, NB136_135.out, NB135_136.out, GW136.out, GE136.out, NB109_136.out, NB136_109.out, NB110_136.out, NB136_110.out, HB.out⟩)
                         · skip
                           rintro gb135 w60 ⟨hS_, h0_, h1_, h2_, h3_, h4_, h5_, h6_, h7_, h8_, h9_⟩
                           have n0_ : Aside0 (w60.heap[gb109]? = some (.cells #[.bool t101, .int .i64 t102, .int .i64 t103, .int .u64 t104] 36 (0, 0))) := ⟨h0_⟩
                           have n1_ : Aside0 (w60.heap[gb110]? = some (.cells #[.bool t105, .int .i64 t106, .int .i64 t107, .int .u64 t108] 36 (0, 0))) := ⟨h1_⟩
                           have n2_ : Aside0 (w60.heap[gb135]? = some (.cells #[.int .u64 0, .int .u64 0, .int .u64 0, .int .u64 0] 41 (0, 0))) := ⟨h2_⟩
                           have n3_ : Aside0 (w.heap.size ≤ gb135) := ⟨h3_⟩
                           have n4_ : Aside0 (w.heap.size ≤ gb135) := ⟨h4_⟩
                           have n5_ : Aside0 (gb109 ≠ gb135) := ⟨h5_⟩
                           have n6_ : Aside0 (gb135 ≠ gb109) := ⟨h6_⟩
                           have n7_ : Aside0 (gb110 ≠ gb135) := ⟨h7_⟩
                           have n8_ : Aside0 (gb135 ≠ gb110) := ⟨h8_⟩
                           have n9_ : Aside0 (Below w.heap.size w w60) := ⟨h9_⟩
                           clear BK109 BK110 HB h0_ h1_ h2_ h3_ h4_ h5_ h6_ h7_ h8_ h9_; have BK109 := n0_; have BK110 := n1_; have BK135 := n2_; have GW135 := n3_; have GE135 := n4_; have NB109_135 := n5_; have NB135_109 := n6_; have NB110_135 := n7_; have NB135_110 := n8_; have HB := n9_; clear n0_ n1_ n2_ n3_ n4_ n5_ n6_ n7_ n8_ n9_
                           have hHeld : w60.cell? ⟨gb109, 0, none⟩ = some (.bool t101) ∧ w60.cell? ⟨gb109, 1, none⟩ = some (.int .i64 t102) ∧ w60.cell? ⟨gb109, 2, none⟩ = some (.int .i64 t103) ∧ w60.cell? ⟨gb109, 3, none⟩ = some (.int .u64 t104) ∧ w60.cell? ⟨gb110, 0, none⟩ = some (.bool t105) ∧ w60.cell? ⟨gb110, 1, none⟩ = some (.int .i64 t106) ∧ w60.cell? ⟨gb110, 2, none⟩ = some (.int .i64 t107) ∧ w60.cell? ⟨gb110, 3, none⟩ = some (.int .u64 t108) := hS_
                           refine norm_ (a' := ?_) ?_ ?_
                           rotate_left
                           · simp only [putAll, Act.put, List.setIfInBounds_toArray, List.set_cons_zero, List.set_cons_succ]
                             rfl
                           refine two_ (i := 7) (j := 13) (Ni := some 75) (Nj := some 12) #[true, true, true, true, true, true, true, true, false, false, false, false, true, false, false, false, false] #[true, true, true, true, true, true, true, false, false, false, false, false, true, true, false, false, false] rfl rfl rfl rfl (two_of HT_.out (by kernel_rfl)) (by decide) (by decide) (fun K hK => ?_) (fun K hK => ?_)
                           · skip
                             refine goes_ Try.func17 (by kernel_rfl) rfl #[.agg #[.int .u64 t119, .int .u64 t120, .int .u64 t121, .int .u64 t122], .agg #[.int .u64 t123, .int .u64 t124, .int .u64 t125, .int .u64 t126]] (by rfl) rfl rfl (by (try simp only [List.map_toArray, List.map_cons, List.map_nil]); first | done | rfl | (simp only [List.length_drop, List.length_take]; rfl)) ?_
                             with_reducible refine (wide_DivMod.calls t119 t120 t121 t122 t123 t124 t125 t126 t127 t128 t129 t130 t131 t132 t133 t134 _ A50.out).mono ?_
                             rintro e w61 ⟨rfl, hb⟩
                             refine ⟨_, rfl, ?_⟩
                             have n0_ := Aside0.mk (blk_below BK109.out hb)
                             have n1_ := Aside0.mk (blk_below BK110.out hb)
                             have n2_ := Aside0.mk (blk_below BK135.out hb)
                             have n3_ := Aside0.mk (below_step HB.out hb)
                             clear BK109 BK110 BK135 HB; have BK109 := n0_; have BK110 := n1_; have BK135 := n2_; have HB := n3_; clear n0_ n1_ n2_ n3_
                             (try clear hb)
                             (try clear hb2)
                             (try clear hk)
                             (try clear hi)
                             refine hK.out _ _ ⟨(blk_cell BK109.out 0).trans rfl, (blk_cell BK109.out 1).trans rfl, (blk_cell BK109.out 2).trans rfl, (blk_cell BK109.out 3).trans rfl, (blk_cell BK110.out 0).trans rfl, (blk_cell BK110.out 1).trans rfl, (blk_cell BK110.out 2).trans rfl, (blk_cell BK110.out 3).trans rfl⟩ (fun hHeld => ?_)
                             clear hK K
                             refine norm_ (a' := ?_) ?_ ?_
                             rotate_left
                             · show Act.put _ (some 75) _ = _
                               simp only [Act.put, List.setIfInBounds_toArray, List.set_cons_zero, List.set_cons_succ, i64_w, i32_w]
                               rfl
                             refine pure_ (i := 8) (N := some 67) (v := ?_) (a' := ?_) #[true, true, true, true, true, true, true, true, true, false, false, false, true, false, false, false, false] rfl rfl (any_of HT_.out (by kernel_rfl)) (fun _ _ _ h => h) (Or.inl ⟨by rfl, ?_⟩) ?_ ?_
                             rotate_left
                             · intro w'
                               go_simp
                               with_reducible rfl
                             rotate_left
                             · simp only [Act.put, List.setIfInBounds_toArray, List.set_cons_zero, List.set_cons_succ, i64_w, i32_w]
                               rfl
                             refine pure_ (i := 9) (N := some 76) (v := ?_) (a' := ?_) #[true, true, true, true, true, true, true, true, true, true, false, false, true, false, false, false, false] rfl rfl (any_of HT_.out (by kernel_rfl)) (fun _ _ _ h => h) (Or.inl ⟨by rfl, ?_⟩) ?_ ?_
                             rotate_left
                             · intro w'
                               go_simp
                               with_reducible rfl
                             rotate_left
                             · simp only [Act.put, List.setIfInBounds_toArray, List.set_cons_zero, List.set_cons_succ, i64_w, i32_w]
                               rfl
                             refine pure_ (i := 10) (N := some 77) (v := ?_) (a' := ?_) #[true, true, true, true, true, true, true, true, true, true, true, false, true, false, false, false, false] rfl rfl (any_of HT_.out (by kernel_rfl)) (fun _ _ _ h => h) (Or.inl ⟨by rfl, ?_⟩) ?_ ?_
                             rotate_left
                             · intro w'
                               go_simp
                               with_reducible rfl
                             rotate_left
                             · simp only [Act.put, List.setIfInBounds_toArray, List.set_cons_zero, List.set_cons_succ, i64_w, i32_w]
                               rfl
                             refine pure_ (i := 11) (N := some 78) (v := ?_) (a' := ?_) #[true, true, true, true, true, true, true, true, true, true, true, true, true, false, false, false, false] rfl rfl (any_of HT_.out (by kernel_rfl)) (fun _ _ _ h => h) (Or.inl ⟨by rfl, ?_⟩) ?_ ?_
                             rotate_left
                             · intro w'
                               go_simp
                               with_reducible rfl
                             rotate_left
                             · simp only [Act.put, List.setIfInBounds_toArray, List.set_cons_zero, List.set_cons_succ, i64_w, i32_w]
                               rfl
                             exact norm_ (by simp only [putAll, Act.put, List.setIfInBounds_toArray, List.set_cons_zero, List.set_cons_succ] <;> rfl) (hJ2_3_6_7_12 (gb135) _ ⟨hHeld, BK109.out, BK110.out, BK135.out, GW135.out, GE135.out, NB109_135.out, NB135_109.out, NB110_135.out, NB135_110.out, HB.out⟩)
                           · skip
                             refine box_step ?hg (N := 12) ?hd (cs := #[.int .u64 0, .int .u64 0, .int .u64 0, .int .u64 0]) (t := 41) ?hr ?_; (case hd => rfl); (case hg => rfl); (case hr => first | (go_simp; done) | (go_simp; rfl))
                             intro gb136 hg w61 hbox hb
                             have n0_ := Aside0.mk (blk_below BK109.out hb)
                             have n1_ := Aside0.mk (blk_below BK110.out hb)
                             have n2_ := Aside0.mk (blk_below BK135.out hb)
                             have n3_ := Aside0.mk (below_step HB.out hb)
                             have n4_ := Aside0.mk (hbox)
                             have n5_ := Aside0.mk ((by rw [hg]; exact (below_size HB.out) : w.heap.size ≤ gb136))
                             have n6_ := Aside0.mk ((by rw [hg]; exact (below_size HB.out) : w.heap.size ≤ gb136))
                             have n7_ := Aside0.mk ((by rw [hg]; exact Nat.ne_of_lt (blk_lt BK109.out) : gb109 ≠ gb136))
                             have n8_ := Aside0.mk ((by rw [hg]; exact Nat.ne_of_gt (blk_lt BK109.out) : gb136 ≠ gb109))
                             have n9_ := Aside0.mk ((by rw [hg]; exact Nat.ne_of_lt (blk_lt BK110.out) : gb110 ≠ gb136))
                             have n10_ := Aside0.mk ((by rw [hg]; exact Nat.ne_of_gt (blk_lt BK110.out) : gb136 ≠ gb110))
                             have n11_ := Aside0.mk ((by rw [hg]; exact Nat.ne_of_lt (blk_lt BK135.out) : gb135 ≠ gb136))
                             have n12_ := Aside0.mk ((by rw [hg]; exact Nat.ne_of_gt (blk_lt BK135.out) : gb136 ≠ gb135))
                             clear BK109 BK110 BK135 HB; have BK109 := n0_; have BK110 := n1_; have BK135 := n2_; have HB := n3_; have BK136 := n4_; have GW136 := n5_; have GE136 := n6_; have NB109_136 := n7_; have NB136_109 := n8_; have NB110_136 := n9_; have NB136_110 := n10_; have NB135_136 := n11_; have NB136_135 := n12_; clear n0_ n1_ n2_ n3_ n4_ n5_ n6_ n7_ n8_ n9_ n10_ n11_ n12_ hb hbox hg
                             refine hK.out _ _ ⟨(blk_cell BK109.out 0).trans rfl, (blk_cell BK109.out 1).trans rfl, (blk_cell BK109.out 2).trans rfl, (blk_cell BK109.out 3).trans rfl, (blk_cell BK110.out 0).trans rfl, (blk_cell BK110.out 1).trans rfl, (blk_cell BK110.out 2).trans rfl, (blk_cell BK110.out 3).trans rfl⟩ (fun hHeld => ?_)
                             clear hK K
                             refine norm_ (a' := ?_) ?_ ?_
                             rotate_left
                             · show Act.put _ (some 12) _ = _
                               simp only [Act.put, List.setIfInBounds_toArray, List.set_cons_zero, List.set_cons_succ, i64_w, i32_w]
                               rfl
                             exact norm_ (by simp only [putAll, Act.put, List.setIfInBounds_toArray, List.set_cons_zero, List.set_cons_succ] <;> rfl) (hJ2_3_6_12_13 (gb135, gb136) _ ⟨hHeld, BK109.out, BK110.out, BK135.out, BK136.out, GW135.out, GE135.out, NB109_135.out, NB135_109.out, NB110_135.out, NB135_110.out, NB136_135.out, NB135_136.out, GW136.out, GE136.out, NB109_136.out, NB136_109.out, NB110_136.out, NB136_110.out, HB.out⟩)
                       · skip
                         rintro _ w60 ⟨hS_, h0_, h1_, h2_⟩
                         have n0_ : Aside0 (w60.heap[gb109]? = some (.cells #[.bool t101, .int .i64 t102, .int .i64 t103, .int .u64 t104] 36 (0, 0))) := ⟨h0_⟩
                         have n1_ : Aside0 (w60.heap[gb110]? = some (.cells #[.bool t105, .int .i64 t106, .int .i64 t107, .int .u64 t108] 36 (0, 0))) := ⟨h1_⟩
                         have n2_ : Aside0 (Below w.heap.size w w60) := ⟨h2_⟩
                         clear BK109 BK110 HB h0_ h1_ h2_; have BK109 := n0_; have BK110 := n1_; have HB := n2_; clear n0_ n1_ n2_
                         have hHeld : w60.cell? ⟨gb109, 0, none⟩ = some (.bool t101) ∧ w60.cell? ⟨gb109, 1, none⟩ = some (.int .i64 t102) ∧ w60.cell? ⟨gb109, 2, none⟩ = some (.int .i64 t103) ∧ w60.cell? ⟨gb109, 3, none⟩ = some (.int .u64 t104) ∧ w60.cell? ⟨gb110, 0, none⟩ = some (.bool t105) ∧ w60.cell? ⟨gb110, 1, none⟩ = some (.int .i64 t106) ∧ w60.cell? ⟨gb110, 2, none⟩ = some (.int .i64 t107) ∧ w60.cell? ⟨gb110, 3, none⟩ = some (.int .u64 t108) := hS_
                         refine norm_ (a' := ?_) ?_ ?_
                         rotate_left
                         · simp only [putAll, Act.put, List.setIfInBounds_toArray, List.set_cons_zero, List.set_cons_succ]
                           rfl
                         refine two_ (i := 12) (j := 13) (Ni := some 11) (Nj := some 12) #[true, true, true, true, true, true, true, true, true, true, true, true, true, false, false, false, false] #[true, true, true, true, true, true, true, true, true, true, true, true, false, true, false, false, false] rfl rfl rfl rfl (two_of HT_.out (by kernel_rfl)) (by decide) (by decide) (fun K hK => ?_) (fun K hK => ?_)
                         · skip
                           refine box_step ?hg (N := 11) ?hd (cs := #[.int .u64 0, .int .u64 0, .int .u64 0, .int .u64 0]) (t := 41) ?hr ?_; (case hd => rfl); (case hg => rfl); (case hr => first | (go_simp; done) | (go_simp; rfl))
                           intro gb135 hg w61 hbox hb
                           have n0_ := Aside0.mk (blk_below BK109.out hb)
                           have n1_ := Aside0.mk (blk_below BK110.out hb)
                           have n2_ := Aside0.mk (below_step HB.out hb)
                           have n3_ := Aside0.mk (hbox)
                           have n4_ := Aside0.mk ((by rw [hg]; exact (below_size HB.out) : w.heap.size ≤ gb135))
                           have n5_ := Aside0.mk ((by rw [hg]; exact (below_size HB.out) : w.heap.size ≤ gb135))
                           have n6_ := Aside0.mk ((by rw [hg]; exact Nat.ne_of_lt (blk_lt BK109.out) : gb109 ≠ gb135))
                           have n7_ := Aside0.mk ((by rw [hg]; exact Nat.ne_of_gt (blk_lt BK109.out) : gb135 ≠ gb109))
                           have n8_ := Aside0.mk ((by rw [hg]; exact Nat.ne_of_lt (blk_lt BK110.out) : gb110 ≠ gb135))
                           have n9_ := Aside0.mk ((by rw [hg]; exact Nat.ne_of_gt (blk_lt BK110.out) : gb135 ≠ gb110))
                           clear BK109 BK110 HB; have BK109 := n0_; have BK110 := n1_; have HB := n2_; have BK135 := n3_; have GW135 := n4_; have GE135 := n5_; have NB109_135 := n6_; have NB135_109 := n7_; have NB110_135 := n8_; have NB135_110 := n9_; clear n0_ n1_ n2_ n3_ n4_ n5_ n6_ n7_ n8_ n9_ hb hbox hg
                           refine hK.out _ _ ⟨(blk_cell BK109.out 0).trans rfl, (blk_cell BK109.out 1).trans rfl, (blk_cell BK109.out 2).trans rfl, (blk_cell BK109.out 3).trans rfl, (blk_cell BK110.out 0).trans rfl, (blk_cell BK110.out 1).trans rfl, (blk_cell BK110.out 2).trans rfl, (blk_cell BK110.out 3).trans rfl⟩ (fun hHeld => ?_)
                           clear hK K
                           refine norm_ (a' := ?_) ?_ ?_
                           rotate_left
                           · show Act.put _ (some 11) _ = _
                             simp only [Act.put, List.setIfInBounds_toArray, List.set_cons_zero, List.set_cons_succ, i64_w, i32_w]
                             rfl
                           exact norm_ (by simp only [putAll, Act.put, List.setIfInBounds_toArray, List.set_cons_zero, List.set_cons_succ] <;> rfl) (hJ2_3_6_7_12 (gb135) _ ⟨hHeld, BK109.out, BK110.out, BK135.out, GW135.out, GE135.out, NB109_135.out, NB135_109.out, NB110_135.out, NB135_110.out, HB.out⟩)
                         · skip
                           refine box_step ?hg (N := 12) ?hd (cs := #[.int .u64 0, .int .u64 0, .int .u64 0, .int .u64 0]) (t := 41) ?hr ?_; (case hd => rfl); (case hg => rfl); (case hr => first | (go_simp; done) | (go_simp; rfl))
                           intro gb136 hg w61 hbox hb
                           have n0_ := Aside0.mk (blk_below BK109.out hb)
                           have n1_ := Aside0.mk (blk_below BK110.out hb)
                           have n2_ := Aside0.mk (below_step HB.out hb)
                           have n3_ := Aside0.mk (hbox)
                           have n4_ := Aside0.mk ((by rw [hg]; exact (below_size HB.out) : w.heap.size ≤ gb136))
                           have n5_ := Aside0.mk ((by rw [hg]; exact (below_size HB.out) : w.heap.size ≤ gb136))
                           have n6_ := Aside0.mk ((by rw [hg]; exact Nat.ne_of_lt (blk_lt BK109.out) : gb109 ≠ gb136))
                           have n7_ := Aside0.mk ((by rw [hg]; exact Nat.ne_of_gt (blk_lt BK109.out) : gb136 ≠ gb109))
                           have n8_ := Aside0.mk ((by rw [hg]; exact Nat.ne_of_lt (blk_lt BK110.out) : gb110 ≠ gb136))
                           have n9_ := Aside0.mk ((by rw [hg]; exact Nat.ne_of_gt (blk_lt BK110.out) : gb136 ≠ gb110))
                           clear BK109 BK110 HB; have BK109 := n0_; have BK110 := n1_; have HB := n2_; have BK136 := n3_; have GW136 := n4_; have GE136 := n5_; have NB109_136 := n6_; have NB136_109 := n7_; have NB110_136 := n8_; have NB136_110 := n9_; clear n0_ n1_ n2_ n3_ n4_ n5_ n6_ n7_ n8_ n9_ hb hbox hg
                           refine hK.out _ _ ⟨(blk_cell BK109.out 0).trans rfl, (blk_cell BK109.out 1).trans rfl, (blk_cell BK109.out 2).trans rfl, (blk_cell BK109.out 3).trans rfl, (blk_cell BK110.out 0).trans rfl, (blk_cell BK110.out 1).trans rfl, (blk_cell BK110.out 2).trans rfl, (blk_cell BK110.out 3).trans rfl⟩ (fun hHeld => ?_)
                           clear hK K
                           refine norm_ (a' := ?_) ?_ ?_
                           rotate_left
                           · show Act.put _ (some 12) _ = _
                             simp only [Act.put, List.setIfInBounds_toArray, List.set_cons_zero, List.set_cons_succ, i64_w, i32_w]
                             rfl
                           exact norm_ (by simp only [putAll, Act.put, List.setIfInBounds_toArray, List.set_cons_zero, List.set_cons_succ] <;> rfl) (hJ2_3_6_7_13 (gb136) _ ⟨hHeld, BK109.out, BK110.out, BK136.out, GW136.out, GE136.out, NB109_136.out, NB136_109.out, NB110_136.out, NB136_110.out, HB.out⟩)
                     · skip
                       rintro ⟨gb135, gb136⟩ w61 ⟨hS_, h0_, h1_, h2_, h3_, h4_, h5_, h6_, h7_, h8_, h9_, h10_, h11_, h12_, h13_, h14_, h15_, h16_, h17_, h18_⟩
                       have n0_ : Aside0 (w61.heap[gb109]? = some (.cells #[.bool t101, .int .i64 t102, .int .i64 t103, .int .u64 t104] 36 (0, 0))) := ⟨h0_⟩
                       have n1_ : Aside0 (w61.heap[gb110]? = some (.cells #[.bool t105, .int .i64 t106, .int .i64 t107, .int .u64 t108] 36 (0, 0))) := ⟨h1_⟩
                       have n2_ : Aside0 (w61.heap[gb135]? = some (.cells #[.int .u64 0, .int .u64 0, .int .u64 0, .int .u64 0] 41 (0, 0))) := ⟨h2_⟩
                       have n3_ : Aside0 (w61.heap[gb136]? = some (.cells #[.int .u64 0, .int .u64 0, .int .u64 0, .int .u64 0] 41 (0, 0))) := ⟨h3_⟩
                       have n4_ : Aside0 (w.heap.size ≤ gb135) := ⟨h4_⟩
                       have n5_ : Aside0 (w.heap.size ≤ gb135) := ⟨h5_⟩
                       have n6_ : Aside0 (gb109 ≠ gb135) := ⟨h6_⟩
                       have n7_ : Aside0 (gb135 ≠ gb109) := ⟨h7_⟩
                       have n8_ : Aside0 (gb110 ≠ gb135) := ⟨h8_⟩
                       have n9_ : Aside0 (gb135 ≠ gb110) := ⟨h9_⟩
                       have n10_ : Aside0 (gb136 ≠ gb135) := ⟨h10_⟩
                       have n11_ : Aside0 (gb135 ≠ gb136) := ⟨h11_⟩
                       have n12_ : Aside0 (w.heap.size ≤ gb136) := ⟨h12_⟩
                       have n13_ : Aside0 (w.heap.size ≤ gb136) := ⟨h13_⟩
                       have n14_ : Aside0 (gb109 ≠ gb136) := ⟨h14_⟩
                       have n15_ : Aside0 (gb136 ≠ gb109) := ⟨h15_⟩
                       have n16_ : Aside0 (gb110 ≠ gb136) := ⟨h16_⟩
                       have n17_ : Aside0 (gb136 ≠ gb110) := ⟨h17_⟩
                       have n18_ : Aside0 (Below w.heap.size w w61) := ⟨h18_⟩
                       clear BK109 BK110 HB h0_ h1_ h2_ h3_ h4_ h5_ h6_ h7_ h8_ h9_ h10_ h11_ h12_ h13_ h14_ h15_ h16_ h17_ h18_; have BK109 := n0_; have BK110 := n1_; have BK135 := n2_; have BK136 := n3_; have GW135 := n4_; have GE135 := n5_; have NB109_135 := n6_; have NB135_109 := n7_; have NB110_135 := n8_; have NB135_110 := n9_; have NB136_135 := n10_; have NB135_136 := n11_; have GW136 := n12_; have GE136 := n13_; have NB109_136 := n14_; have NB136_109 := n15_; have NB110_136 := n16_; have NB136_110 := n17_; have HB := n18_; clear n0_ n1_ n2_ n3_ n4_ n5_ n6_ n7_ n8_ n9_ n10_ n11_ n12_ n13_ n14_ n15_ n16_ n17_ n18_
                       have hHeld : w61.cell? ⟨gb109, 0, none⟩ = some (.bool t101) ∧ w61.cell? ⟨gb109, 1, none⟩ = some (.int .i64 t102) ∧ w61.cell? ⟨gb109, 2, none⟩ = some (.int .i64 t103) ∧ w61.cell? ⟨gb109, 3, none⟩ = some (.int .u64 t104) ∧ w61.cell? ⟨gb110, 0, none⟩ = some (.bool t105) ∧ w61.cell? ⟨gb110, 1, none⟩ = some (.int .i64 t106) ∧ w61.cell? ⟨gb110, 2, none⟩ = some (.int .i64 t107) ∧ w61.cell? ⟨gb110, 3, none⟩ = some (.int .u64 t108) := hS_
                       refine norm_ (a' := ?_) ?_ ?_
                       rotate_left
                       · simp only [putAll, Act.put, List.setIfInBounds_toArray, List.set_cons_zero, List.set_cons_succ]
                         rfl
                       refine one_ (i := 7) (N := some 75) #[true, true, true, true, true, true, true, true, false, false, false, false, true, true, false, false, false] rfl rfl (one_of HT_.out (by kernel_rfl)) (by decide) (fun K hK => ?_)
                       refine goes_ Try.func17 (by kernel_rfl) rfl #[.agg #[.int .u64 t119, .int .u64 t120, .int .u64 t121, .int .u64 t122], .agg #[.int .u64 t123, .int .u64 t124, .int .u64 t125, .int .u64 t126]] (by rfl) rfl rfl (by (try simp only [List.map_toArray, List.map_cons, List.map_nil]); first | done | rfl | (simp only [List.length_drop, List.length_take]; rfl)) ?_
                       with_reducible refine (wide_DivMod.calls t119 t120 t121 t122 t123 t124 t125 t126 t127 t128 t129 t130 t131 t132 t133 t134 _ A50.out).mono ?_
                       rintro e w62 ⟨rfl, hb⟩
                       refine ⟨_, rfl, ?_⟩
                       have n0_ := Aside0.mk (blk_below BK109.out hb)
                       have n1_ := Aside0.mk (blk_below BK110.out hb)
                       have n2_ := Aside0.mk (blk_below BK135.out hb)
                       have n3_ := Aside0.mk (blk_below BK136.out hb)
                       have n4_ := Aside0.mk (below_step HB.out hb)
                       clear BK109 BK110 BK135 BK136 HB; have BK109 := n0_; have BK110 := n1_; have BK135 := n2_; have BK136 := n3_; have HB := n4_; clear n0_ n1_ n2_ n3_ n4_
                       (try clear hb)
                       (try clear hb2)
                       (try clear hk)
                       (try clear hi)
                       refine hK.out _ _ ⟨(blk_cell BK109.out 0).trans rfl, (blk_cell BK109.out 1).trans rfl, (blk_cell BK109.out 2).trans rfl, (blk_cell BK109.out 3).trans rfl, (blk_cell BK110.out 0).trans rfl, (blk_cell BK110.out 1).trans rfl, (blk_cell BK110.out 2).trans rfl, (blk_cell BK110.out 3).trans rfl⟩ (fun hHeld => ?_)
                       clear hK K
                       refine norm_ (a' := ?_) ?_ ?_
                       rotate_left
                       · show Act.put _ (some 75) _ = _
                         simp only [Act.put, List.setIfInBounds_toArray, List.set_cons_zero, List.set_cons_succ, i64_w, i32_w]
                         rfl
                       refine pure_ (i := 8) (N := some 67) (v := ?_) (a' := ?_) #[true, true, true, true, true, true, true, true, true, false, false, false, true, true, false, false, false] rfl rfl (any_of HT_.out (by kernel_rfl)) (fun _ _ _ h => h) (Or.inl ⟨by rfl, ?_⟩) ?_ ?_
                       rotate_left
                       · intro w'
                         go_simp
                         with_reducible rfl
                       rotate_left
                       · simp only [Act.put, List.setIfInBounds_toArray, List.set_cons_zero, List.set_cons_succ, i64_w, i32_w]
                         rfl
                       refine pure_ (i := 9) (N := some 76) (v := ?_) (a' := ?_) #[true, true, true, true, true, true, true, true, true, true, false, false, true, true, false, false, false] rfl rfl (any_of HT_.out (by kernel_rfl)) (fun _ _ _ h => h) (Or.inl ⟨by rfl, ?_⟩) ?_ ?_
                       rotate_left
                       · intro w'
                         go_simp
                         with_reducible rfl
                       rotate_left
                       · simp only [Act.put, List.setIfInBounds_toArray, List.set_cons_zero, List.set_cons_succ, i64_w, i32_w]
                         rfl
                       refine pure_ (i := 10) (N := some 77) (v := ?_) (a' := ?_) #[true, true, true, true, true, true, true, true, true, true, true, false, true, true, false, false, false] rfl rfl (any_of HT_.out (by kernel_rfl)) (fun _ _ _ h => h) (Or.inl ⟨by rfl, ?_⟩) ?_ ?_
                       rotate_left
                       · intro w'
                         go_simp
                         with_reducible rfl
                       rotate_left
                       · simp only [Act.put, List.setIfInBounds_toArray, List.set_cons_zero, List.set_cons_succ, i64_w, i32_w]
                         rfl
                       refine pure_ (i := 11) (N := some 78) (v := ?_) (a' := ?_) #[true, true, true, true, true, true, true, true, true, true, true, true, true, true, false, false, false] rfl rfl (any_of HT_.out (by kernel_rfl)) (fun _ _ _ h => h) (Or.inl ⟨by rfl, ?_⟩) ?_ ?_
                       rotate_left
                       · intro w'
                         go_simp
                         with_reducible rfl
                       rotate_left
                       · simp only [Act.put, List.setIfInBounds_toArray, List.set_cons_zero, List.set_cons_succ, i64_w, i32_w]
                         rfl
                       exact norm_ (by simp only [putAll, Act.put, List.setIfInBounds_toArray, List.set_cons_zero, List.set_cons_succ] <;> rfl) (hJ2_3_6_7_12_13 (gb135, gb136) _ ⟨hHeld, BK109.out, BK110.out, BK135.out, BK136.out, GW135.out, GE135.out, NB109_135.out, NB135_109.out, NB110_135.out, NB135_110.out, NB136_135.out, NB135_136.out, GW136.out, GE136.out, NB109_136.out, NB136_109.out, NB110_136.out, NB136_110.out, HB.out⟩)
                   · skip
                     rintro gb136 w61 ⟨hS_, h0_, h1_, h2_, h3_, h4_, h5_, h6_, h7_, h8_, h9_⟩
                     have n0_ : Aside0 (w61.heap[gb109]? = some (.cells #[.bool t101, .int .i64 t102, .int .i64 t103, .int .u64 t104] 36 (0, 0))) := ⟨h0_⟩
                     have n1_ : Aside0 (w61.heap[gb110]? = some (.cells #[.bool t105, .int .i64 t106, .int .i64 t107, .int .u64 t108] 36 (0, 0))) := ⟨h1_⟩
                     have n2_ : Aside0 (w61.heap[gb136]? = some (.cells #[.int .u64 0, .int .u64 0, .int .u64 0, .int .u64 0] 41 (0, 0))) := ⟨h2_⟩
                     have n3_ : Aside0 (w.heap.size ≤ gb136) := ⟨h3_⟩
                     have n4_ : Aside0 (w.heap.size ≤ gb136) := ⟨h4_⟩
                     have n5_ : Aside0 (gb109 ≠ gb136) := ⟨h5_⟩
                     have n6_ : Aside0 (gb136 ≠ gb109) := ⟨h6_⟩
                     have n7_ : Aside0 (gb110 ≠ gb136) := ⟨h7_⟩
                     have n8_ : Aside0 (gb136 ≠ gb110) := ⟨h8_⟩
                     have n9_ : Aside0 (Below w.heap.size w w61) := ⟨h9_⟩
                     clear BK109 BK110 HB h0_ h1_ h2_ h3_ h4_ h5_ h6_ h7_ h8_ h9_; have BK109 := n0_; have BK110 := n1_; have BK136 := n2_; have GW136 := n3_; have GE136 := n4_; have NB109_136 := n5_; have NB136_109 := n6_; have NB110_136 := n7_; have NB136_110 := n8_; have HB := n9_; clear n0_ n1_ n2_ n3_ n4_ n5_ n6_ n7_ n8_ n9_
                     have hHeld : w61.cell? ⟨gb109, 0, none⟩ = some (.bool t101) ∧ w61.cell? ⟨gb109, 1, none⟩ = some (.int .i64 t102) ∧ w61.cell? ⟨gb109, 2, none⟩ = some (.int .i64 t103) ∧ w61.cell? ⟨gb109, 3, none⟩ = some (.int .u64 t104) ∧ w61.cell? ⟨gb110, 0, none⟩ = some (.bool t105) ∧ w61.cell? ⟨gb110, 1, none⟩ = some (.int .i64 t106) ∧ w61.cell? ⟨gb110, 2, none⟩ = some (.int .i64 t107) ∧ w61.cell? ⟨gb110, 3, none⟩ = some (.int .u64 t108) := hS_
                     refine norm_ (a' := ?_) ?_ ?_
                     rotate_left
                     · simp only [putAll, Act.put, List.setIfInBounds_toArray, List.set_cons_zero, List.set_cons_succ]
                       rfl
                     refine one_ (i := 12) (N := some 11) #[true, true, true, true, true, true, true, true, true, true, true, true, true, true, false, false, false] rfl rfl (one_of HT_.out (by kernel_rfl)) (by decide) (fun K hK => ?_)
                     refine box_step ?hg (N := 11) ?hd (cs := #[.int .u64 0, .int .u64 0, .int .u64 0, .int .u64 0]) (t := 41) ?hr ?_; (case hd => rfl); (case hg => rfl); (case hr => first | (go_simp; done) | (go_simp; rfl))
                     intro gb135 hg w62 hbox hb
                     have n0_ := Aside0.mk (blk_below BK109.out hb)
                     have n1_ := Aside0.mk (blk_below BK110.out hb)
                     have n2_ := Aside0.mk (blk_below BK136.out hb)
                     have n3_ := Aside0.mk (below_step HB.out hb)
                     have n4_ := Aside0.mk (hbox)
                     have n5_ := Aside0.mk ((by rw [hg]; exact (below_size HB.out) : w.heap.size ≤ gb135))
                     have n6_ := Aside0.mk ((by rw [hg]; exact (below_size HB.out) : w.heap.size ≤ gb135))
                     have n7_ := Aside0.mk ((by rw [hg]; exact Nat.ne_of_lt (blk_lt BK109.out) : gb109 ≠ gb135))
                     have n8_ := Aside0.mk ((by rw [hg]; exact Nat.ne_of_gt (blk_lt BK109.out) : gb135 ≠ gb109))
                     have n9_ := Aside0.mk ((by rw [hg]; exact Nat.ne_of_lt (blk_lt BK110.out) : gb110 ≠ gb135))
                     have n10_ := Aside0.mk ((by rw [hg]; exact Nat.ne_of_gt (blk_lt BK110.out) : gb135 ≠ gb110))
                     have n11_ := Aside0.mk ((by rw [hg]; exact Nat.ne_of_lt (blk_lt BK136.out) : gb136 ≠ gb135))
                     have n12_ := Aside0.mk ((by rw [hg]; exact Nat.ne_of_gt (blk_lt BK136.out) : gb135 ≠ gb136))
                     clear BK109 BK110 BK136 HB; have BK109 := n0_; have BK110 := n1_; have BK136 := n2_; have HB := n3_; have BK135 := n4_; have GW135 := n5_; have GE135 := n6_; have NB109_135 := n7_; have NB135_109 := n8_; have NB110_135 := n9_; have NB135_110 := n10_; have NB136_135 := n11_; have NB135_136 := n12_; clear n0_ n1_ n2_ n3_ n4_ n5_ n6_ n7_ n8_ n9_ n10_ n11_ n12_ hb hbox hg
                     refine hK.out _ _ ⟨(blk_cell BK109.out 0).trans rfl, (blk_cell BK109.out 1).trans rfl, (blk_cell BK109.out 2).trans rfl, (blk_cell BK109.out 3).trans rfl, (blk_cell BK110.out 0).trans rfl, (blk_cell BK110.out 1).trans rfl, (blk_cell BK110.out 2).trans rfl, (blk_cell BK110.out 3).trans rfl⟩ (fun hHeld => ?_)
                     clear hK K
                     refine norm_ (a' := ?_) ?_ ?_
                     rotate_left
                     · show Act.put _ (some 11) _ = _
                       simp only [Act.put, List.setIfInBounds_toArray, List.set_cons_zero, List.set_cons_succ, i64_w, i32_w]
                       rfl
                     exact norm_ (by simp only [putAll, Act.put, List.setIfInBounds_toArray, List.set_cons_zero, List.set_cons_succ] <;> rfl) (hJ2_3_6_7_12_13 (gb135, gb136) _ ⟨hHeld, BK109.out, BK110.out, BK135.out, BK136.out, GW135.out, GE135.out, NB109_135.out, NB135_109.out, NB110_135.out, NB135_110.out, NB136_135.out, NB135_136.out, GW136.out, GE136.out, NB109_136.out, NB136_109.out, NB110_136.out, NB136_110.out, HB.out⟩)
                 · skip
                   rintro gb135 w61 ⟨hS_, h0_, h1_, h2_, h3_, h4_, h5_, h6_, h7_, h8_, h9_⟩
                   have n0_ : Aside0 (w61.heap[gb109]? = some (.cells #[.bool t101, .int .i64 t102, .int .i64 t103, .int .u64 t104] 36 (0, 0))) := ⟨h0_⟩
                   have n1_ : Aside0 (w61.heap[gb110]? = some (.cells #[.bool t105, .int .i64 t106, .int .i64 t107, .int .u64 t108] 36 (0, 0))) := ⟨h1_⟩
                   have n2_ : Aside0 (w61.heap[gb135]? = some (.cells #[.int .u64 0, .int .u64 0, .int .u64 0, .int .u64 0] 41 (0, 0))) := ⟨h2_⟩
                   have n3_ : Aside0 (w.heap.size ≤ gb135) := ⟨h3_⟩
                   have n4_ : Aside0 (w.heap.size ≤ gb135) := ⟨h4_⟩
                   have n5_ : Aside0 (gb109 ≠ gb135) := ⟨h5_⟩
                   have n6_ : Aside0 (gb135 ≠ gb109) := ⟨h6_⟩
                   have n7_ : Aside0 (gb110 ≠ gb135) := ⟨h7_⟩
                   have n8_ : Aside0 (gb135 ≠ gb110) := ⟨h8_⟩
                   have n9_ : Aside0 (Below w.heap.size w w61) := ⟨h9_⟩
                   clear BK109 BK110 HB h0_ h1_ h2_ h3_ h4_ h5_ h6_ h7_ h8_ h9_; have BK109 := n0_; have BK110 := n1_; have BK135 := n2_; have GW135 := n3_; have GE135 := n4_; have NB109_135 := n5_; have NB135_109 := n6_; have NB110_135 := n7_; have NB135_110 := n8_; have HB := n9_; clear n0_ n1_ n2_ n3_ n4_ n5_ n6_ n7_ n8_ n9_
                   have hHeld : w61.cell? ⟨gb109, 0, none⟩ = some (.bool t101) ∧ w61.cell? ⟨gb109, 1, none⟩ = some (.int .i64 t102) ∧ w61.cell? ⟨gb109, 2, none⟩ = some (.int .i64 t103) ∧ w61.cell? ⟨gb109, 3, none⟩ = some (.int .u64 t104) ∧ w61.cell? ⟨gb110, 0, none⟩ = some (.bool t105) ∧ w61.cell? ⟨gb110, 1, none⟩ = some (.int .i64 t106) ∧ w61.cell? ⟨gb110, 2, none⟩ = some (.int .i64 t107) ∧ w61.cell? ⟨gb110, 3, none⟩ = some (.int .u64 t108) := hS_
                   refine norm_ (a' := ?_) ?_ ?_
                   rotate_left
                   · simp only [putAll, Act.put, List.setIfInBounds_toArray, List.set_cons_zero, List.set_cons_succ]
                     rfl
                   refine one_ (i := 13) (N := some 12) #[true, true, true, true, true, true, true, true, true, true, true, true, true, true, false, false, false] rfl rfl (one_of HT_.out (by kernel_rfl)) (by decide) (fun K hK => ?_)
                   refine box_step ?hg (N := 12) ?hd (cs := #[.int .u64 0, .int .u64 0, .int .u64 0, .int .u64 0]) (t := 41) ?hr ?_; (case hd => rfl); (case hg => rfl); (case hr => first | (go_simp; done) | (go_simp; rfl))
                   intro gb136 hg w62 hbox hb
                   have n0_ := Aside0.mk (blk_below BK109.out hb)
                   have n1_ := Aside0.mk (blk_below BK110.out hb)
                   have n2_ := Aside0.mk (blk_below BK135.out hb)
                   have n3_ := Aside0.mk (below_step HB.out hb)
                   have n4_ := Aside0.mk (hbox)
                   have n5_ := Aside0.mk ((by rw [hg]; exact (below_size HB.out) : w.heap.size ≤ gb136))
                   have n6_ := Aside0.mk ((by rw [hg]; exact (below_size HB.out) : w.heap.size ≤ gb136))
                   have n7_ := Aside0.mk ((by rw [hg]; exact Nat.ne_of_lt (blk_lt BK109.out) : gb109 ≠ gb136))
                   have n8_ := Aside0.mk ((by rw [hg]; exact Nat.ne_of_gt (blk_lt BK109.out) : gb136 ≠ gb109))
                   have n9_ := Aside0.mk ((by rw [hg]; exact Nat.ne_of_lt (blk_lt BK110.out) : gb110 ≠ gb136))
                   have n10_ := Aside0.mk ((by rw [hg]; exact Nat.ne_of_gt (blk_lt BK110.out) : gb136 ≠ gb110))
                   have n11_ := Aside0.mk ((by rw [hg]; exact Nat.ne_of_lt (blk_lt BK135.out) : gb135 ≠ gb136))
                   have n12_ := Aside0.mk ((by rw [hg]; exact Nat.ne_of_gt (blk_lt BK135.out) : gb136 ≠ gb135))
                   clear BK109 BK110 BK135 HB; have BK109 := n0_; have BK110 := n1_; have BK135 := n2_; have HB := n3_; have BK136 := n4_; have GW136 := n5_; have GE136 := n6_; have NB109_136 := n7_; have NB136_109 := n8_; have NB110_136 := n9_; have NB136_110 := n10_; have NB135_136 := n11_; have NB136_135 := n12_; clear n0_ n1_ n2_ n3_ n4_ n5_ n6_ n7_ n8_ n9_ n10_ n11_ n12_ hb hbox hg
                   refine hK.out _ _ ⟨(blk_cell BK109.out 0).trans rfl, (blk_cell BK109.out 1).trans rfl, (blk_cell BK109.out 2).trans rfl, (blk_cell BK109.out 3).trans rfl, (blk_cell BK110.out 0).trans rfl, (blk_cell BK110.out 1).trans rfl, (blk_cell BK110.out 2).trans rfl, (blk_cell BK110.out 3).trans rfl⟩ (fun hHeld => ?_)
                   clear hK K
                   refine norm_ (a' := ?_) ?_ ?_
                   rotate_left
                   · show Act.put _ (some 12) _ = _
                     simp only [Act.put, List.setIfInBounds_toArray, List.set_cons_zero, List.set_cons_succ, i64_w, i32_w]
                     rfl
                   exact norm_ (by simp only [putAll, Act.put, List.setIfInBounds_toArray, List.set_cons_zero, List.set_cons_succ] <;> rfl) (hJ2_3_6_7_12_13 (gb135, gb136) _ ⟨hHeld, BK109.out, BK110.out, BK135.out, BK136.out, GW135.out, GE135.out, NB109_135.out, NB135_109.out, NB110_135.out, NB135_110.out, NB136_135.out, NB135_136.out, GW136.out, GE136.out, NB109_136.out, NB136_109.out, NB110_136.out, NB136_110.out, HB.out⟩)
               rintro ⟨gb135, gb136⟩ w62 ⟨hS_, h0_, h1_, h2_, h3_, h4_, h5_, h6_, h7_, h8_, h9_, h10_, h11_, h12_, h13_, h14_, h15_, h16_, h17_, h18_⟩
               have n0_ : Aside0 (w62.heap[gb109]? = some (.cells #[.bool t101, .int .i64 t102, .int .i64 t103, .int .u64 t104] 36 (0, 0))) := ⟨h0_⟩
               have n1_ : Aside0 (w62.heap[gb110]? = some (.cells #[.bool t105, .int .i64 t106, .int .i64 t107, .int .u64 t108] 36 (0, 0))) := ⟨h1_⟩
               have n2_ : Aside0 (w62.heap[gb135]? = some (.cells #[.int .u64 0, .int .u64 0, .int .u64 0, .int .u64 0] 41 (0, 0))) := ⟨h2_⟩
               have n3_ : Aside0 (w62.heap[gb136]? = some (.cells #[.int .u64 0, .int .u64 0, .int .u64 0, .int .u64 0] 41 (0, 0))) := ⟨h3_⟩
               have n4_ : Aside0 (w.heap.size ≤ gb135) := ⟨h4_⟩
               have n5_ : Aside0 (w.heap.size ≤ gb135) := ⟨h5_⟩
               have n6_ : Aside0 (gb109 ≠ gb135) := ⟨h6_⟩
               have n7_ : Aside0 (gb135 ≠ gb109) := ⟨h7_⟩
               have n8_ : Aside0 (gb110 ≠ gb135) := ⟨h8_⟩
               have n9_ : Aside0 (gb135 ≠ gb110) := ⟨h9_⟩
               have n10_ : Aside0 (gb136 ≠ gb135) := ⟨h10_⟩
               have n11_ : Aside0 (gb135 ≠ gb136) := ⟨h11_⟩
               have n12_ : Aside0 (w.heap.size ≤ gb136) := ⟨h12_⟩
               have n13_ : Aside0 (w.heap.size ≤ gb136) := ⟨h13_⟩
               have n14_ : Aside0 (gb109 ≠ gb136) := ⟨h14_⟩
               have n15_ : Aside0 (gb136 ≠ gb109) := ⟨h15_⟩
               have n16_ : Aside0 (gb110 ≠ gb136) := ⟨h16_⟩
               have n17_ : Aside0 (gb136 ≠ gb110) := ⟨h17_⟩
               have n18_ : Aside0 (Below w.heap.size w w62) := ⟨h18_⟩
               clear BK109 BK110 HB h0_ h1_ h2_ h3_ h4_ h5_ h6_ h7_ h8_ h9_ h10_ h11_ h12_ h13_ h14_ h15_ h16_ h17_ h18_; have BK109 := n0_; have BK110 := n1_; have BK135 := n2_; have BK136 := n3_; have GW135 := n4_; have GE135 := n5_; have NB109_135 := n6_; have NB135_109 := n7_; have NB110_135 := n8_; have NB135_110 := n9_; have NB136_135 := n10_; have NB135_136 := n11_; have GW136 := n12_; have GE136 := n13_; have NB109_136 := n14_; have NB136_109 := n15_; have NB110_136 := n16_; have NB136_110 := n17_; have HB := n18_; clear n0_ n1_ n2_ n3_ n4_ n5_ n6_ n7_ n8_ n9_ n10_ n11_ n12_ n13_ n14_ n15_ n16_ n17_ n18_
               have hHeld : w62.cell? ⟨gb109, 0, none⟩ = some (.bool t101) ∧ w62.cell? ⟨gb109, 1, none⟩ = some (.int .i64 t102) ∧ w62.cell? ⟨gb109, 2, none⟩ = some (.int .i64 t103) ∧ w62.cell? ⟨gb109, 3, none⟩ = some (.int .u64 t104) ∧ w62.cell? ⟨gb110, 0, none⟩ = some (.bool t105) ∧ w62.cell? ⟨gb110, 1, none⟩ = some (.int .i64 t106) ∧ w62.cell? ⟨gb110, 2, none⟩ = some (.int .i64 t107) ∧ w62.cell? ⟨gb110, 3, none⟩ = some (.int .u64 t108) := hS_
               refine norm_ (a' := ?_) ?_ ?_
               rotate_left
               · simp only [putAll, Act.put, List.setIfInBounds_toArray, List.set_cons_zero, List.set_cons_succ]
                 rfl
               refine one_ (i := 14) (N := none) #[true, true, true, true, true, true, true, true, true, true, true, true, true, true, true, false, false] rfl rfl (one_of HT_.out (by kernel_rfl)) (by decide) (fun K hK => ?_)
               have hs63 : w62.cell? ⟨gb135, 0, none⟩ = some (.int .u64 0) := (blk_cell BK135.out 0).trans rfl
               have hfs63 := blk_frozen BK135.out 0
               have hns63_0 := NB109_135.out
               have hns63_1 := NB110_135.out
               have hns63_3 := NB136_135.out
               have hms63_0 := NB135_109.out
               have hms63_1 := NB135_110.out
               have hms63_3 := NB135_136.out
               have hs64 : w62.cell? ⟨gb135, 1, none⟩ = some (.int .u64 0) := (blk_cell BK135.out 1).trans rfl
               have hfs64 := blk_frozen BK135.out 1
               have hns64_0 := NB109_135.out
               have hns64_1 := NB110_135.out
               have hns64_3 := NB136_135.out
               have hms64_0 := NB135_109.out
               have hms64_1 := NB135_110.out
               have hms64_3 := NB135_136.out
               have hs65 : w62.cell? ⟨gb135, 2, none⟩ = some (.int .u64 0) := (blk_cell BK135.out 2).trans rfl
               have hfs65 := blk_frozen BK135.out 2
               have hns65_0 := NB109_135.out
               have hns65_1 := NB110_135.out
               have hns65_3 := NB136_135.out
               have hms65_0 := NB135_109.out
               have hms65_1 := NB135_110.out
               have hms65_3 := NB135_136.out
               have hs66 : w62.cell? ⟨gb135, 3, none⟩ = some (.int .u64 0) := (blk_cell BK135.out 3).trans rfl
               have hfs66 := blk_frozen BK135.out 3
               have hns66_0 := NB109_135.out
               have hns66_1 := NB110_135.out
               have hns66_3 := NB136_135.out
               have hms66_0 := NB135_109.out
               have hms66_1 := NB135_110.out
               have hms66_3 := NB135_136.out
               refine skip_ (w1 := ?_) (by rfl) rfl ?_ ?_
               rotate_left
               · go_simp
                 rfl
               refine hK.out _ _ ⟨((cell_far (p := ⟨gb135, _, none⟩) NB109_135.out _).trans (((cell_far (p := ⟨gb135, _, none⟩) NB109_135.out _).trans (((cell_far (p := ⟨gb135, _, none⟩) NB109_135.out _).trans (((cell_far (p := ⟨gb135, _, none⟩) NB109_135.out _).trans (hHeld.1)))))))), ((cell_far (p := ⟨gb135, _, none⟩) NB109_135.out _).trans (((cell_far (p := ⟨gb135, _, none⟩) NB109_135.out _).trans (((cell_far (p := ⟨gb135, _, none⟩) NB109_135.out _).trans (((cell_far (p := ⟨gb135, _, none⟩) NB109_135.out _).trans (hHeld.2.1)))))))), ((cell_far (p := ⟨gb135, _, none⟩) NB109_135.out _).trans (((cell_far (p := ⟨gb135, _, none⟩) NB109_135.out _).trans (((cell_far (p := ⟨gb135, _, none⟩) NB109_135.out _).trans (((cell_far (p := ⟨gb135, _, none⟩) NB109_135.out _).trans (hHeld.2.2.1)))))))), ((cell_far (p := ⟨gb135, _, none⟩) NB109_135.out _).trans (((cell_far (p := ⟨gb135, _, none⟩) NB109_135.out _).trans (((cell_far (p := ⟨gb135, _, none⟩) NB109_135.out _).trans (((cell_far (p := ⟨gb135, _, none⟩) NB109_135.out _).trans (hHeld.2.2.2.1)))))))), ((cell_far (p := ⟨gb135, _, none⟩) NB110_135.out _).trans (((cell_far (p := ⟨gb135, _, none⟩) NB110_135.out _).trans (((cell_far (p := ⟨gb135, _, none⟩) NB110_135.out _).trans (((cell_far (p := ⟨gb135, _, none⟩) NB110_135.out _).trans (hHeld.2.2.2.2.1)))))))), ((cell_far (p := ⟨gb135, _, none⟩) NB110_135.out _).trans (((cell_far (p := ⟨gb135, _, none⟩) NB110_135.out _).trans (((cell_far (p := ⟨gb135, _, none⟩) NB110_135.out _).trans (((cell_far (p := ⟨gb135, _, none⟩) NB110_135.out _).trans (hHeld.2.2.2.2.2.1)))))))), ((cell_far (p := ⟨gb135, _, none⟩) NB110_135.out _).trans (((cell_far (p := ⟨gb135, _, none⟩) NB110_135.out _).trans (((cell_far (p := ⟨gb135, _, none⟩) NB110_135.out _).trans (((cell_far (p := ⟨gb135, _, none⟩) NB110_135.out _).trans (hHeld.2.2.2.2.2.2.1)))))))), ((cell_far (p := ⟨gb135, _, none⟩) NB110_135.out _).trans (((cell_far (p := ⟨gb135, _, none⟩) NB110_135.out _).trans (((cell_far (p := ⟨gb135, _, none⟩) NB110_135.out _).trans (((cell_far (p := ⟨gb135, _, none⟩) NB110_135.out _).trans (hHeld.2.2.2.2.2.2.2))))))))⟩ (fun hHeld => ?_)
               clear hK K
               refine one_ (i := 15) (N := none) #[true, true, true, true, true, true, true, true, true, true, true, true, true, true, true, true, false] rfl rfl (one_of HT_.out (by kernel_rfl)) (by decide) (fun K hK => ?_)
               have hs67 : w62.cell? ⟨gb136, 0, none⟩ = some (.int .u64 0) := (blk_cell BK136.out 0).trans rfl
               have hfs67 := blk_frozen BK136.out 0
               have hns67_0 := NB109_136.out
               have hns67_1 := NB110_136.out
               have hns67_2 := NB135_136.out
               have hms67_0 := NB136_109.out
               have hms67_1 := NB136_110.out
               have hms67_2 := NB136_135.out
               have hs68 : w62.cell? ⟨gb136, 1, none⟩ = some (.int .u64 0) := (blk_cell BK136.out 1).trans rfl
               have hfs68 := blk_frozen BK136.out 1
               have hns68_0 := NB109_136.out
               have hns68_1 := NB110_136.out
               have hns68_2 := NB135_136.out
               have hms68_0 := NB136_109.out
               have hms68_1 := NB136_110.out
               have hms68_2 := NB136_135.out
               have hs69 : w62.cell? ⟨gb136, 2, none⟩ = some (.int .u64 0) := (blk_cell BK136.out 2).trans rfl
               have hfs69 := blk_frozen BK136.out 2
               have hns69_0 := NB109_136.out
               have hns69_1 := NB110_136.out
               have hns69_2 := NB135_136.out
               have hms69_0 := NB136_109.out
               have hms69_1 := NB136_110.out
               have hms69_2 := NB136_135.out
               have hs70 : w62.cell? ⟨gb136, 3, none⟩ = some (.int .u64 0) := (blk_cell BK136.out 3).trans rfl
               have hfs70 := blk_frozen BK136.out 3
               have hns70_0 := NB109_136.out
               have hns70_1 := NB110_136.out
               have hns70_2 := NB135_136.out
               have hms70_0 := NB136_109.out
               have hms70_1 := NB136_110.out
               have hms70_2 := NB136_135.out
               refine skip_ (w1 := ?_) (by rfl) rfl ?_ ?_
               rotate_left
               · go_simp
                 rfl
               refine hK.out _ _ ⟨((cell_far (p := ⟨gb136, _, none⟩) NB109_136.out _).trans (((cell_far (p := ⟨gb136, _, none⟩) NB109_136.out _).trans (((cell_far (p := ⟨gb136, _, none⟩) NB109_136.out _).trans (((cell_far (p := ⟨gb136, _, none⟩) NB109_136.out _).trans (hHeld.1)))))))), ((cell_far (p := ⟨gb136, _, none⟩) NB109_136.out _).trans (((cell_far (p := ⟨gb136, _, none⟩) NB109_136.out _).trans (((cell_far (p := ⟨gb136, _, none⟩) NB109_136.out _).trans (((cell_far (p := ⟨gb136, _, none⟩) NB109_136.out _).trans (hHeld.2.1)))))))), ((cell_far (p := ⟨gb136, _, none⟩) NB109_136.out _).trans (((cell_far (p := ⟨gb136, _, none⟩) NB109_136.out _).trans (((cell_far (p := ⟨gb136, _, none⟩) NB109_136.out _).trans (((cell_far (p := ⟨gb136, _, none⟩) NB109_136.out _).trans (hHeld.2.2.1)))))))), ((cell_far (p := ⟨gb136, _, none⟩) NB109_136.out _).trans (((cell_far (p := ⟨gb136, _, none⟩) NB109_136.out _).trans (((cell_far (p := ⟨gb136, _, none⟩) NB109_136.out _).trans (((cell_far (p := ⟨gb136, _, none⟩) NB109_136.out _).trans (hHeld.2.2.2.1)))))))), ((cell_far (p := ⟨gb136, _, none⟩) NB110_136.out _).trans (((cell_far (p := ⟨gb136, _, none⟩) NB110_136.out _).trans (((cell_far (p := ⟨gb136, _, none⟩) NB110_136.out _).trans (((cell_far (p := ⟨gb136, _, none⟩) NB110_136.out _).trans (hHeld.2.2.2.2.1)))))))), ((cell_far (p := ⟨gb136, _, none⟩) NB110_136.out _).trans (((cell_far (p := ⟨gb136, _, none⟩) NB110_136.out _).trans (((cell_far (p := ⟨gb136, _, none⟩) NB110_136.out _).trans (((cell_far (p := ⟨gb136, _, none⟩) NB110_136.out _).trans (hHeld.2.2.2.2.2.1)))))))), ((cell_far (p := ⟨gb136, _, none⟩) NB110_136.out _).trans (((cell_far (p := ⟨gb136, _, none⟩) NB110_136.out _).trans (((cell_far (p := ⟨gb136, _, none⟩) NB110_136.out _).trans (((cell_far (p := ⟨gb136, _, none⟩) NB110_136.out _).trans (hHeld.2.2.2.2.2.2.1)))))))), ((cell_far (p := ⟨gb136, _, none⟩) NB110_136.out _).trans (((cell_far (p := ⟨gb136, _, none⟩) NB110_136.out _).trans (((cell_far (p := ⟨gb136, _, none⟩) NB110_136.out _).trans (((cell_far (p := ⟨gb136, _, none⟩) NB110_136.out _).trans (hHeld.2.2.2.2.2.2.2))))))))⟩ (fun hHeld => ?_)
               clear hK K
               refine pure_ (i := 16) (N := some 13) (v := ?_) (a' := ?_) #[true, true, true, true, true, true, true, true, true, true, true, true, true, true, true, true, true] rfl rfl (any_of HT_.out (by kernel_rfl)) (fun _ _ _ h => h) (Or.inl ⟨by rfl, ?_⟩) ?_ ?_
               rotate_left
               · intro w'
                 go_simp
                 with_reducible rfl
               rotate_left
               · simp only [Act.put, List.setIfInBounds_toArray, List.set_cons_zero, List.set_cons_succ, i64_w, i32_w]
                 rfl
               refine done_ (done_of HT_.out (by kernel_rfl)) ?_
               try go_wp2
               have n0_ : Aside0 (((((((((w62.setCell ⟨gb135, 0, none⟩ (.int .u64 t127)).setCell ⟨gb135, 1, none⟩ (.int .u64 t128)).setCell ⟨gb135, 2, none⟩ (.int .u64 t129)).setCell ⟨gb135, 3, none⟩ (.int .u64 t130)).setCell ⟨gb136, 0, none⟩ (.int .u64 t131)).setCell ⟨gb136, 1, none⟩ (.int .u64 t132)).setCell ⟨gb136, 2, none⟩ (.int .u64 t133)).setCell ⟨gb136, 3, none⟩ (.int .u64 t134)).heap[gb109]? = some (.cells #[.bool t101, .int .i64 t102, .int .i64 t103, .int .u64 t104] 36 (0, 0))) := ⟨by (with_reducible repeat (first | refine blk_drewN ?_ _ | refine blk_drew ?_ | refine blk_alloc ?_ _)); refine blk_far ?_ NB109_136.out _; (with_reducible repeat (first | refine blk_drewN ?_ _ | refine blk_drew ?_ | refine blk_alloc ?_ _)); refine blk_far ?_ NB109_136.out _; (with_reducible repeat (first | refine blk_drewN ?_ _ | refine blk_drew ?_ | refine blk_alloc ?_ _)); refine blk_far ?_ NB109_136.out _; (with_reducible repeat (first | refine blk_drewN ?_ _ | refine blk_drew ?_ | refine blk_alloc ?_ _)); refine blk_far ?_ NB109_136.out _; (with_reducible repeat (first | refine blk_drewN ?_ _ | refine blk_drew ?_ | refine blk_alloc ?_ _)); refine blk_far ?_ NB109_135.out _; (with_reducible repeat (first | refine blk_drewN ?_ _ | refine blk_drew ?_ | refine blk_alloc ?_ _)); refine blk_far ?_ NB109_135.out _; (with_reducible repeat (first | refine blk_drewN ?_ _ | refine blk_drew ?_ | refine blk_alloc ?_ _)); refine blk_far ?_ NB109_135.out _; (with_reducible repeat (first | refine blk_drewN ?_ _ | refine blk_drew ?_ | refine blk_alloc ?_ _)); refine blk_far ?_ NB109_135.out _; (with_reducible repeat (first | refine blk_drewN ?_ _ | refine blk_drew ?_ | refine blk_alloc ?_ _)); exact BK109.out⟩
               have n1_ : Aside0 (((((((((w62.setCell ⟨gb135, 0, none⟩ (.int .u64 t127)).setCell ⟨gb135, 1, none⟩ (.int .u64 t128)).setCell ⟨gb135, 2, none⟩ (.int .u64 t129)).setCell ⟨gb135, 3, none⟩ (.int .u64 t130)).setCell ⟨gb136, 0, none⟩ (.int .u64 t131)).setCell ⟨gb136, 1, none⟩ (.int .u64 t132)).setCell ⟨gb136, 2, none⟩ (.int .u64 t133)).setCell ⟨gb136, 3, none⟩ (.int .u64 t134)).heap[gb110]? = some (.cells #[.bool t105, .int .i64 t106, .int .i64 t107, .int .u64 t108] 36 (0, 0))) := ⟨by (with_reducible repeat (first | refine blk_drewN ?_ _ | refine blk_drew ?_ | refine blk_alloc ?_ _)); refine blk_far ?_ NB110_136.out _; (with_reducible repeat (first | refine blk_drewN ?_ _ | refine blk_drew ?_ | refine blk_alloc ?_ _)); refine blk_far ?_ NB110_136.out _; (with_reducible repeat (first | refine blk_drewN ?_ _ | refine blk_drew ?_ | refine blk_alloc ?_ _)); refine blk_far ?_ NB110_136.out _; (with_reducible repeat (first | refine blk_drewN ?_ _ | refine blk_drew ?_ | refine blk_alloc ?_ _)); refine blk_far ?_ NB110_136.out _; (with_reducible repeat (first | refine blk_drewN ?_ _ | refine blk_drew ?_ | refine blk_alloc ?_ _)); refine blk_far ?_ NB110_135.out _; (with_reducible repeat (first | refine blk_drewN ?_ _ | refine blk_drew ?_ | refine blk_alloc ?_ _)); refine blk_far ?_ NB110_135.out _; (with_reducible repeat (first | refine blk_drewN ?_ _ | refine blk_drew ?_ | refine blk_alloc ?_ _)); refine blk_far ?_ NB110_135.out _; (with_reducible repeat (first | refine blk_drewN ?_ _ | refine blk_drew ?_ | refine blk_alloc ?_ _)); refine blk_far ?_ NB110_135.out _; (with_reducible repeat (first | refine blk_drewN ?_ _ | refine blk_drew ?_ | refine blk_alloc ?_ _)); exact BK110.out⟩
               have n2_ : Aside0 (((((((((w62.setCell ⟨gb135, 0, none⟩ (.int .u64 t127)).setCell ⟨gb135, 1, none⟩ (.int .u64 t128)).setCell ⟨gb135, 2, none⟩ (.int .u64 t129)).setCell ⟨gb135, 3, none⟩ (.int .u64 t130)).setCell ⟨gb136, 0, none⟩ (.int .u64 t131)).setCell ⟨gb136, 1, none⟩ (.int .u64 t132)).setCell ⟨gb136, 2, none⟩ (.int .u64 t133)).setCell ⟨gb136, 3, none⟩ (.int .u64 t134)).heap[gb135]? = some (.cells #[.int .u64 t127, .int .u64 t128, .int .u64 t129, .int .u64 t130] 41 (0, 0))) := ⟨by (with_reducible repeat (first | refine blk_drewN ?_ _ | refine blk_drew ?_ | refine blk_alloc ?_ _)); refine blk_far ?_ NB135_136.out _; (with_reducible repeat (first | refine blk_drewN ?_ _ | refine blk_drew ?_ | refine blk_alloc ?_ _)); refine blk_far ?_ NB135_136.out _; (with_reducible repeat (first | refine blk_drewN ?_ _ | refine blk_drew ?_ | refine blk_alloc ?_ _)); refine blk_far ?_ NB135_136.out _; (with_reducible repeat (first | refine blk_drewN ?_ _ | refine blk_drew ?_ | refine blk_alloc ?_ _)); refine blk_far ?_ NB135_136.out _; (with_reducible repeat (first | refine blk_drewN ?_ _ | refine blk_drew ?_ | refine blk_alloc ?_ _)); refine blk_put (cs := #[.int .u64 t127, .int .u64 t128, .int .u64 t129, .int .u64 0]) ?_ 3 _ rfl; (with_reducible repeat (first | refine blk_drewN ?_ _ | refine blk_drew ?_ | refine blk_alloc ?_ _)); refine blk_put (cs := #[.int .u64 t127, .int .u64 t128, .int .u64 0, .int .u64 0]) ?_ 2 _ rfl; (with_reducible repeat (first | refine blk_drewN ?_ _ | refine blk_drew ?_ | refine blk_alloc ?_ _)); refine blk_put (cs := #[.int .u64 t127, .int .u64 0, .int .u64 0, .int .u64 0]) ?_ 1 _ rfl; (with_reducible repeat (first | refine blk_drewN ?_ _ | refine blk_drew ?_ | refine blk_alloc ?_ _)); refine blk_put (cs := #[.int .u64 0, .int .u64 0, .int .u64 0, .int .u64 0]) ?_ 0 _ rfl; (with_reducible repeat (first | refine blk_drewN ?_ _ | refine blk_drew ?_ | refine blk_alloc ?_ _)); exact BK135.out⟩
               have n3_ : Aside0 (((((((((w62.setCell ⟨gb135, 0, none⟩ (.int .u64 t127)).setCell ⟨gb135, 1, none⟩ (.int .u64 t128)).setCell ⟨gb135, 2, none⟩ (.int .u64 t129)).setCell ⟨gb135, 3, none⟩ (.int .u64 t130)).setCell ⟨gb136, 0, none⟩ (.int .u64 t131)).setCell ⟨gb136, 1, none⟩ (.int .u64 t132)).setCell ⟨gb136, 2, none⟩ (.int .u64 t133)).setCell ⟨gb136, 3, none⟩ (.int .u64 t134)).heap[gb136]? = some (.cells #[.int .u64 t131, .int .u64 t132, .int .u64 t133, .int .u64 t134] 41 (0, 0))) := ⟨by (with_reducible repeat (first | refine blk_drewN ?_ _ | refine blk_drew ?_ | refine blk_alloc ?_ _)); refine blk_put (cs := #[.int .u64 t131, .int .u64 t132, .int .u64 t133, .int .u64 0]) ?_ 3 _ rfl; (with_reducible repeat (first | refine blk_drewN ?_ _ | refine blk_drew ?_ | refine blk_alloc ?_ _)); refine blk_put (cs := #[.int .u64 t131, .int .u64 t132, .int .u64 0, .int .u64 0]) ?_ 2 _ rfl; (with_reducible repeat (first | refine blk_drewN ?_ _ | refine blk_drew ?_ | refine blk_alloc ?_ _)); refine blk_put (cs := #[.int .u64 t131, .int .u64 0, .int .u64 0, .int .u64 0]) ?_ 1 _ rfl; (with_reducible repeat (first | refine blk_drewN ?_ _ | refine blk_drew ?_ | refine blk_alloc ?_ _)); refine blk_put (cs := #[.int .u64 0, .int .u64 0, .int .u64 0, .int .u64 0]) ?_ 0 _ rfl; (with_reducible repeat (first | refine blk_drewN ?_ _ | refine blk_drew ?_ | refine blk_alloc ?_ _)); refine blk_far ?_ NB136_135.out _; (with_reducible repeat (first | refine blk_drewN ?_ _ | refine blk_drew ?_ | refine blk_alloc ?_ _)); refine blk_far ?_ NB136_135.out _; (with_reducible repeat (first | refine blk_drewN ?_ _ | refine blk_drew ?_ | refine blk_alloc ?_ _)); refine blk_far ?_ NB136_135.out _; (with_reducible repeat (first | refine blk_drewN ?_ _ | refine blk_drew ?_ | refine blk_alloc ?_ _)); refine blk_far ?_ NB136_135.out _; (with_reducible repeat (first | refine blk_drewN ?_ _ | refine blk_drew ?_ | refine blk_alloc ?_ _)); exact BK136.out⟩
               have n4_ : Aside0 (Below w.heap.size w ((((((((w62.setCell ⟨gb135, 0, none⟩ (.int .u64 t127)).setCell ⟨gb135, 1, none⟩ (.int .u64 t128)).setCell ⟨gb135, 2, none⟩ (.int .u64 t129)).setCell ⟨gb135, 3, none⟩ (.int .u64 t130)).setCell ⟨gb136, 0, none⟩ (.int .u64 t131)).setCell ⟨gb136, 1, none⟩ (.int .u64 t132)).setCell ⟨gb136, 2, none⟩ (.int .u64 t133)).setCell ⟨gb136, 3, none⟩ (.int .u64 t134))) := ⟨by repeat (first | (with_reducible first | exact HB.out | apply below_alloc | apply pw_below_drewN | apply below_drew1 | refine below_set ?_ GE109.out | refine below_set ?_ GE110.out | refine below_set ?_ GE135.out | refine below_set ?_ GE136.out) | exact HB.out)⟩
               (try clear BK109)
               (try clear BK110)
               (try clear BK135)
               (try clear BK136)
               (try clear HB)
               generalize ((((((((w62.setCell ⟨gb135, 0, none⟩ (.int .u64 t127)).setCell ⟨gb135, 1, none⟩ (.int .u64 t128)).setCell ⟨gb135, 2, none⟩ (.int .u64 t129)).setCell ⟨gb135, 3, none⟩ (.int .u64 t130)).setCell ⟨gb136, 0, none⟩ (.int .u64 t131)).setCell ⟨gb136, 1, none⟩ (.int .u64 t132)).setCell ⟨gb136, 2, none⟩ (.int .u64 t133)).setCell ⟨gb136, 3, none⟩ (.int .u64 t134)) = w71 at n0_ n1_ n2_ n3_ n4_ ⊢
               have BK109 := n0_; have BK110 := n1_; have BK135 := n2_; have BK136 := n3_; have HB := n4_; clear n0_ n1_ n2_ n3_ n4_
               have n0_ := Aside0.mk (blk_drew BK109.out)
               have n1_ := Aside0.mk (blk_drew BK110.out)
               have n2_ := Aside0.mk (blk_drew BK135.out)
               have n3_ := Aside0.mk (blk_drew BK136.out)
               have n4_ := Aside0.mk (below_drew1 HB.out)
               clear BK109 BK110 BK135 BK136 HB; have BK109 := n0_; have BK110 := n1_; have BK135 := n2_; have BK136 := n3_; have HB := n4_; clear n0_ n1_ n2_ n3_ n4_
               refine start_ (n := 19) (S := fun w' => w'.cell? ⟨gb109, 0, none⟩ = some (.bool t101) ∧ w'.cell? ⟨gb109, 1, none⟩ = some (.int .i64 t102) ∧ w'.cell? ⟨gb109, 2, none⟩ = some (.int .i64 t103) ∧ w'.cell? ⟨gb109, 3, none⟩ = some (.int .u64 t104) ∧ w'.cell? ⟨gb110, 0, none⟩ = some (.bool t105) ∧ w'.cell? ⟨gb110, 1, none⟩ = some (.int .i64 t106) ∧ w'.cell? ⟨gb110, 2, none⟩ = some (.int .i64 t107) ∧ w'.cell? ⟨gb110, 3, none⟩ = some (.int .u64 t108) ∧ w'.cell? ⟨gb135, 0, none⟩ = some (.int .u64 t127) ∧ w'.cell? ⟨gb135, 1, none⟩ = some (.int .u64 t128) ∧ w'.cell? ⟨gb135, 2, none⟩ = some (.int .u64 t129) ∧ w'.cell? ⟨gb135, 3, none⟩ = some (.int .u64 t130) ∧ w'.cell? ⟨gb136, 0, none⟩ = some (.int .u64 t131) ∧ w'.cell? ⟨gb136, 1, none⟩ = some (.int .u64 t132) ∧ w'.cell? ⟨gb136, 2, none⟩ = some (.int .u64 t133) ∧ w'.cell? ⟨gb136, 3, none⟩ = some (.int .u64 t134)) (ds := []) #[false, false, false, false, false, false, false, false, false, false, false, false, false, false, false, false, false, false, false] (by kernel_rfl) rfl rfl ⟨(blk_cell BK109.out 0).trans rfl, (blk_cell BK109.out 1).trans rfl, (blk_cell BK109.out 2).trans rfl, (blk_cell BK109.out 3).trans rfl, (blk_cell BK110.out 0).trans rfl, (blk_cell BK110.out 1).trans rfl, (blk_cell BK110.out 2).trans rfl, (blk_cell BK110.out 3).trans rfl, (blk_cell BK135.out 0).trans rfl, (blk_cell BK135.out 1).trans rfl, (blk_cell BK135.out 2).trans rfl, (blk_cell BK135.out 3).trans rfl, (blk_cell BK136.out 0).trans rfl, (blk_cell BK136.out 1).trans rfl, (blk_cell BK136.out 2).trans rfl, (blk_cell BK136.out 3).trans rfl⟩ (fun hHeld => ?_); refine with_tabW quot_Div.tab16 quot_Div.bits16 (fun HT_ HW_ => ?_)
               generalize w71.drew = w72 at BK109 BK110 BK135 BK136 HB hHeld ⊢
               refine pure_ (i := 0) (N := some 81) (v := ?_) (a' := ?_) #[true, false, false, false, false, false, false, false, false, false, false, false, false, false, false, false, false, false, false] rfl rfl (any_of HT_.out (by kernel_rfl)) (fun _ _ _ h => h) (Or.inl ⟨by rfl, ?_⟩) ?_ ?_
               rotate_left
               · intro w'
                 go_simp
                 with_reducible rfl
               rotate_left
               · simp only [Act.put, List.setIfInBounds_toArray, List.set_cons_zero, List.set_cons_succ, i64_w, i32_w]
                 rfl
               refine pure_ (i := 1) (N := some 82) (v := ?_) (a' := ?_) #[true, true, false, false, false, false, false, false, false, false, false, false, false, false, false, false, false, false, false] rfl rfl (any_of HT_.out (by kernel_rfl)) (fun _ _ _ h => h) (Or.inl ⟨by rfl, ?_⟩) ?_ ?_
               rotate_left
               · intro w'
                 go_simp
                 with_reducible rfl
               rotate_left
               · simp only [Act.put, List.setIfInBounds_toArray, List.set_cons_zero, List.set_cons_succ, i64_w, i32_w]
                 rfl
               refine pure_ (i := 2) (N := some 83) (v := ?_) (a' := ?_) #[true, true, true, false, false, false, false, false, false, false, false, false, false, false, false, false, false, false, false] rfl rfl (any_of HT_.out (by kernel_rfl)) (fun _ _ _ h => h) (Or.inl ⟨by rfl, ?_⟩) ?_ ?_
               rotate_left
               · intro w'
                 go_simp
                 with_reducible rfl
               rotate_left
               · simp only [Act.put, List.setIfInBounds_toArray, List.set_cons_zero, List.set_cons_succ, i64_w, i32_w]
                 rfl
               refine pure_ (i := 4) (N := some 85) (v := ?_) (a' := ?_) #[true, true, true, false, true, false, false, false, false, false, false, false, false, false, false, false, false, false, false] rfl rfl (any_of HT_.out (by kernel_rfl)) (fun _ _ _ h => h) (Or.inl ⟨by rfl, ?_⟩) ?_ ?_
               rotate_left
               · intro w'
                 go_simp
                 with_reducible rfl
               rotate_left
               · simp only [Act.put, List.setIfInBounds_toArray, List.set_cons_zero, List.set_cons_succ, i64_w, i32_w]
                 rfl
               refine pure_ (i := 10) (N := some 91) (v := ?_) (a' := ?_) #[true, true, true, false, true, false, false, false, false, false, true, false, false, false, false, false, false, false, false] rfl rfl (any_of HT_.out (by kernel_rfl)) (fun _ _ _ h => h) (Or.inl ⟨by rfl, ?_⟩) ?_ ?_
               rotate_left
               · intro w'
                 go_simp
                 with_reducible rfl
               rotate_left
               · simp only [Act.put, List.setIfInBounds_toArray, List.set_cons_zero, List.set_cons_succ, i64_w, i32_w]
                 rfl
               refine pure_ (i := 13) (N := some 94) (v := ?_) (a' := ?_) #[true, true, true, false, true, false, false, false, false, false, true, false, false, true, false, false, false, false, false] rfl rfl (any_of HT_.out (by kernel_rfl)) (fun _ _ _ h => h) (Or.inl ⟨by rfl, ?_⟩) ?_ ?_
               rotate_left
               · intro w'
                 go_simp
                 with_reducible rfl
               rotate_left
               · simp only [Act.put, List.setIfInBounds_toArray, List.set_cons_zero, List.set_cons_succ, i64_w, i32_w]
                 rfl
               refine take_ (i := 3) (N := some 84) (v := ?_) (a' := ?_) #[true, true, true, true, true, false, false, false, false, false, true, false, false, true, false, false, false, false, false] rfl rfl (take_ofW HT_.out HW_.out (by kernel_rfl)) (fun _ _ _ h => h) (Or.inl ⟨by rfl, ?_⟩) hHeld ?_ ?_
               rotate_left
               · rintro w' ⟨s0, s1, s2, s3, s4, s5, s6, s7, s8, s9, s10, s11, s12, s13, s14, s15⟩
                 go_simp
                 with_reducible rfl
               rotate_left
               · simp only [Act.put, List.setIfInBounds_toArray, List.set_cons_zero, List.set_cons_succ, i64_w, i32_w]
                 rfl
               refine take_ (i := 5) (N := some 86) (v := ?_) (a' := ?_) #[true, true, true, true, true, true, false, false, false, false, true, false, false, true, false, false, false, false, false] rfl rfl (take_ofW HT_.out HW_.out (by kernel_rfl)) (fun _ _ _ h => h) (Or.inl ⟨by rfl, ?_⟩) hHeld ?_ ?_
               rotate_left
               · rintro w' ⟨s0, s1, s2, s3, s4, s5, s6, s7, s8, s9, s10, s11, s12, s13, s14, s15⟩
                 go_simp
                 with_reducible rfl
               rotate_left
               · simp only [Act.put, List.setIfInBounds_toArray, List.set_cons_zero, List.set_cons_succ, i64_w, i32_w]
                 rfl
               refine pure_ (i := 6) (N := some 87) (v := ?_) (a' := ?_) #[true, true, true, true, true, true, true, false, false, false, true, false, false, true, false, false, false, false, false] rfl rfl (any_of HT_.out (by kernel_rfl)) (fun _ _ _ h => h) (Or.inl ⟨by rfl, ?_⟩) ?_ ?_
               rotate_left
               · intro w'
                 go_simp
                 with_reducible rfl
               rotate_left
               · simp only [Act.put, List.setIfInBounds_toArray, List.set_cons_zero, List.set_cons_succ, i64_w, i32_w]
                 rfl
               refine pure_ (i := 7) (N := some 88) (v := ?_) (a' := ?_) #[true, true, true, true, true, true, true, true, false, false, true, false, false, true, false, false, false, false, false] rfl rfl (any_of HT_.out (by kernel_rfl)) (fun _ _ _ h => h) (Or.inl ⟨by rfl, ?_⟩) ?_ ?_
               rotate_left
               · intro w'
                 go_simp
                 with_reducible rfl
               rotate_left
               · simp only [Act.put, List.setIfInBounds_toArray, List.set_cons_zero, List.set_cons_succ, i64_w, i32_w]
                 rfl
               refine take_ (i := 8) (N := some 89) (v := ?_) (a' := ?_) #[true, true, true, true, true, true, true, true, true, false, true, false, false, true, false, false, false, false, false] rfl rfl (take_ofW HT_.out HW_.out (by kernel_rfl)) (fun _ _ _ h => h) (Or.inl ⟨by rfl, ?_⟩) hHeld ?_ ?_
               rotate_left
               · rintro w' ⟨s0, s1, s2, s3, s4, s5, s6, s7, s8, s9, s10, s11, s12, s13, s14, s15⟩
                 go_simp
                 with_reducible rfl
               rotate_left
               · simp only [Act.put, List.setIfInBounds_toArray, List.set_cons_zero, List.set_cons_succ, i64_w, i32_w]
                 rfl
               refine take_ (i := 9) (N := some 90) (v := ?_) (a' := ?_) #[true, true, true, true, true, true, true, true, true, true, true, false, false, true, false, false, false, false, false] rfl rfl (take_ofW HT_.out HW_.out (by kernel_rfl)) (fun _ _ _ h => h) (Or.inl ⟨by rfl, ?_⟩) hHeld ?_ ?_
               rotate_left
               · rintro w' ⟨s0, s1, s2, s3, s4, s5, s6, s7, s8, s9, s10, s11, s12, s13, s14, s15⟩
                 go_simp
                 with_reducible rfl
               rotate_left
               · simp only [Act.put, List.setIfInBounds_toArray, List.set_cons_zero, List.set_cons_succ, i64_w, i32_w]
                 rfl
               refine pure_ (i := 11) (N := some 92) (v := ?_) (a' := ?_) #[true, true, true, true, true, true, true, true, true, true, true, true, false, true, false, false, false, false, false] rfl rfl (any_of HT_.out (by kernel_rfl)) (fun _ _ _ h => h) (Or.inl ⟨by rfl, ?_⟩) ?_ ?_
               rotate_left
               · intro w'
                 go_simp
                 with_reducible rfl
               rotate_left
               · simp only [Act.put, List.setIfInBounds_toArray, List.set_cons_zero, List.set_cons_succ, i64_w, i32_w]
                 rfl
               refine pure_ (i := 12) (N := some 93) (v := ?_) (a' := ?_) #[true, true, true, true, true, true, true, true, true, true, true, true, true, true, false, false, false, false, false] rfl rfl (any_of HT_.out (by kernel_rfl)) (fun _ _ _ h => h) (Or.inl ⟨by rfl, ?_⟩) ?_ ?_
               rotate_left
               · intro w'
                 go_simp
                 with_reducible rfl
               rotate_left
               · simp only [Act.put, List.setIfInBounds_toArray, List.set_cons_zero, List.set_cons_succ, i64_w, i32_w]
                 rfl
               refine one_ (i := 14) (N := some 95) #[true, true, true, true, true, true, true, true, true, true, true, true, true, true, true, false, false, false, false] rfl rfl (one_of HT_.out (by kernel_rfl)) (by decide) (fun K hK => ?_)
               refine goes_ Try.func20 (by kernel_rfl) rfl #[.agg #[.bool ((Go.bits .and .u64 (Go.bits .xor .u64 a0 a1) 9223372036854775808) != 0), .int .i64 (wrap64 ((wrap64 (t103 - t107)) - 128)), .int .u64 t127, .int .u64 t128, .int .u64 t129, .int .u64 t130, .bool (!(t131 == 0) || (!(t132 == 0) || (!(t133 == 0) || (!(t134 == 0)))))], .int .i64 a2] (by rfl) rfl rfl (by (try simp only [List.map_toArray, List.map_cons, List.map_nil]); first | done | rfl | (simp only [List.length_drop, List.length_take]; rfl)) ?_
               with_reducible refine (rnd_Round.calls ((Go.bits .and .u64 (Go.bits .xor .u64 a0 a1) 9223372036854775808) != 0) (wrap64 ((wrap64 (t103 - t107)) - 128)) t127 t128 t129 t130 (!(t131 == 0) || (!(t132 == 0) || (!(t133 == 0) || (!(t134 == 0))))) a2 t137 t138 _ A51.out).mono ?_
               rintro e w73 ⟨rfl, hb⟩
               refine ⟨_, rfl, ?_⟩
               have n0_ := Aside0.mk (blk_below BK109.out hb)
               have n1_ := Aside0.mk (blk_below BK110.out hb)
               have n2_ := Aside0.mk (blk_below BK135.out hb)
               have n3_ := Aside0.mk (blk_below BK136.out hb)
               have n4_ := Aside0.mk (below_step HB.out hb)
               clear BK109 BK110 BK135 BK136 HB; have BK109 := n0_; have BK110 := n1_; have BK135 := n2_; have BK136 := n3_; have HB := n4_; clear n0_ n1_ n2_ n3_ n4_
               (try clear hb)
               (try clear hb2)
               (try clear hk)
               (try clear hi)
               refine hK.out _ _ ⟨(blk_cell BK109.out 0).trans rfl, (blk_cell BK109.out 1).trans rfl, (blk_cell BK109.out 2).trans rfl, (blk_cell BK109.out 3).trans rfl, (blk_cell BK110.out 0).trans rfl, (blk_cell BK110.out 1).trans rfl, (blk_cell BK110.out 2).trans rfl, (blk_cell BK110.out 3).trans rfl, (blk_cell BK135.out 0).trans rfl, (blk_cell BK135.out 1).trans rfl, (blk_cell BK135.out 2).trans rfl, (blk_cell BK135.out 3).trans rfl, (blk_cell BK136.out 0).trans rfl, (blk_cell BK136.out 1).trans rfl, (blk_cell BK136.out 2).trans rfl, (blk_cell BK136.out 3).trans rfl⟩ (fun hHeld => ?_)
               clear hK K
               refine norm_ (a' := ?_) ?_ ?_
               rotate_left
               · show Act.put _ (some 95) _ = _
                 simp only [Act.put, List.setIfInBounds_toArray, List.set_cons_zero, List.set_cons_succ, i64_w, i32_w]
                 rfl
               refine pure_ (i := 15) (N := some 96) (v := ?_) (a' := ?_) #[true, true, true, true, true, true, true, true, true, true, true, true, true, true, true, true, false, false, false] rfl rfl (any_of HT_.out (by kernel_rfl)) (fun _ _ _ h => h) (Or.inl ⟨by rfl, ?_⟩) ?_ ?_
               rotate_left
               · intro w'
                 go_simp
                 with_reducible rfl
               rotate_left
               · simp only [Act.put, List.setIfInBounds_toArray, List.set_cons_zero, List.set_cons_succ, i64_w, i32_w]
                 rfl
               refine pure_ (i := 16) (N := some 97) (v := ?_) (a' := ?_) #[true, true, true, true, true, true, true, true, true, true, true, true, true, true, true, true, true, false, false] rfl rfl (any_of HT_.out (by kernel_rfl)) (fun _ _ _ h => h) (Or.inl ⟨by rfl, ?_⟩) ?_ ?_
               rotate_left
               · intro w'
                 go_simp
                 with_reducible rfl
               rotate_left
               · simp only [Act.put, List.setIfInBounds_toArray, List.set_cons_zero, List.set_cons_succ, i64_w, i32_w]
                 rfl
               refine pure_ (i := 17) (N := some 6) (v := ?_) (a' := ?_) #[true, true, true, true, true, true, true, true, true, true, true, true, true, true, true, true, true, true, false] rfl rfl (any_of HT_.out (by kernel_rfl)) (fun _ _ _ h => h) (Or.inl ⟨by rfl, ?_⟩) ?_ ?_
               rotate_left
               · intro w'
                 go_simp
                 with_reducible rfl
               rotate_left
               · simp only [Act.put, List.setIfInBounds_toArray, List.set_cons_zero, List.set_cons_succ, i64_w, i32_w]
                 rfl
               refine pure_ (i := 18) (N := some 7) (v := ?_) (a' := ?_) #[true, true, true, true, true, true, true, true, true, true, true, true, true, true, true, true, true, true, true] rfl rfl (any_of HT_.out (by kernel_rfl)) (fun _ _ _ h => h) (Or.inl ⟨by rfl, ?_⟩) ?_ ?_
               rotate_left
               · intro w'
                 go_simp
                 with_reducible rfl
               rotate_left
               · simp only [Act.put, List.setIfInBounds_toArray, List.set_cons_zero, List.set_cons_succ, i64_w, i32_w]
                 rfl
               refine done_ (done_of HT_.out (by kernel_rfl)) ?_
               try go_wp2
               go_ret2
               exact ⟨by first | rfl | (simp [errW_none, errW_some] <;> rfl) | (simp [*, errW_none, errW_some] <;> rfl), by repeat (first | (with_reducible first | exact HB.out | apply below_alloc | apply pw_below_drewN | apply below_drew1 | refine below_set ?_ GE109.out | refine below_set ?_ GE110.out | refine below_set ?_ GE135.out | refine below_set ?_ GE136.out) | exact HB.out)⟩

end Go.Proofs.Ytedjlpfggjcmfaa.X
